/-
  NARROWER THAN 'FOR EVERY INPUT', by the rows' own cells (each row's printed sentence says how): Names: laid · IsaSays: laid · WordSays: laid · CpuSteps: laid · WorldNews: laid · MmuSays: laid · MmuMade: laid · IsaTexts: laid · WorldSays: laid · PartsChange: laid · SlotsSay: laid.
  DERIVED. THE GIVEN ROWS OF THIS SEAT. 11 by the template 'for every input the law returns true; each argument reads behind the call as it read before'; 0 by the template 'total and deterministic' (their statements: YtfmaeiilbhpepaaDoorTotals.lean).
  GIVEN WITH THE SEED: the statements are not yours to turn. If you find one false, say at which input.
  Laid BY PROGRAM, IN A SANDBOX (cutbox-rows.mjs): the forced cells as the released guide's own fill.sh prints them over the translation 66995e8e348c9bfa… (all of the seat's roots in one cut). By AI agents, Wed Nov 11 2026. No macro, syntax, notation, axiom, sorry.
-/
import Derived.Test.YtfmaeiilbhpepaaDoorChecked
import GoSem.Claim
import GoSem.ClaimJoined
import GoSem.ClaimMapViews
import Derived.JoinedTies
import Derived.KernelRfl
namespace Go.Proofs.YtfmaeiilbhpepaaDoor
/- THE CELL 'sum', in the pinned program and in every row, IS THE sha256 OF THE DUMP (.gsa) THAT YtfmaeiilbhpepaaDoorProg.lean LOADS. Nothing in Lean hashes anything: it is a label: what it is worth is what the hold of that sum in a sandbox is worth. -/
noncomputable def Tryd.pinned : Pinned := { name := "ytfmaeiilbhpepaadoor", sum := "66995e8e348c9bfad0ffe6a2828c2f8fd2291bc418c6ea196eb711dc2af00912", checked := Tryd.checked }
namespace Rows
def none {H : Type} : Left H := { results := [], args := [] }

/- WHAT THE LISTED PACKAGE-LEVEL VARIABLES READ AS WHEN THE CALL BEGINS. Each datum BY PROGRAM (the guide's laid-datum.mjs) off the statement by which the dump's own 'gosem.cut.vars' lays the variable. In a bare row this is a premise. The card (YtfmaeiilbhpepaaDoorCards.lean) ties it to the program's text. -/
def laid_errors_errorType {H : Type} : DataW H := .iface "internal/reflectlite.rtype" (.agg [.ptr (.lit (.string [101, 114, 114, 111, 114]))])
def laid_keyhold_isa_shapes {H : Type} : DataW H := .agg [.agg [.lit (.string [104, 97, 108, 116]), .lit (.bool false), .lit (.bool false), .lit (.bool false)], .agg [.lit (.string [115, 101, 116]), .lit (.bool true), .lit (.bool false), .lit (.bool true)], .agg [.lit (.string [109, 111, 118]), .lit (.bool true), .lit (.bool true), .lit (.bool false)], .agg [.lit (.string [97, 100, 100]), .lit (.bool true), .lit (.bool true), .lit (.bool false)], .agg [.lit (.string [115, 117, 98]), .lit (.bool true), .lit (.bool true), .lit (.bool false)], .agg [.lit (.string [109, 117, 108]), .lit (.bool true), .lit (.bool true), .lit (.bool false)], .agg [.lit (.string [97, 110, 100]), .lit (.bool true), .lit (.bool true), .lit (.bool false)], .agg [.lit (.string [111, 114]), .lit (.bool true), .lit (.bool true), .lit (.bool false)], .agg [.lit (.string [120, 111, 114]), .lit (.bool true), .lit (.bool true), .lit (.bool false)], .agg [.lit (.string [108, 101, 115, 115]), .lit (.bool true), .lit (.bool true), .lit (.bool false)], .agg [.lit (.string [108, 111, 97, 100]), .lit (.bool true), .lit (.bool true), .lit (.bool true)], .agg [.lit (.string [115, 116, 111, 114, 101]), .lit (.bool true), .lit (.bool true), .lit (.bool true)], .agg [.lit (.string [106, 117, 109, 112]), .lit (.bool false), .lit (.bool false), .lit (.bool true)], .agg [.lit (.string [122, 101, 114, 111]), .lit (.bool true), .lit (.bool false), .lit (.bool true)], .agg [.lit (.string [115, 121, 115]), .lit (.bool false), .lit (.bool false), .lit (.bool true)]]
def laid_math_bits_deBruijn32tab {H : Type} : DataW H := .agg [.lit (.int .u8 0), .lit (.int .u8 1), .lit (.int .u8 28), .lit (.int .u8 2), .lit (.int .u8 29), .lit (.int .u8 14), .lit (.int .u8 24), .lit (.int .u8 3), .lit (.int .u8 30), .lit (.int .u8 22), .lit (.int .u8 20), .lit (.int .u8 15), .lit (.int .u8 25), .lit (.int .u8 17), .lit (.int .u8 4), .lit (.int .u8 8), .lit (.int .u8 31), .lit (.int .u8 27), .lit (.int .u8 13), .lit (.int .u8 23), .lit (.int .u8 21), .lit (.int .u8 19), .lit (.int .u8 16), .lit (.int .u8 7), .lit (.int .u8 26), .lit (.int .u8 12), .lit (.int .u8 18), .lit (.int .u8 6), .lit (.int .u8 11), .lit (.int .u8 5), .lit (.int .u8 10), .lit (.int .u8 9)]
def laid_math_bits_deBruijn64tab {H : Type} : DataW H := .agg [.lit (.int .u8 0), .lit (.int .u8 1), .lit (.int .u8 56), .lit (.int .u8 2), .lit (.int .u8 57), .lit (.int .u8 49), .lit (.int .u8 28), .lit (.int .u8 3), .lit (.int .u8 61), .lit (.int .u8 58), .lit (.int .u8 42), .lit (.int .u8 50), .lit (.int .u8 38), .lit (.int .u8 29), .lit (.int .u8 17), .lit (.int .u8 4), .lit (.int .u8 62), .lit (.int .u8 47), .lit (.int .u8 59), .lit (.int .u8 36), .lit (.int .u8 45), .lit (.int .u8 43), .lit (.int .u8 51), .lit (.int .u8 22), .lit (.int .u8 53), .lit (.int .u8 39), .lit (.int .u8 33), .lit (.int .u8 30), .lit (.int .u8 24), .lit (.int .u8 18), .lit (.int .u8 12), .lit (.int .u8 5), .lit (.int .u8 63), .lit (.int .u8 55), .lit (.int .u8 48), .lit (.int .u8 27), .lit (.int .u8 60), .lit (.int .u8 41), .lit (.int .u8 37), .lit (.int .u8 16), .lit (.int .u8 46), .lit (.int .u8 35), .lit (.int .u8 44), .lit (.int .u8 21), .lit (.int .u8 52), .lit (.int .u8 32), .lit (.int .u8 23), .lit (.int .u8 11), .lit (.int .u8 54), .lit (.int .u8 26), .lit (.int .u8 40), .lit (.int .u8 15), .lit (.int .u8 34), .lit (.int .u8 20), .lit (.int .u8 31), .lit (.int .u8 10), .lit (.int .u8 25), .lit (.int .u8 14), .lit (.int .u8 19), .lit (.int .u8 9), .lit (.int .u8 13), .lit (.int .u8 8), .lit (.int .u8 7), .lit (.int .u8 6)]
def laid_internal_strconv_uint64pow10 {H : Type} : DataW H := .agg [.lit (.int .u64 1), .lit (.int .u64 10), .lit (.int .u64 100), .lit (.int .u64 1000), .lit (.int .u64 10000), .lit (.int .u64 100000), .lit (.int .u64 1000000), .lit (.int .u64 10000000), .lit (.int .u64 100000000), .lit (.int .u64 1000000000), .lit (.int .u64 10000000000), .lit (.int .u64 100000000000), .lit (.int .u64 1000000000000), .lit (.int .u64 10000000000000), .lit (.int .u64 100000000000000), .lit (.int .u64 1000000000000000), .lit (.int .u64 10000000000000000), .lit (.int .u64 100000000000000000), .lit (.int .u64 1000000000000000000), .lit (.int .u64 10000000000000000000)]
def laid_keyhold_keyholdref_names {H : Type} : DataW H := .slice [.lit (.string [104, 97, 108, 116]), .lit (.string [115, 101, 116]), .lit (.string [109, 111, 118]), .lit (.string [97, 100, 100]), .lit (.string [115, 117, 98]), .lit (.string [109, 117, 108]), .lit (.string [97, 110, 100]), .lit (.string [111, 114]), .lit (.string [120, 111, 114]), .lit (.string [108, 101, 115, 115]), .lit (.string [108, 111, 97, 100]), .lit (.string [115, 116, 111, 114, 101]), .lit (.string [106, 117, 109, 112]), .lit (.string [122, 101, 114, 111]), .lit (.string [115, 121, 115])] []

/-- 'keyholdlaw.Names': WHATEVER THE INPUT: true; the input reads as it did. -/
def namesSpec : ChangeSpec := { name := "names", fn := fun _ => fun
  | [] => { results := [.lit (.bool true)], args := [] }
  | _ => none }
def namesRow : OpenClaim := { program := "ytfmaeiilbhpepaadoor", sum := "66995e8e348c9bfad0ffe6a2828c2f8fd2291bc418c6ea196eb711dc2af00912", func := "keyhold/keyholdlaw.Names", spec := "names", inPlace := ["internal/reflectlite.ValueOf", "(internal/reflectlite.Value).Type", "(internal/reflectlite.Value).IsNil", "internal/reflectlite.TypeOf", "(internal/reflectlite.Value).Elem", "(internal/reflectlite.Value).Set"], unfollowed := true, recurses := true, named := ["errors.errorType"], apart := false, laid := [("errors.errorType", laid_errors_errorType)] }
def NamesSaid : Prop := namesRow.holds Tryd.pinned (OpenSpec.ofChange namesSpec)

/-- ITS FALSE NEIGHBOUR: 'it returns false'. Refute it at one input. -/
def namesWrong : ChangeSpec := { name := "names", fn := fun _ => fun
  | [] => { results := [.lit (.bool false)], args := [] }
  | _ => none }
def NamesWrongFalsely : Prop := namesRow.holds Tryd.pinned (OpenSpec.ofChange namesWrong)

/-- 'keyholdlaw.IsaSays': WHATEVER THE INPUT: true; the input reads as it did. -/
def isaSaysSpec : ChangeSpec := { name := "isaSays", fn := fun _ => fun
  | [d1, d2, d3] => { results := [.lit (.bool true)], args := [d1, d2, d3] }
  | _ => none }
def isaSaysRow : OpenClaim := { program := "ytfmaeiilbhpepaadoor", sum := "66995e8e348c9bfad0ffe6a2828c2f8fd2291bc418c6ea196eb711dc2af00912", func := "keyhold/keyholdlaw.IsaSays", spec := "isaSays", inPlace := ["internal/reflectlite.ValueOf", "(internal/reflectlite.Value).Type", "(internal/reflectlite.Value).IsNil", "internal/reflectlite.TypeOf", "(internal/reflectlite.Value).Elem", "(internal/reflectlite.Value).Set"], unfollowed := true, recurses := true, named := ["keyhold/isa.shapes", "errors.errorType"], apart := false, laid := [("errors.errorType", laid_errors_errorType), ("keyhold/isa.shapes", laid_keyhold_isa_shapes)] }
def IsaSaysSaid : Prop := isaSaysRow.holds Tryd.pinned (OpenSpec.ofChange isaSaysSpec)

/-- ITS FALSE NEIGHBOUR: 'it returns false'. Refute it at one input. -/
def isaSaysWrong : ChangeSpec := { name := "isaSays", fn := fun _ => fun
  | [d1, d2, d3] => { results := [.lit (.bool false)], args := [d1, d2, d3] }
  | _ => none }
def IsaSaysWrongFalsely : Prop := isaSaysRow.holds Tryd.pinned (OpenSpec.ofChange isaSaysWrong)

/-- 'keyholdlaw.WordSays': WHATEVER THE INPUT: true; the input reads as it did. -/
def wordSaysSpec : ChangeSpec := { name := "wordSays", fn := fun _ => fun
  | [d1, d2] => { results := [.lit (.bool true)], args := [d1, d2] }
  | _ => none }
def wordSaysRow : OpenClaim := { program := "ytfmaeiilbhpepaadoor", sum := "66995e8e348c9bfad0ffe6a2828c2f8fd2291bc418c6ea196eb711dc2af00912", func := "keyhold/keyholdlaw.WordSays", spec := "wordSays", inPlace := ["internal/reflectlite.ValueOf", "(internal/reflectlite.Value).Type", "(internal/reflectlite.Value).IsNil", "internal/reflectlite.TypeOf", "(internal/reflectlite.Value).Elem", "(internal/reflectlite.Value).Set"], unfollowed := true, recurses := true, named := ["errors.errorType"], apart := false, laid := [("errors.errorType", laid_errors_errorType)] }
def WordSaysSaid : Prop := wordSaysRow.holds Tryd.pinned (OpenSpec.ofChange wordSaysSpec)

/-- ITS FALSE NEIGHBOUR: 'it returns false'. Refute it at one input. -/
def wordSaysWrong : ChangeSpec := { name := "wordSays", fn := fun _ => fun
  | [d1, d2] => { results := [.lit (.bool false)], args := [d1, d2] }
  | _ => none }
def WordSaysWrongFalsely : Prop := wordSaysRow.holds Tryd.pinned (OpenSpec.ofChange wordSaysWrong)

/-- 'keyholdlaw.CpuSteps': WHATEVER THE INPUT: true; the input reads as it did. -/
def cpuStepsSpec : ChangeSpec := { name := "cpuSteps", fn := fun _ => fun
  | [d1, d2, d3, d4] => { results := [.lit (.bool true)], args := [d1, d2, d3, d4] }
  | _ => none }
def cpuStepsRow : OpenClaim := { program := "ytfmaeiilbhpepaadoor", sum := "66995e8e348c9bfad0ffe6a2828c2f8fd2291bc418c6ea196eb711dc2af00912", func := "keyhold/keyholdlaw.CpuSteps", spec := "cpuSteps", unfollowed := true, recurses := true, named := ["keyhold/isa.shapes"], apart := false, laid := [("keyhold/isa.shapes", laid_keyhold_isa_shapes)] }
def CpuStepsSaid : Prop := cpuStepsRow.holds Tryd.pinned (OpenSpec.ofChange cpuStepsSpec)

/-- ITS FALSE NEIGHBOUR: 'it returns false'. Refute it at one input. -/
def cpuStepsWrong : ChangeSpec := { name := "cpuSteps", fn := fun _ => fun
  | [d1, d2, d3, d4] => { results := [.lit (.bool false)], args := [d1, d2, d3, d4] }
  | _ => none }
def CpuStepsWrongFalsely : Prop := cpuStepsRow.holds Tryd.pinned (OpenSpec.ofChange cpuStepsWrong)

/-- 'keyholdlaw.WorldNews': WHATEVER THE INPUT: true; the input reads as it did. -/
def worldNewsSpec : ChangeSpec := { name := "worldNews", fn := fun _ => fun
  | [d1, d2, d3] => { results := [.lit (.bool true)], args := [d1, d2, d3] }
  | _ => none }
def worldNewsRow : OpenClaim := { program := "ytfmaeiilbhpepaadoor", sum := "66995e8e348c9bfad0ffe6a2828c2f8fd2291bc418c6ea196eb711dc2af00912", func := "keyhold/keyholdlaw.WorldNews", spec := "worldNews", inPlace := ["internal/reflectlite.ValueOf", "(internal/reflectlite.Value).Type", "(internal/reflectlite.Value).IsNil", "internal/reflectlite.TypeOf", "(internal/reflectlite.Value).Elem", "(internal/reflectlite.Value).Set"], unfollowed := true, recurses := true, named := ["errors.errorType"], apart := false, laid := [("errors.errorType", laid_errors_errorType)] }
def WorldNewsSaid : Prop := worldNewsRow.holds Tryd.pinned (OpenSpec.ofChange worldNewsSpec)

/-- ITS FALSE NEIGHBOUR: 'it returns false'. Refute it at one input. -/
def worldNewsWrong : ChangeSpec := { name := "worldNews", fn := fun _ => fun
  | [d1, d2, d3] => { results := [.lit (.bool false)], args := [d1, d2, d3] }
  | _ => none }
def WorldNewsWrongFalsely : Prop := worldNewsRow.holds Tryd.pinned (OpenSpec.ofChange worldNewsWrong)

/-- 'keyholdlaw.MmuSays': WHATEVER THE INPUT: true; the input reads as it did. -/
def mmuSaysSpec : ChangeSpec := { name := "mmuSays", fn := fun _ => fun
  | [d1, d2, d3, d4, d5, d6] => { results := [.lit (.bool true)], args := [d1, d2, d3, d4, d5, d6] }
  | _ => none }
def mmuSaysRow : OpenClaim := { program := "ytfmaeiilbhpepaadoor", sum := "66995e8e348c9bfad0ffe6a2828c2f8fd2291bc418c6ea196eb711dc2af00912", func := "keyhold/keyholdlaw.MmuSays", spec := "mmuSays", inPlace := ["internal/reflectlite.ValueOf", "(internal/reflectlite.Value).Type", "(internal/reflectlite.Value).IsNil", "internal/reflectlite.TypeOf", "(internal/reflectlite.Value).Elem", "(internal/reflectlite.Value).Set"], unfollowed := true, recurses := true, named := ["errors.errorType"], apart := false, laid := [("errors.errorType", laid_errors_errorType)] }
def MmuSaysSaid : Prop := mmuSaysRow.holds Tryd.pinned (OpenSpec.ofChange mmuSaysSpec)

/-- ITS FALSE NEIGHBOUR: 'it returns false'. Refute it at one input. -/
def mmuSaysWrong : ChangeSpec := { name := "mmuSays", fn := fun _ => fun
  | [d1, d2, d3, d4, d5, d6] => { results := [.lit (.bool false)], args := [d1, d2, d3, d4, d5, d6] }
  | _ => none }
def MmuSaysWrongFalsely : Prop := mmuSaysRow.holds Tryd.pinned (OpenSpec.ofChange mmuSaysWrong)

/-- 'keyholdlaw.MmuMade': WHATEVER THE INPUT: true; the input reads as it did. -/
def mmuMadeSpec : ChangeSpec := { name := "mmuMade", fn := fun _ => fun
  | [d1, d2, d3, d4] => { results := [.lit (.bool true)], args := [d1, d2, d3, d4] }
  | _ => none }
def mmuMadeRow : OpenClaim := { program := "ytfmaeiilbhpepaadoor", sum := "66995e8e348c9bfad0ffe6a2828c2f8fd2291bc418c6ea196eb711dc2af00912", func := "keyhold/keyholdlaw.MmuMade", spec := "mmuMade", inPlace := ["internal/reflectlite.ValueOf", "(internal/reflectlite.Value).Type", "(internal/reflectlite.Value).IsNil", "internal/reflectlite.TypeOf", "(internal/reflectlite.Value).Elem", "(internal/reflectlite.Value).Set"], unfollowed := true, recurses := true, named := ["errors.errorType"], apart := false, laid := [("errors.errorType", laid_errors_errorType)] }
def MmuMadeSaid : Prop := mmuMadeRow.holds Tryd.pinned (OpenSpec.ofChange mmuMadeSpec)

/-- ITS FALSE NEIGHBOUR: 'it returns false'. Refute it at one input. -/
def mmuMadeWrong : ChangeSpec := { name := "mmuMade", fn := fun _ => fun
  | [d1, d2, d3, d4] => { results := [.lit (.bool false)], args := [d1, d2, d3, d4] }
  | _ => none }
def MmuMadeWrongFalsely : Prop := mmuMadeRow.holds Tryd.pinned (OpenSpec.ofChange mmuMadeWrong)

/-- 'keyholdlaw.IsaTexts': WHATEVER THE INPUT: true; the input reads as it did. -/
def isaTextsSpec : ChangeSpec := { name := "isaTexts", fn := fun _ => fun
  | [d] => { results := [.lit (.bool true)], args := [d] }
  | _ => none }
def isaTextsRow : OpenClaim := { program := "ytfmaeiilbhpepaadoor", sum := "66995e8e348c9bfad0ffe6a2828c2f8fd2291bc418c6ea196eb711dc2af00912", func := "keyhold/keyholdlaw.IsaTexts", spec := "isaTexts", inPlace := ["internal/abi.NoEscape", "internal/reflectlite.ValueOf", "(internal/reflectlite.Value).Type", "(internal/reflectlite.Value).IsNil", "internal/reflectlite.TypeOf", "(internal/reflectlite.Value).Elem", "(internal/reflectlite.Value).Set"], unfollowed := true, recurses := true, named := ["keyhold/keyholdref.names", "keyhold/isa.shapes", "internal/strconv.uint64pow10", "math/bits.deBruijn32tab", "math/bits.deBruijn64tab", "errors.errorType"], apart := false, laid := [("math/bits.deBruijn32tab", laid_math_bits_deBruijn32tab), ("math/bits.deBruijn64tab", laid_math_bits_deBruijn64tab), ("internal/strconv.uint64pow10", laid_internal_strconv_uint64pow10), ("errors.errorType", laid_errors_errorType), ("keyhold/keyholdref.names", laid_keyhold_keyholdref_names), ("keyhold/isa.shapes", laid_keyhold_isa_shapes)] }
def IsaTextsSaid : Prop := isaTextsRow.holds Tryd.pinned (OpenSpec.ofChange isaTextsSpec)

/-- ITS FALSE NEIGHBOUR: 'it returns false'. Refute it at one input. -/
def isaTextsWrong : ChangeSpec := { name := "isaTexts", fn := fun _ => fun
  | [d] => { results := [.lit (.bool false)], args := [d] }
  | _ => none }
def IsaTextsWrongFalsely : Prop := isaTextsRow.holds Tryd.pinned (OpenSpec.ofChange isaTextsWrong)

/-- 'keyholdlaw.WorldSays': WHATEVER THE INPUT: true; the input reads as it did. -/
def worldSaysSpec : ChangeSpec := { name := "worldSays", fn := fun _ => fun
  | [d] => { results := [.lit (.bool true)], args := [d] }
  | _ => none }
def worldSaysRow : OpenClaim := { program := "ytfmaeiilbhpepaadoor", sum := "66995e8e348c9bfad0ffe6a2828c2f8fd2291bc418c6ea196eb711dc2af00912", func := "keyhold/keyholdlaw.WorldSays", spec := "worldSays", inPlace := ["internal/reflectlite.ValueOf", "(internal/reflectlite.Value).Type", "(internal/reflectlite.Value).IsNil", "internal/reflectlite.TypeOf", "(internal/reflectlite.Value).Elem", "(internal/reflectlite.Value).Set"], unfollowed := true, recurses := true, named := ["errors.errorType"], apart := false, laid := [("errors.errorType", laid_errors_errorType)] }
def WorldSaysSaid : Prop := worldSaysRow.holds Tryd.pinned (OpenSpec.ofChange worldSaysSpec)

/-- ITS FALSE NEIGHBOUR: 'it returns false'. Refute it at one input. -/
def worldSaysWrong : ChangeSpec := { name := "worldSays", fn := fun _ => fun
  | [d] => { results := [.lit (.bool false)], args := [d] }
  | _ => none }
def WorldSaysWrongFalsely : Prop := worldSaysRow.holds Tryd.pinned (OpenSpec.ofChange worldSaysWrong)

/-- 'keyholdlaw.PartsChange': WHATEVER THE INPUT: true; the input reads as it did. -/
def partsChangeSpec : ChangeSpec := { name := "partsChange", fn := fun _ => fun
  | [d1, d2] => { results := [.lit (.bool true)], args := [d1, d2] }
  | _ => none }
def partsChangeRow : OpenClaim := { program := "ytfmaeiilbhpepaadoor", sum := "66995e8e348c9bfad0ffe6a2828c2f8fd2291bc418c6ea196eb711dc2af00912", func := "keyhold/keyholdlaw.PartsChange", spec := "partsChange", inPlace := ["internal/reflectlite.ValueOf", "(internal/reflectlite.Value).Type", "(internal/reflectlite.Value).IsNil", "internal/reflectlite.TypeOf", "(internal/reflectlite.Value).Elem", "(internal/reflectlite.Value).Set"], unfollowed := true, recurses := true, named := ["errors.errorType"], apart := false, laid := [("errors.errorType", laid_errors_errorType)] }
def PartsChangeSaid : Prop := partsChangeRow.holds Tryd.pinned (OpenSpec.ofChange partsChangeSpec)

/-- ITS FALSE NEIGHBOUR: 'it returns false'. Refute it at one input. -/
def partsChangeWrong : ChangeSpec := { name := "partsChange", fn := fun _ => fun
  | [d1, d2] => { results := [.lit (.bool false)], args := [d1, d2] }
  | _ => none }
def PartsChangeWrongFalsely : Prop := partsChangeRow.holds Tryd.pinned (OpenSpec.ofChange partsChangeWrong)

/-- 'keyholdlaw.SlotsSay': WHATEVER THE INPUT: true; the input reads as it did. -/
def slotsSaySpec : ChangeSpec := { name := "slotsSay", fn := fun _ => fun
  | [d1, d2, d3, d4, d5] => { results := [.lit (.bool true)], args := [d1, d2, d3, d4, d5] }
  | _ => none }
def slotsSayRow : OpenClaim := { program := "ytfmaeiilbhpepaadoor", sum := "66995e8e348c9bfad0ffe6a2828c2f8fd2291bc418c6ea196eb711dc2af00912", func := "keyhold/keyholdlaw.SlotsSay", spec := "slotsSay", inPlace := ["internal/reflectlite.ValueOf", "(internal/reflectlite.Value).Type", "(internal/reflectlite.Value).IsNil", "internal/reflectlite.TypeOf", "(internal/reflectlite.Value).Elem", "(internal/reflectlite.Value).Set"], unfollowed := true, recurses := true, named := ["errors.errorType"], apart := false, laid := [("errors.errorType", laid_errors_errorType)] }
def SlotsSaySaid : Prop := slotsSayRow.holds Tryd.pinned (OpenSpec.ofChange slotsSaySpec)

/-- ITS FALSE NEIGHBOUR: 'it returns false'. Refute it at one input. -/
def slotsSayWrong : ChangeSpec := { name := "slotsSay", fn := fun _ => fun
  | [d1, d2, d3, d4, d5] => { results := [.lit (.bool false)], args := [d1, d2, d3, d4, d5] }
  | _ => none }
def SlotsSayWrongFalsely : Prop := slotsSayRow.holds Tryd.pinned (OpenSpec.ofChange slotsSayWrong)

/- THE SECOND FORM. 'bulk': how many values and letters a reading holds, each counted each time it is reached (what is shared counts as often as it is met; a slice's spare places count too). A statement '..UptoSaid' is the law's where the arguments, and the package variables that the reading takes, are together of bulk at most 1048576: NARROWER than '..Said'. Prove '..Said' where nothing that the law and all that it calls make is longer than what came in: it says more and counts as full. Else prove '..UptoSaid'. A law counts once. -/
mutual
def uptoBulk {H : Type} : DataW H → Nat
  | .lit (.string bytes) => bytes.length + 1
  | .lit _ => 1
  | .nil => 1
  | .ptr d => uptoBulk d + 1
  | .slice elems spare => uptoBulkAll elems + uptoBulkAll spare + 1
  | .agg parts => uptoBulkAll parts + 1
  | .iface _ d => uptoBulk d + 1
  | .map entries => uptoBulkEntries entries + 1
  | .held _ => 1
def uptoBulkAll {H : Type} : List (DataW H) → Nat
  | [] => 0
  | d :: r => uptoBulk d + uptoBulkAll r
def uptoBulkEntries {H : Type} : List (Lit × DataW H) → Nat
  | [] => 0
  | x :: r => uptoBulkEntry x + uptoBulkEntries r
def uptoBulkEntry {H : Type} : Lit × DataW H → Nat
  | (.string bytes, d) => bytes.length + uptoBulk d + 1
  | (_, d) => uptoBulk d + 1
 end
def uptoSmall : (H : Type) → List (DataW H) → Bool := fun _ ds => decide (uptoBulkAll ds ≤ 1048576)
def OpenSpec.upto (s : _root_.Go.ChangeSpec) : _root_.Go.OpenSpec := { _root_.Go.OpenSpec.ofChange s with cond := some uptoSmall }

/-- 'keyholdlaw.Names', WHERE WHAT IT READS IS OF BULK AT MOST 1048576: true; the input reads as it did. -/
def namesUptoRow : OpenClaim := { program := "ytfmaeiilbhpepaadoor", sum := "66995e8e348c9bfad0ffe6a2828c2f8fd2291bc418c6ea196eb711dc2af00912", func := "keyhold/keyholdlaw.Names", spec := "names", inPlace := ["internal/reflectlite.ValueOf", "(internal/reflectlite.Value).Type", "(internal/reflectlite.Value).IsNil", "internal/reflectlite.TypeOf", "(internal/reflectlite.Value).Elem", "(internal/reflectlite.Value).Set"], unfollowed := true, recurses := true, named := ["errors.errorType"], apart := false, laid := [("errors.errorType", laid_errors_errorType)], narrowed := true }
def NamesUptoSaid : Prop := namesUptoRow.holds Tryd.pinned (OpenSpec.upto namesSpec)

/-- 'keyholdlaw.IsaSays', WHERE WHAT IT READS IS OF BULK AT MOST 1048576: true; the input reads as it did. -/
def isaSaysUptoRow : OpenClaim := { program := "ytfmaeiilbhpepaadoor", sum := "66995e8e348c9bfad0ffe6a2828c2f8fd2291bc418c6ea196eb711dc2af00912", func := "keyhold/keyholdlaw.IsaSays", spec := "isaSays", inPlace := ["internal/reflectlite.ValueOf", "(internal/reflectlite.Value).Type", "(internal/reflectlite.Value).IsNil", "internal/reflectlite.TypeOf", "(internal/reflectlite.Value).Elem", "(internal/reflectlite.Value).Set"], unfollowed := true, recurses := true, named := ["keyhold/isa.shapes", "errors.errorType"], apart := false, laid := [("errors.errorType", laid_errors_errorType), ("keyhold/isa.shapes", laid_keyhold_isa_shapes)], narrowed := true }
def IsaSaysUptoSaid : Prop := isaSaysUptoRow.holds Tryd.pinned (OpenSpec.upto isaSaysSpec)

/-- 'keyholdlaw.WordSays', WHERE WHAT IT READS IS OF BULK AT MOST 1048576: true; the input reads as it did. -/
def wordSaysUptoRow : OpenClaim := { program := "ytfmaeiilbhpepaadoor", sum := "66995e8e348c9bfad0ffe6a2828c2f8fd2291bc418c6ea196eb711dc2af00912", func := "keyhold/keyholdlaw.WordSays", spec := "wordSays", inPlace := ["internal/reflectlite.ValueOf", "(internal/reflectlite.Value).Type", "(internal/reflectlite.Value).IsNil", "internal/reflectlite.TypeOf", "(internal/reflectlite.Value).Elem", "(internal/reflectlite.Value).Set"], unfollowed := true, recurses := true, named := ["errors.errorType"], apart := false, laid := [("errors.errorType", laid_errors_errorType)], narrowed := true }
def WordSaysUptoSaid : Prop := wordSaysUptoRow.holds Tryd.pinned (OpenSpec.upto wordSaysSpec)

/-- 'keyholdlaw.CpuSteps', WHERE WHAT IT READS IS OF BULK AT MOST 1048576: true; the input reads as it did. -/
def cpuStepsUptoRow : OpenClaim := { program := "ytfmaeiilbhpepaadoor", sum := "66995e8e348c9bfad0ffe6a2828c2f8fd2291bc418c6ea196eb711dc2af00912", func := "keyhold/keyholdlaw.CpuSteps", spec := "cpuSteps", unfollowed := true, recurses := true, named := ["keyhold/isa.shapes"], apart := false, laid := [("keyhold/isa.shapes", laid_keyhold_isa_shapes)], narrowed := true }
def CpuStepsUptoSaid : Prop := cpuStepsUptoRow.holds Tryd.pinned (OpenSpec.upto cpuStepsSpec)

/-- 'keyholdlaw.WorldNews', WHERE WHAT IT READS IS OF BULK AT MOST 1048576: true; the input reads as it did. -/
def worldNewsUptoRow : OpenClaim := { program := "ytfmaeiilbhpepaadoor", sum := "66995e8e348c9bfad0ffe6a2828c2f8fd2291bc418c6ea196eb711dc2af00912", func := "keyhold/keyholdlaw.WorldNews", spec := "worldNews", inPlace := ["internal/reflectlite.ValueOf", "(internal/reflectlite.Value).Type", "(internal/reflectlite.Value).IsNil", "internal/reflectlite.TypeOf", "(internal/reflectlite.Value).Elem", "(internal/reflectlite.Value).Set"], unfollowed := true, recurses := true, named := ["errors.errorType"], apart := false, laid := [("errors.errorType", laid_errors_errorType)], narrowed := true }
def WorldNewsUptoSaid : Prop := worldNewsUptoRow.holds Tryd.pinned (OpenSpec.upto worldNewsSpec)

/-- 'keyholdlaw.MmuSays', WHERE WHAT IT READS IS OF BULK AT MOST 1048576: true; the input reads as it did. -/
def mmuSaysUptoRow : OpenClaim := { program := "ytfmaeiilbhpepaadoor", sum := "66995e8e348c9bfad0ffe6a2828c2f8fd2291bc418c6ea196eb711dc2af00912", func := "keyhold/keyholdlaw.MmuSays", spec := "mmuSays", inPlace := ["internal/reflectlite.ValueOf", "(internal/reflectlite.Value).Type", "(internal/reflectlite.Value).IsNil", "internal/reflectlite.TypeOf", "(internal/reflectlite.Value).Elem", "(internal/reflectlite.Value).Set"], unfollowed := true, recurses := true, named := ["errors.errorType"], apart := false, laid := [("errors.errorType", laid_errors_errorType)], narrowed := true }
def MmuSaysUptoSaid : Prop := mmuSaysUptoRow.holds Tryd.pinned (OpenSpec.upto mmuSaysSpec)

/-- 'keyholdlaw.MmuMade', WHERE WHAT IT READS IS OF BULK AT MOST 1048576: true; the input reads as it did. -/
def mmuMadeUptoRow : OpenClaim := { program := "ytfmaeiilbhpepaadoor", sum := "66995e8e348c9bfad0ffe6a2828c2f8fd2291bc418c6ea196eb711dc2af00912", func := "keyhold/keyholdlaw.MmuMade", spec := "mmuMade", inPlace := ["internal/reflectlite.ValueOf", "(internal/reflectlite.Value).Type", "(internal/reflectlite.Value).IsNil", "internal/reflectlite.TypeOf", "(internal/reflectlite.Value).Elem", "(internal/reflectlite.Value).Set"], unfollowed := true, recurses := true, named := ["errors.errorType"], apart := false, laid := [("errors.errorType", laid_errors_errorType)], narrowed := true }
def MmuMadeUptoSaid : Prop := mmuMadeUptoRow.holds Tryd.pinned (OpenSpec.upto mmuMadeSpec)

/-- 'keyholdlaw.IsaTexts', WHERE WHAT IT READS IS OF BULK AT MOST 1048576: true; the input reads as it did. -/
def isaTextsUptoRow : OpenClaim := { program := "ytfmaeiilbhpepaadoor", sum := "66995e8e348c9bfad0ffe6a2828c2f8fd2291bc418c6ea196eb711dc2af00912", func := "keyhold/keyholdlaw.IsaTexts", spec := "isaTexts", inPlace := ["internal/abi.NoEscape", "internal/reflectlite.ValueOf", "(internal/reflectlite.Value).Type", "(internal/reflectlite.Value).IsNil", "internal/reflectlite.TypeOf", "(internal/reflectlite.Value).Elem", "(internal/reflectlite.Value).Set"], unfollowed := true, recurses := true, named := ["keyhold/keyholdref.names", "keyhold/isa.shapes", "internal/strconv.uint64pow10", "math/bits.deBruijn32tab", "math/bits.deBruijn64tab", "errors.errorType"], apart := false, laid := [("math/bits.deBruijn32tab", laid_math_bits_deBruijn32tab), ("math/bits.deBruijn64tab", laid_math_bits_deBruijn64tab), ("internal/strconv.uint64pow10", laid_internal_strconv_uint64pow10), ("errors.errorType", laid_errors_errorType), ("keyhold/keyholdref.names", laid_keyhold_keyholdref_names), ("keyhold/isa.shapes", laid_keyhold_isa_shapes)], narrowed := true }
def IsaTextsUptoSaid : Prop := isaTextsUptoRow.holds Tryd.pinned (OpenSpec.upto isaTextsSpec)

/-- 'keyholdlaw.WorldSays', WHERE WHAT IT READS IS OF BULK AT MOST 1048576: true; the input reads as it did. -/
def worldSaysUptoRow : OpenClaim := { program := "ytfmaeiilbhpepaadoor", sum := "66995e8e348c9bfad0ffe6a2828c2f8fd2291bc418c6ea196eb711dc2af00912", func := "keyhold/keyholdlaw.WorldSays", spec := "worldSays", inPlace := ["internal/reflectlite.ValueOf", "(internal/reflectlite.Value).Type", "(internal/reflectlite.Value).IsNil", "internal/reflectlite.TypeOf", "(internal/reflectlite.Value).Elem", "(internal/reflectlite.Value).Set"], unfollowed := true, recurses := true, named := ["errors.errorType"], apart := false, laid := [("errors.errorType", laid_errors_errorType)], narrowed := true }
def WorldSaysUptoSaid : Prop := worldSaysUptoRow.holds Tryd.pinned (OpenSpec.upto worldSaysSpec)

/-- 'keyholdlaw.PartsChange', WHERE WHAT IT READS IS OF BULK AT MOST 1048576: true; the input reads as it did. -/
def partsChangeUptoRow : OpenClaim := { program := "ytfmaeiilbhpepaadoor", sum := "66995e8e348c9bfad0ffe6a2828c2f8fd2291bc418c6ea196eb711dc2af00912", func := "keyhold/keyholdlaw.PartsChange", spec := "partsChange", inPlace := ["internal/reflectlite.ValueOf", "(internal/reflectlite.Value).Type", "(internal/reflectlite.Value).IsNil", "internal/reflectlite.TypeOf", "(internal/reflectlite.Value).Elem", "(internal/reflectlite.Value).Set"], unfollowed := true, recurses := true, named := ["errors.errorType"], apart := false, laid := [("errors.errorType", laid_errors_errorType)], narrowed := true }
def PartsChangeUptoSaid : Prop := partsChangeUptoRow.holds Tryd.pinned (OpenSpec.upto partsChangeSpec)

/-- 'keyholdlaw.SlotsSay', WHERE WHAT IT READS IS OF BULK AT MOST 1048576: true; the input reads as it did. -/
def slotsSayUptoRow : OpenClaim := { program := "ytfmaeiilbhpepaadoor", sum := "66995e8e348c9bfad0ffe6a2828c2f8fd2291bc418c6ea196eb711dc2af00912", func := "keyhold/keyholdlaw.SlotsSay", spec := "slotsSay", inPlace := ["internal/reflectlite.ValueOf", "(internal/reflectlite.Value).Type", "(internal/reflectlite.Value).IsNil", "internal/reflectlite.TypeOf", "(internal/reflectlite.Value).Elem", "(internal/reflectlite.Value).Set"], unfollowed := true, recurses := true, named := ["errors.errorType"], apart := false, laid := [("errors.errorType", laid_errors_errorType)], narrowed := true }
def SlotsSayUptoSaid : Prop := slotsSayUptoRow.holds Tryd.pinned (OpenSpec.upto slotsSaySpec)

end Rows
end Go.Proofs.YtfmaeiilbhpepaaDoor
