/-
  Sy, the entry: what the data of a row's arguments stand for.
-/
import Derived.Test.YtdjilaofmdhikaaYG
import Derived.ChangeArms
import Derived.OpenShut
import Derived.DataReads
import Derived.WideShapes
import Derived.Test.YtdjilaofmdhikaaProg
import Derived.IntWalk
import Derived.Test.YtdjilaofmdhikaaRows
import Derived.MakeChecks
import Derived.Lay
import Derived.ChangeSame
import Derived.ChangeVars
import Derived.JoinedOf
import Derived.RowKit
import Derived.LaidLaws
import Derived.LaidHandle
import Derived.Stop.Joined
import Derived.OpenVars
set_option linter.unusedVariables false
set_option linter.unusedSimpArgs false
set_option linter.unusedVariables false
set_option linter.unusedSimpArgs false
namespace Go.Sy
open Go.RowKit
def o0 : Ow := ⟨fun _ => False, fun _ => False, fun _ _ => none, fun _ => (0, 0)⟩
variable {H : Type}
def litI : DataW H → Int | .lit (.int _ n) => n | _ => 0
def litB : DataW H → Bool | .lit (.bool b) => b | _ => false
def litS : DataW H → ByteArray | .lit (.string l) => ⟨l.toArray⟩ | _ => ByteArray.empty
def nthD : List (DataW H) → Nat → DataW H | [], _ => .nil | x :: _, 0 => x | _ :: r, n + 1 => nthD r n
def dpart : DataW H → Nat → DataW H | .agg l, i => nthD l i | _, _ => .nil
def dlen : DataW H → Nat | .slice l _ => l.length | _ => 0
def delem : DataW H → Nat → DataW H | .slice l _, i => nthD l i | _, _ => .nil
def fieldAt (P : Program) (j : Nat) : Nat → List Field → Option (Nat × Field)
  | _, [] => none
  | k, f :: r => match Nat.ble f.offset j && Nat.blt j (f.offset + P.cellsOf f.type) with | true => some (k, f) | false => fieldAt P j (k + 1) r
def dcell (P : Program) : Nat → TypeId → DataW H → Nat → SV
  | 0, _, _, _ => .junk
  | n + 1, T, d, j =>
    match P.underlying T with
    | some (.int k) => match j with | 0 => .v (.int k (litI d)) | _ => .junk
    | some .bool => match j with | 0 => .v (.bool (litB d)) | _ => .junk
    | some .string => match j with | 0 => .v (.string (litS d)) | _ => .junk
    | some (.slice E) => match j with | 0 => .sl true (P.cellsOf E) (dlen d) fun a b => dcell P n E (delem d a) b | _ => .junk
    | some (.struct fs) => match fieldAt P j 0 fs.toList with | some (k, f) => dcell P n f.type (dpart d k) (j - f.offset) | none => .junk
    | some (.array m E) => match Nat.blt 0 (P.cellsOf E) && Nat.blt (j / P.cellsOf E) m with | true => dcell P n E (dpart d (j / P.cellsOf E)) (j % P.cellsOf E) | false => .junk
    | _ => .junk
def dval (P : Program) (T : TypeId) (d : DataW H) : SV :=
  match P.underlying T with
  | some u => match aggD u with | true => .ag (P.cellsOf T) (dcell P 8 T d) | false => dcell P 8 T d 0
  | none => .junk
def dwf (P : Program) : Nat → TypeId → DataW H → Prop
  | 0, _, _ => True
  | n + 1, T, d =>
    match P.underlying T with
    | some (.int k) => k.wrap (litI d) = litI d
    | some .string => ((litS d).size : Int) ≤ 9223372036854775807
    | some (.slice E) => (dlen d : Int) ≤ 9223372036854775807 ∧ ∀ i, i < dlen d → dwf P n E (delem d i)
    | some (.struct fs) => wfFs (dwf P n) d 0 fs.toList
    | some (.array m E) => ∀ i, i < m → dwf P n E (dpart d i)
    | _ => True
  where wfFs (rec : TypeId → DataW H → Prop) (d : DataW H) : Nat → List Field → Prop
  | _, [] => True
  | k, f :: r => rec f.type (dpart d k) ∧ wfFs rec d (k + 1) r
theorem nthD_get : ∀ {l : List (DataW H)} {i : Nat} {x : DataW H}, l[i]? = some x → nthD l i = x
  | [], _, _, h => by simp at h
  | _ :: _, 0, _, h => by simpa [nthD] using h
  | _ :: _, i + 1, _, h => by simp only [nthD]; exact nthD_get (by simpa using h)
theorem fieldAt_some {P : Program} {j : Nat} : ∀ {l : List Field} {k k' : Nat} {f : Field}, fieldAt P j k l = some (k', f) → k ≤ k' ∧ l[k' - k]? = some f ∧ f.offset ≤ j ∧ j < f.offset + P.cellsOf f.type
  | [], _, _, _, h => by simp [fieldAt] at h
  | g :: r, k, k', f, h => by
    unfold fieldAt at h
    split at h
    · next hb =>
      simp only [Option.some.injEq, Prod.mk.injEq] at h
      obtain ⟨rfl, rfl⟩ := h
      simp only [Bool.and_eq_true, nblt, Nat.ble_eq, decide_eq_true_eq] at hb
      exact ⟨Nat.le_refl _, by simp, hb.1, hb.2⟩
    · obtain ⟨h1, h2, h3⟩ := fieldAt_some h
      refine ⟨by omega, ?_, h3⟩
      rw [show k' - k = (k' - (k + 1)) + 1 by omega]
      simpa using h2
theorem wfFs_of {rec : TypeId → DataW H → Prop} {d : DataW H} : ∀ {l : List Field} {k : Nat}, (∀ i f, l[i]? = some f → rec f.type (dpart d (k + i))) → dwf.wfFs rec d k l
  | [], _, _ => trivial
  | f :: r, k, h => ⟨h 0 f rfl, wfFs_of fun i f hf => by have := h (i + 1) f (by simpa using hf); rwa [show k + (i + 1) = k + 1 + i by omega] at this⟩
theorem wrap_wf {k : IntKind} {n : Int} (h : (Lit.int k n).wf = true) : k.wrap n = n := by
  cases k <;> simp [Lit.wf, IntKind.min, IntKind.max, IntKind.signed, IntKind.bits] at h <;> simp [IntKind.wrap, IntKind.signed, IntKind.bits] <;> (try split) <;> omega
variable {P : Program} {w : World} {enc : TypeId × Value → H} {base : Nat} {spare : Nat → Bool} {held : Bool}
theorem trod_cells : ∀ (n fuel : Nat) {T : TypeId} {cs : List Value} {x : DataW H × List MemPlace}, DataW.trod enc P w base spare held fuel T cs = some x →
    (∀ j, j < cs.length → ∃ y, cs[j]? = some y ∧ Den w o0 (dcell P n T x.1 j) y) ∧ dwf P n T x.1
  | 0, _, T, cs, x, h => ⟨fun j hj => ⟨_, List.getElem?_eq_getElem hj, trivial⟩, trivial⟩
  | n + 1, fuel, T, cs, x, h => by
    have junk : ∀ {s : Nat → SV}, (∀ j, s j = .junk) → ∀ j, j < cs.length → ∃ y, cs[j]? = some y ∧ Den w o0 (s j) y := fun hs j hj => ⟨_, List.getElem?_eq_getElem hj, by rw [hs]; trivial⟩
    unfold dcell dwf
    cases hu : P.underlying T with
    | none => exact ⟨junk fun _ => rfl, trivial⟩
    | some u =>
      cases u with
      | int k =>
        obtain ⟨z, rfl, rfl, hw⟩ := DataW.trod_int hu h
        refine ⟨fun j hj => ?_, wrap_wf hw⟩
        obtain rfl : j = 0 := by simp at hj; exact hj
        exact ⟨_, rfl, rfl⟩
      | bool =>
        obtain ⟨z, rfl, rfl⟩ := DataW.trod_bool hu h
        refine ⟨fun j hj => ?_, trivial⟩
        obtain rfl : j = 0 := by simp at hj; exact hj
        exact ⟨_, rfl, rfl⟩
      | string =>
        obtain ⟨z, rfl, rfl, hz⟩ := DataW.trod_string hu h
        have e : litS (.lit (.string z.data.toList) : DataW H) = z := by simp [litS]
        refine ⟨fun j hj => ?_, by rw [e]; unfold maxLen at hz; omega⟩
        obtain rfl : j = 0 := by simp at hj; exact hj
        exact ⟨_, rfl, by simp only [Den]; rw [e]⟩
      | slice E =>
        rcases DataW.trod_slice hu h with ⟨rfl, rfl⟩ | ⟨a, len, cap, elems, rest, m, rfl, rfl, rfl, h1, h2, h3, h4, h5, _, _⟩
        · refine ⟨fun j hj => ?_, by simp [dlen], fun i hi => absurd hi (by simp [dlen])⟩
          obtain rfl : j = 0 := by simp at hj; exact hj
          exact ⟨_, rfl, none, 0, rfl, Nat.le_refl _, Nat.zero_le _, .inl rfl⟩
        · have hlen : dlen (.slice (elems.map (·.1)) (rest.map (·.1)) : DataW H) = len := by simp [dlen, h4]
          have el : ∀ i, i < len → ∃ y cs', elems[i]? = some y ∧ delem (.slice (elems.map (·.1)) (rest.map (·.1)) : DataW H) i = y.1 ∧ w.cells? base (a.add (i * P.cellsOf E)) (P.cellsOf E) = some cs' ∧ DataW.trod enc P w base spare held m E cs' = some y := by
            intro i hi
            have h6 := h5 i hi
            rw [List.getElem?_eq_getElem (by omega)] at h6
            rw [Option.bind_eq_some_iff] at h6
            obtain ⟨cs', h7, h8⟩ := h6
            exact ⟨_, cs', List.getElem?_eq_getElem (by omega), nthD_get (by rw [List.getElem?_map, List.getElem?_eq_getElem (by omega)]; rfl), h7, h8⟩
          refine ⟨fun j hj => ?_, by rw [hlen]; unfold maxLen at h3; omega, fun i hi => ?_⟩
          · obtain rfl : j = 0 := by simp at hj; exact hj
            refine ⟨_, rfl, some a, cap, by rw [hlen], by rw [hlen]; exact h2, by rw [hlen]; exact Nat.le_trans h2 h3, .inr ⟨a, rfl, fun i hi q hq => ?_⟩⟩
            rw [hlen] at hi
            obtain ⟨y, cs', h6, h7, h8, h9⟩ := el i hi
            obtain ⟨g1, g2, g3⟩ := World.cells?_some h8
            obtain ⟨z, h10, h11⟩ := (trod_cells n m h9).1 q (by omega)
            refine ⟨z, ?_, ⟨id, fun _ => id⟩, by
              show Den w o0.bare (dcell P n E (delem (.slice (elems.map (·.1)) (rest.map (·.1))) i) q) z
              rw [h7]; exact h11⟩
            have := g3 q hq
            rw [add_add] at this
            rw [this]; exact h10
          · rw [hlen] at hi
            obtain ⟨y, cs', h6, h7, h8, h9⟩ := el i hi
            rw [h7]; exact (trod_cells n m h9).2
      | struct fs =>
        obtain ⟨xs, m, rfl, rfl, hl, hxs, hf⟩ := DataW.trod_struct hu h
        have part : ∀ i f, fs.toList[i]? = some f → ∃ y, dpart (.agg (xs.map (·.1)) : DataW H) i = y.1 ∧ DataW.trod enc P w base spare held m f.type ((cs.drop f.offset).take (P.cellsOf f.type)) = some y := by
          intro i f hi
          have h6 := hf i f (by simpa using hi)
          have hlt : i < xs.length := by
            have := (List.getElem?_eq_some_iff.1 hi).1
            simp at this; omega
          rw [List.getElem?_eq_getElem hlt] at h6
          exact ⟨_, nthD_get (by rw [List.getElem?_map, List.getElem?_eq_getElem hlt]; rfl), h6⟩
        refine ⟨fun j hj => ?_, wfFs_of fun i f hi => ?_⟩
        · show ∃ y, _ ∧ Den w o0 (match fieldAt P j 0 fs.toList with | some (k, f) => dcell P n f.type (dpart _ k) (j - f.offset) | none => .junk) y
          cases hfa : fieldAt P j 0 fs.toList with
          | none => exact ⟨_, List.getElem?_eq_getElem hj, trivial⟩
          | some kf =>
            obtain ⟨k, f⟩ := kf
            obtain ⟨_, h7, h8, h9⟩ := fieldAt_some hfa
            obtain ⟨y, h10, h11⟩ := part k f (by simpa using h7)
            have hlen : ((cs.drop f.offset).take (P.cellsOf f.type)).length = min (P.cellsOf f.type) (cs.length - f.offset) := by simp
            obtain ⟨z, h12, h13⟩ := (trod_cells n m h11).1 (j - f.offset) (by rw [hlen]; omega)
            refine ⟨z, ?_, by show Den w o0 (dcell P n f.type (dpart (.agg (xs.map (·.1))) k) (j - f.offset)) z; rw [h10]; exact h13⟩
            rw [List.getElem?_take_of_lt (by omega), List.getElem?_drop, show f.offset + (j - f.offset) = j by omega] at h12
            exact h12
        · rw [Nat.zero_add]
          obtain ⟨y, h10, h11⟩ := part i f hi
          rw [h10]; exact (trod_cells n m h11).2
      | array q E =>
        obtain ⟨xs, m, rfl, rfl, hl, hxs, hf⟩ := DataW.trod_array hu h
        have part : ∀ i, i < q → ∃ y, dpart (.agg (xs.map (·.1)) : DataW H) i = y.1 ∧ DataW.trod enc P w base spare held m E ((cs.drop (i * P.cellsOf E)).take (P.cellsOf E)) = some y := by
          intro i hi
          have h6 := hf i hi
          rw [List.getElem?_eq_getElem (by omega)] at h6
          exact ⟨_, nthD_get (by rw [List.getElem?_map, List.getElem?_eq_getElem (by omega)]; rfl), h6⟩
        refine ⟨fun j hj => ?_, fun i hi => ?_⟩
        · show ∃ y, _ ∧ Den w o0 (match Nat.blt 0 (P.cellsOf E) && Nat.blt (j / P.cellsOf E) q with | true => dcell P n E (dpart _ (j / P.cellsOf E)) (j % P.cellsOf E) | false => .junk) y
          cases hb : Nat.blt 0 (P.cellsOf E) && Nat.blt (j / P.cellsOf E) q with
          | false => exact ⟨_, List.getElem?_eq_getElem hj, trivial⟩
          | true =>
            rw [Bool.and_eq_true, nblt, nblt, decide_eq_true_eq, decide_eq_true_eq] at hb
            obtain ⟨hz, hb⟩ := hb
            obtain ⟨y, h10, h11⟩ := part _ hb
            · have hmod := Nat.mod_lt j hz
              have hdm := Nat.div_add_mod j (P.cellsOf E)
              rw [Nat.mul_comm] at hdm
              have hlen : ((cs.drop ((j / P.cellsOf E) * P.cellsOf E)).take (P.cellsOf E)).length = min (P.cellsOf E) (cs.length - (j / P.cellsOf E) * P.cellsOf E) := by simp
              obtain ⟨z, h12, h13⟩ := (trod_cells n m h11).1 (j % P.cellsOf E) (by rw [hlen]; omega)
              refine ⟨z, ?_, by show Den w o0 (dcell P n E (dpart (.agg (xs.map (·.1))) (j / P.cellsOf E)) (j % P.cellsOf E)) z; rw [h10]; exact h13⟩
              rw [List.getElem?_take_of_lt (by omega), List.getElem?_drop, hdm] at h12
              exact h12
        · obtain ⟨y, h10, h11⟩ := part i hi
          rw [h10]; exact (trod_cells n m h11).2
      | _ => exact ⟨junk fun _ => rfl, trivial⟩
theorem trod_val {T : TypeId} {v : Value} {d : DataW H} {p : List MemPlace} {r : Reach} {b : Nat} (h : DataW.Trod enc P w base spare held T v d p) (hv : Value.okWide P w r b T v) : Den w o0 (dval P T d) v ∧ dwf P 8 T d := by
  obtain ⟨fuel, h⟩ := h
  obtain ⟨h1, h2⟩ := trod_cells 8 fuel h
  refine ⟨?_, h2⟩
  have one : v.cells = #[v] → Den w o0 (dcell P 8 T d 0) v := fun e => by
    obtain ⟨y, h3, h4⟩ := h1 0 (by rw [e]; simp)
    rw [e] at h3
    obtain rfl : v = y := by simpa using h3
    exact h4
  unfold dval
  cases hu : P.underlying T with
  | none => trivial
  | some u =>
    have agg : ∀ cs, v = .agg cs → cs.size = P.cellsOf T → Den w o0 (.ag (P.cellsOf T) (dcell P 8 T d)) v := by
      rintro cs rfl hs
      refine ⟨cs, rfl, hs, fun j hj => ?_⟩
      obtain ⟨y, h3, h4⟩ := h1 j (by show j < cs.toList.length; simp; omega)
      have h3 : cs.toList[j]? = some y := h3
      exact ⟨y, by simpa using h3, h4⟩
    have jk : dcell P 8 T d 0 = .junk → Den w o0 (dcell P 8 T d 0) v := fun e => by rw [e]; trivial
    cases u with
    | struct fs =>
      unfold Value.okWide at hv; rw [hu] at hv
      obtain ⟨cs, e, hs, _⟩ := hv
      exact agg cs e hs
    | array n E =>
      unfold Value.okWide at hv; rw [hu] at hv
      obtain ⟨cs, e, hs, _⟩ := hv
      exact agg cs e hs
    | int k => obtain ⟨n, rfl⟩ := WideShapes.okWide_int hu hv; exact one rfl
    | bool => obtain ⟨n, rfl⟩ := WideShapes.okWide_bool hu hv; exact one rfl
    | string => obtain ⟨n, rfl⟩ := WideShapes.okWide_string hu hv; exact one rfl
    | slice E => obtain ⟨a, l, c, rfl⟩ := WideShapes.okWide_slice hu hv; exact one rfl
    | _ => exact jk (by unfold dcell; rw [hu])
def dvals (P : Program) : List TypeId → List (DataW H) → List SV
  | t :: ts, d :: ds => dval P t d :: dvals P ts ds
  | _, _ => []
def dwfs (P : Program) : List TypeId → List (DataW H) → Prop
  | t :: ts, d :: ds => dwf P 8 t d ∧ dwfs P ts ds
  | _, _ => True
theorem trod_vals {r : Reach} {b : Nat} : ∀ {ts : List TypeId} {vs : List Value} {ds : List (DataW H)} {p : List MemPlace}, DataW.TrodAll enc P w base spare held ts vs ds p →
    (∀ (j : Nat) t v, ts[j]? = some t → vs[j]? = some v → Value.okWide P w r b t v) → DenL w o0 (dvals P ts ds) vs ∧ dwfs P ts ds
  | [], [], [], _, _, _ => ⟨trivial, trivial⟩
  | t :: ts, v :: vs, d :: ds, _, ⟨p, q, h1, h2, _⟩, hv => by
    obtain ⟨h3, h4⟩ := trod_val h1 (hv 0 t v rfl rfl)
    obtain ⟨h5, h6⟩ := trod_vals h2 (fun j t v h h' => hv (j + 1) t v (by simpa using h) (by simpa using h'))
    exact ⟨⟨h3, h5⟩, h4, h6⟩
theorem mem0 (W : World) : MemOK W o0 (memOf 0 []) := ⟨(memOf_cur []).symm, fun b ⟨k, p, L, h, _⟩ => (by cases h), fun _ h => False.elim h, fun _ h => False.elim h, fun _ h => False.elim h, fun _ _ _ _ _ _ h => (by cases h), fun _ _ _ h => (by cases h), fun _ _ _ h => (by cases h), fun _ _ h => (by cases h), fun _ _ _ _ => rfl⟩
theorem law_call {Gl : Nat → SV} {f : Nat} {c : Con} (hok : FnOK P Gl f c) {ts : List TypeId} {vs : Array Value} {ds : List (DataW H)} {p : List MemPlace} {r : Reach} {b : Nat}
    (hc : ∀ ds : List (DataW H), ds.length = ts.length → dwfs P ts ds → ∃ pr, c.g (dvals P ts ds) [] = some (pr, .v (.bool true), []) ∧ pr)
    (hg : ∀ g, Den w o0.bare (Gl g) (.pointer (some ⟨g, 0, none⟩))) (h : DataW.TrodAll enc P w base spare held ts vs.toList ds p) (hl : ds.length = ts.length)
    (hv : ∀ (j : Nat) t v, ts[j]? = some t → vs[j]? = some v → Value.okWide P w r b t v) :
    Calls P f vs w fun e W' => e = .returned (.bool true) ∧ Below w.heap.size w W' := by
  obtain ⟨h1, h2⟩ := trod_vals h (fun j t v e e' => hv j t v e (by simpa using e'))
  obtain ⟨pr, h3, h4⟩ := hc ds hl h2
  refine (hok.fn _ _ _ _ _ h3 h4 w o0 vs hg (mem0 w) h1).mono ?_
  rintro e W' ⟨v, ω', rfl, ha, _, hr, _⟩
  have hr : v = .bool true := hr
  exact ⟨by rw [hr], ha.os, ha.tape, ha.output, ha.size, fun k hk => ha.same k hk id⟩
theorem FnOK.up {Gl Gl' : Nat → SV} {f : Nat} {c : Con} (h : FnOK P Gl' f c) (hu : ∀ g, Gl' g = Gl g ∨ Gl' g = .junk) : FnOK P Gl f c :=
  ⟨h.call, fun args mem pre res mem' e hp w ω vs hG => h.fn args mem pre res mem' e hp w ω vs fun g => by
    rcases hu g with e | e
    · rw [e]; exact hG g
    · rw [e]; trivial, h.pj⟩
def prOf : Option (Prop × SV × List Blk) → Prop
  | some (p, .v (.bool true), []) => p
  | _ => False
theorem prOf_spec {x : Option (Prop × SV × List Blk)} (h : prOf x) : ∃ pr, x = some (pr, .v (.bool true), []) ∧ pr := by
  unfold prOf at h
  split at h
  · exact ⟨_, rfl, h⟩
  · exact h.elim
def zeros (P : Program) (ts : List TypeId) : Array Value := (ts.map fun t => match P.info? t with | some i => i.zero.getD undef | none => undef).toArray
end Go.Sy
namespace Go.Proofs.Ytdjilaofmdhikaa
open Go.RowKit Go.Sy
def farB (v m : Int) : Bool := decide (v < 0) || decide (m < v)
def glN : Nat → SV := fun _ => .junk
end Go.Proofs.Ytdjilaofmdhikaa
set_option linter.unusedVariables false
set_option linter.unusedSimpArgs false
set_option maxRecDepth 100000
namespace Go.Proofs.Ytdjilaofmdhikaa
open Go.RowKit Go.Sy
end Go.Proofs.Ytdjilaofmdhikaa
namespace Go.Sy
end Go.Sy
set_option linter.unusedVariables false
set_option linter.unusedSimpArgs false
set_option maxRecDepth 100000
namespace Go.Proofs.Ytdjilaofmdhikaa
open Go.RowKit Go.Sy
def keyBad1 (k b l m : Int) : Bool := decide (b < 0) || decide (24 < b) || decide (l < 1) || decide (24 < l) || decide (24 < b + l) || (k != 1 && (l != 1 || m != 0)) || (k == 1 && farB m l)
def keyBad2 (k g : Int) : Bool := farB g 65535 || (decide (0 < g) && k != 7 && k != 8)
def keyNo (k b l m r g : Int) : Int :=
  bif farB k 8 then 3 else
  bif k == 0 then (bif b != 0 || l != 0 || m != 0 || r != 0 || g != 0 then 2 else 0) else
  bif keyBad1 k b l m then 2 else bif farB r 7 then 4 else bif keyBad2 k g then 2 else 0
theorem keyNo_range {k b l m r g : Int} (h : keyNo k b l m r g = 0) : 0 ≤ k ∧ k ≤ 8 ∧ 0 ≤ b ∧ b ≤ 24 ∧ 0 ≤ l ∧ l ≤ 24 ∧ 0 ≤ m ∧ m ≤ 24 ∧ 0 ≤ r ∧ r ≤ 7 ∧ 0 ≤ g ∧ g ≤ 65535 := by
  unfold keyNo keyBad1 keyBad2 farB at h
  simp only [cond_eq_ite, bne, Bool.or_eq_true, Bool.and_eq_true, Bool.not_eq_true', decide_eq_true_eq, beq_iff_eq, beq_eq_false_iff_ne] at h
  repeat' split at h
  all_goals first | (cases h; done) | omega
def packed (k b l m r g : Int) : Int := ((((k * 32 + b) * 32 + l) * 32 + m) * 8 + r) * 65536 + g
structure X_wordCheck where
  (k b l m r g : Int)
def s_wordCheck : Sy.Spec := ⟨X_wordCheck, fun ⟨k, b, l, m, r, g⟩ => [.ag 6 (lsv [.v (.int .i64 k), .v (.int .i64 b), .v (.int .i64 l), .v (.int .i64 m), .v (.int .i64 r), .v (.int .i64 g)])], fun _ => [], fun _ => True, fun ⟨k, b, l, m, r, g⟩ => .er 40 99999 (keyNo k b l m r g) (-1), fun _ => [],
  fun args mem => match args with | [a0] => some ⟨intD (agD a0 0), intD (agD a0 1), intD (agD a0 2), intD (agD a0 3), intD (agD a0 4), intD (agD a0 5)⟩ | _ => none⟩
def c_wordCheck : Con := ⟨[], s_wordCheck.g, none⟩
def V_wordCheck : X_wordCheck → Prop := fun ⟨k, b, l, m, r, g⟩ => let a0:=cond (decide (k<0)) true (decide (8<k));let b0:=keyNo k b l m r g;let c0:=((-1):Int)=(-1);let d0:=!(k==0&&(b==0&&(l==0&&(m==0&&(r==0&&(g==0&&true))))));let e0:=((2:Int)≠0∧b0=2∧c0)∧True;let g0:=(b0=0∧c0)∧True;let h0:=cond (cond (cond (decide (b<0)) true (decide (24≤b))) true (decide (l<1))) true (decide (w64 (24-b)<l));let k0:=cond (cond (cond (cond (k !=1) (l !=1) false) true (decide (m<0))) true (decide (l<m))) true (cond (k !=1) (m !=0) false);let l0:=cond (decide (r<0)) true (decide (7<r));let o0:=cond (cond (decide (g<0)) true (decide (65535<g))) true (cond (cond (g !=0) (k !=7) false) (k !=8) false);True∧(a0=true→((3:Int)≠0∧b0=3∧c0)∧True)∧(a0=false→((k==0)=true→(d0=true→e0)∧(d0=false→g0))∧((k==0)=false→(h0=true→e0)∧(h0=false→(k0=true→e0)∧(k0=false→(l0=true→((4:Int)≠0∧b0=4∧c0)∧True)∧(l0=false→(o0=true→e0)∧(o0=false→g0))))))
theorem ok_wordCheck : FnOK Try.prog glN 6 c_wordCheck := ok_of .nil true Try.call6 Try.func6 (fun _ => []) (V := V_wordCheck) (fun _ => by kernel_rfl) fun ⟨k, b, l, m, r, g⟩ hp => by
  dsimp only [V_wordCheck, tn, w64]
  have hw : (bif bif bif decide (b < (0 : Int)) then true else decide ((24 : Int) ≤ b) then true else decide (l < (1 : Int)) then true else decide (IntKind.i64.wrap (24 - b) < l)) =
      (decide (b < 0) || decide (24 < b) || decide (l < 1) || decide (24 < l) || decide (24 < b + l)) := by
    by_cases h : b < 0 ∨ 24 ≤ b ∨ l < 1
    · have : b < 0 ∨ 24 < b ∨ l < 1 ∨ 24 < b + l := by omega
      have h2 : (bif bif bif decide (b < (0 : Int)) then true else decide ((24 : Int) ≤ b) then true else decide (l < (1 : Int)) then true else decide (IntKind.i64.wrap (24 - b) < l)) = true := by
        rcases h with h | h | h <;> simp [h]
      rw [h2]
      rcases this with h | h | h | h <;> simp [h]
    · have e : IntKind.i64.wrap (24 - b) = 24 - b := by rw [IntKind.wrap_i64]; omega
      rw [e]
      have h1 : ¬ b < 0 := by omega
      have h2 : ¬ 24 ≤ b := by omega
      have h3 : ¬ l < 1 := by omega
      have h4 : ¬ 24 < b := by omega
      simp [h1, h2, h3, h4]
      by_cases h5 : 24 - b < l <;> simp [h5] <;> omega
  rw [hw]
  unfold keyNo keyBad1 keyBad2 farB
  repeat' (first | exact trivial | refine And.intro ?_ ?_ | intro h)
  all_goals (clear hw)
  all_goals (try simp only [Bool.cond_true_left, Bool.cond_false_right] at *)
  all_goals (simp only [cond_eq_ite, farB, bne, Bool.or_eq_true, Bool.and_eq_true, Bool.not_eq_true', Bool.not_eq_false', Bool.and_eq_false_iff, decide_eq_true_eq, beq_iff_eq, beq_eq_false_iff_ne, Bool.or_eq_false_iff, decide_eq_false_iff_not, Bool.ite_eq_true_distrib, Bool.ite_eq_false_distrib] at *)
  all_goals (repeat' split)
  all_goals (first | rfl | (exfalso; simp_all <;> omega) | omega)
end Go.Proofs.Ytdjilaofmdhikaa
set_option linter.unusedVariables false
set_option linter.unusedSimpArgs false
set_option maxRecDepth 100000
namespace Go.Proofs.Ytdjilaofmdhikaa
open Go.RowKit Go.Sy
def fldL : List SV := [.v (.int .i64 16), .fn 8 0 (fun _ => .junk), .v (.int .i64 3), .fn 9 0 (fun _ => .junk), .v (.int .i64 5), .fn 10 0 (fun _ => .junk), .v (.int .i64 5), .fn 11 0 (fun _ => .junk), .v (.int .i64 5), .fn 12 0 (fun _ => .junk), .v (.int .i64 4), .fn 13 0 (fun _ => .junk)]
def c_fld1 : Con := ⟨[], fun _ _ => none, some 5⟩
theorem ok_fld1 : FnOK Try.prog glN 8 c_fld1 := projOK_of (fun l w => Try.call8 l w) fun ad => fn_of sound_nil false Try.func8 [] (V := (Value.pointer (some (ad.add 5)) = Value.pointer (some (ad.add 5))) ∧ True) (by kernel_rfl) ⟨rfl, trivial⟩
def c_fld2 : Con := ⟨[], fun _ _ => none, some 4⟩
theorem ok_fld2 : FnOK Try.prog glN 9 c_fld2 := projOK_of (fun l w => Try.call9 l w) fun ad => fn_of sound_nil false Try.func9 [] (V := (Value.pointer (some (ad.add 4)) = Value.pointer (some (ad.add 4))) ∧ True) (by kernel_rfl) ⟨rfl, trivial⟩
def c_fld3 : Con := ⟨[], fun _ _ => none, some 3⟩
theorem ok_fld3 : FnOK Try.prog glN 10 c_fld3 := projOK_of (fun l w => Try.call10 l w) fun ad => fn_of sound_nil false Try.func10 [] (V := (Value.pointer (some (ad.add 3)) = Value.pointer (some (ad.add 3))) ∧ True) (by kernel_rfl) ⟨rfl, trivial⟩
def c_fld4 : Con := ⟨[], fun _ _ => none, some 2⟩
theorem ok_fld4 : FnOK Try.prog glN 11 c_fld4 := projOK_of (fun l w => Try.call11 l w) fun ad => fn_of sound_nil false Try.func11 [] (V := (Value.pointer (some (ad.add 2)) = Value.pointer (some (ad.add 2))) ∧ True) (by kernel_rfl) ⟨rfl, trivial⟩
def c_fld5 : Con := ⟨[], fun _ _ => none, some 1⟩
theorem ok_fld5 : FnOK Try.prog glN 12 c_fld5 := projOK_of (fun l w => Try.call12 l w) fun ad => fn_of sound_nil false Try.func12 [] (V := (Value.pointer (some (ad.add 1)) = Value.pointer (some (ad.add 1))) ∧ True) (by kernel_rfl) ⟨rfl, trivial⟩
def c_fld6 : Con := ⟨[], fun _ _ => none, some 0⟩
theorem ok_fld6 : FnOK Try.prog glN 13 c_fld6 := projOK_of (fun l w => Try.call13 l w) fun ad => fn_of sound_nil false Try.func13 [] (V := (Value.pointer (some (ad.add 0)) = Value.pointer (some (ad.add 0))) ∧ True) (by kernel_rfl) ⟨rfl, trivial⟩
structure X_fields where
  (unit_ : Unit)
def s_fields : Sy.Spec := ⟨X_fields, fun _ => [], fun _ => [], fun _ => True, fun _ => .slc 0 0 none 0 6, fun _ => [.row 2 6 (rowOf 2 6 fldL)],
  fun args mem => match args with | [] => some ⟨()⟩ | _ => none⟩
def c_fields : Con := ⟨[], s_fields.g, none⟩
def V_fields : X_fields → Prop := fun _ => True ∧ (0 = 0 ∧ 6 = 6) ∧ (6 = 6 ∧ ∀ i, i < 6 → allJ 2 fun j => agC (mref (tellφ (ent [(100, ⟨0, 0, none, .row 2 6 (rowOf 2 6 fldL)⟩)]) [100]) false (rowOf 2 6 fldL i j)) (rowOf 2 6 fldL i j)) ∧ True
theorem ok_fields : FnOK Try.prog glN 7 c_fields := ok_of .nil false Try.call7 Try.func7 (fun _ => []) (V := V_fields) (fun _ => by kernel_rfl) fun _ hp => by
  dsimp only [V_fields, tn, w64]
  refine ⟨trivial, ⟨rfl, rfl⟩, ⟨rfl, fun i hi => ?_⟩, trivial⟩
  match i, hi with
  | 0, _ | 1, _ | 2, _ | 3, _ | 4, _ | 5, _ => exact ⟨⟨trivial, rfl⟩, trivial⟩
end Go.Proofs.Ytdjilaofmdhikaa
set_option linter.unusedVariables false
set_option linter.unusedSimpArgs false
set_option maxRecDepth 100000
namespace Go.Proofs.Ytdjilaofmdhikaa
open Go.RowKit Go.Sy
def pkW (k b l m r g : Int) : Int := bif keyNo k b l m r g == 0 then packed k b l m r g else 0
theorem ofInt_toNatU {x : Int} (h0 : 0 ≤ x) (h1 : x < 18446744073709551616) : (BitVec.ofInt 64 x).toNat = x.toNat := by
  rw [BitVec.toNat_ofInt]
  congr 1
  exact Int.emod_eq_of_lt h0 (by simpa using h1)
theorem wrapU_nat {n : Nat} (h : n < 18446744073709551616) : IntKind.u64.wrap (n : Int) = n := by
  rw [IntKind.wrap_u64]; omega
theorem joinU (n : Nat) {x y z : Int} (hz : z = x * 2 ^ n) (hx : 0 ≤ x) (hy : 0 ≤ y) (hy1 : y < 2 ^ n) (hs : x * 2 ^ n + y < 18446744073709551616) : bitsI .or .u64 y z = z + y := by
  have hc : ((2 : Int) ^ n) = ((2 ^ n : Nat) : Int) := by simp
  have hz0 : 0 ≤ z := by rw [hz]; exact Int.mul_nonneg hx (by rw [hc]; omega)
  show IntKind.u64.wrap ((BitVec.ofInt 64 y ||| BitVec.ofInt 64 z).toNat : Int) = _
  rw [BitVec.toNat_or, ofInt_toNatU hz0 (by omega), ofInt_toNatU hy (by omega), Nat.or_comm]
  have e : z.toNat = 2 ^ n * x.toNat := by
    apply Int.ofNat.inj
    show (z.toNat : Int) = ((2 ^ n * x.toNat : Nat) : Int)
    rw [Int.toNat_of_nonneg hz0, Int.natCast_mul, Int.toNat_of_nonneg hx, hz, hc, Int.mul_comm]
  rw [wrapU_nat (Nat.or_lt_two_pow (n := 64) (by omega) (by omega)), e, ← Nat.two_pow_add_eq_or_of_lt (by rw [hc] at hy1; omega), ← e]
  omega
theorem maskU (n : Nat) (hn : n ≤ 62) {x m : Int} (hm : m = 2 ^ n - 1) : bitsI .and .u64 x m = x % 2 ^ n := by
  show IntKind.u64.wrap ((BitVec.ofInt 64 x &&& BitVec.ofInt 64 m).toNat : Int) = _
  have hp : (2 : Nat) ^ n ≤ 2 ^ 62 := Nat.pow_le_pow_right (by omega) hn
  have hp1 : (1 : Nat) ≤ 2 ^ n := Nat.one_le_two_pow
  have hc : ((2 : Int) ^ n) = ((2 ^ n : Nat) : Int) := by simp
  have hm0 : 0 ≤ m := by rw [hm, hc]; omega
  have hm1 : m < 18446744073709551616 := by rw [hm, hc]; omega
  rw [BitVec.toNat_and, ofInt_toNatU hm0 hm1]
  have e : m.toNat = 2 ^ n - 1 := by rw [hm, hc]; omega
  rw [e, Nat.and_two_pow_sub_one_eq_mod, BitVec.toNat_ofInt]
  have hd : ((x % ((2 ^ 64 : Nat) : Int)).toNat % 2 ^ n : Nat) = (x % 2 ^ n).toNat := by
    apply Int.ofNat.inj
    show (((x % ((2 ^ 64 : Nat) : Int)).toNat % 2 ^ n : Nat) : Int) = ((x % 2 ^ n).toNat : Int)
    have h64 : (0 : Int) ≤ x % ((2 ^ 64 : Nat) : Int) := Int.emod_nonneg _ (by decide)
    have hn0 : (0 : Int) ≤ x % 2 ^ n := Int.emod_nonneg _ (by rw [hc]; omega)
    rw [Int.natCast_emod, Int.toNat_of_nonneg h64, Int.toNat_of_nonneg hn0, hc]
    refine Int.emod_emod_of_dvd x ?_
    exact Int.natCast_dvd_natCast.2 (Nat.pow_dvd_pow 2 (by omega))
  rw [hd]
  have hn0 : (0 : Int) ≤ x % 2 ^ n := Int.emod_nonneg _ (by rw [hc]; omega)
  have hn1 : x % 2 ^ n < 2 ^ n := Int.emod_lt_of_pos _ (by rw [hc]; omega)
  rw [Int.toNat_of_nonneg hn0, IntKind.wrap_u64]
  rw [hc] at hn0 hn1 ⊢
  omega
theorem shU {x : Int} (n : Nat) (h0 : 0 ≤ x) (h : x * 2 ^ n < 18446744073709551616) : IntKind.u64.wrap (x * 2 ^ n) = x * 2 ^ n := by
  have hc : ((2 : Int) ^ n) = ((2 ^ n : Nat) : Int) := by simp
  have : 0 ≤ x * 2 ^ n := Int.mul_nonneg h0 (by rw [hc]; exact Int.natCast_nonneg _)
  rw [IntKind.wrap_u64]; omega
structure X_pack where
  (k b l m r g : Int)
def s_pack : Sy.Spec := ⟨X_pack, fun ⟨k, b, l, m, r, g⟩ => [.ag 6 (lsv [.v (.int .i64 k), .v (.int .i64 b), .v (.int .i64 l), .v (.int .i64 m), .v (.int .i64 r), .v (.int .i64 g)])], fun _ => [], fun _ => True, fun ⟨k, b, l, m, r, g⟩ => .tp 2 (lsv [.v (.int .u64 (pkW k b l m r g)), .er 40 99999 (keyNo k b l m r g) (-1)]), fun _ => [],
  fun args mem => match args with | [a0] => some ⟨intD (agD a0 0), intD (agD a0 1), intD (agD a0 2), intD (agD a0 3), intD (agD a0 4), intD (agD a0 5)⟩ | _ => none⟩
def c_pack : Con := ⟨[], s_pack.g, none⟩
def V_pack : X_pack → Prop := fun ⟨k, b, l, m, r, g⟩ => let a0:=True∧True;let b0:=keyNo k b l m r g;let c0:=b0 !=0;let d0:=pkW k b l m r g;let e0:=((6:Nat):Int);let g0:Int:=0+16;let h0:Int:=0+1;let k0:Int:=g0+3;let l0:Int:=h0+1;let o0:Int:=k0+5;let q0:Int:=l0+1;let r0:Int:=o0+5;let u0:Int:=q0+1;let v0:Int:=r0+5;let w0:Int:=u0+1;let x0:Int:=v0+4;let y0:Int:=w0+1;let z0:=IntKind.bits IntKind.u64;True∧((((((((True∧k=k)∧b=b)∧l=l)∧m=m)∧r=r)∧g=g)∧True)∧a0)∧(c0=true→((True∧0=d0)∧b0=b0∧((-1):Int)=(-1))∧True)∧(c0=false→(True∧a0)∧(e0≤9223372036854775807→((0:Int)≤0∧0<e0)∧True∧a0∧True∧IntKind.wrap IntKind.u64 g=g∧(0:Int)≤0∧w64 g0=g0∧w64 h0=h0∧(0≤h0∧h0<e0)∧True∧a0∧True∧IntKind.wrap IntKind.u64 r=r∧0≤g0∧w64 k0=k0∧w64 l0=l0∧(0≤l0∧l0<e0)∧True∧a0∧True∧IntKind.wrap IntKind.u64 m=m∧0≤k0∧w64 o0=o0∧w64 q0=q0∧(0≤q0∧q0<e0)∧True∧a0∧True∧IntKind.wrap IntKind.u64 l=l∧0≤o0∧w64 r0=r0∧w64 u0=u0∧(0≤u0∧u0<e0)∧True∧a0∧True∧IntKind.wrap IntKind.u64 b=b∧0≤r0∧w64 v0=v0∧w64 w0=w0∧(0≤w0∧w0<e0)∧True∧a0∧True∧IntKind.wrap IntKind.u64 k=k∧0≤v0∧w64 x0=x0∧w64 y0=y0∧((True∧
    bitsI BinOp.or IntKind.u64 (bitsI BinOp.or IntKind.u64 (bitsI BinOp.or IntKind.u64 (bitsI BinOp.or IntKind.u64 (bitsI BinOp.or IntKind.u64 (bitsI BinOp.or IntKind.u64 0 (IntKind.wrap IntKind.u64 (g*HPow.hPow 2 (min (Int.toNat 0) z0)))) (IntKind.wrap IntKind.u64 (r*HPow.hPow 2 (min (Int.toNat g0) z0)))) (IntKind.wrap IntKind.u64 (m*HPow.hPow 2 (min (Int.toNat k0) z0)))) (IntKind.wrap IntKind.u64 (l*HPow.hPow 2 (min (Int.toNat o0) z0)))) (IntKind.wrap IntKind.u64 (b*HPow.hPow 2 (min (Int.toNat r0) z0)))) (IntKind.wrap IntKind.u64 (k*HPow.hPow 2 (min (Int.toNat v0) z0)))=d0)∧b0=0∧((-1):Int)=(-1))∧True))
theorem ok_pack : FnOK Try.prog glN 4 c_pack := ok_of (.cons ok_wordCheck (.cons ok_fields (.cons ok_fld1 (.cons ok_fld2 (.cons ok_fld3 (.cons ok_fld4 (.cons ok_fld5 (.cons ok_fld6 .nil)))))))) false Try.call4 Try.func4 (fun _ => [.dec, .unroll 7]) (V := V_pack) (fun _ => by kernel_rfl) fun ⟨k, b, l, m, r, g⟩ hp => by
  dsimp only [V_pack, tn, w64]
  have hq : min (Int.toNat (0)) (IntKind.bits IntKind.u64) = 0 ∧ min (Int.toNat (0 + 16)) (IntKind.bits IntKind.u64) = 16 ∧ min (Int.toNat (0 + 16 + 3)) (IntKind.bits IntKind.u64) = 19 ∧ min (Int.toNat (0 + 16 + 3 + 5)) (IntKind.bits IntKind.u64) = 24 ∧ min (Int.toNat (0 + 16 + 3 + 5 + 5)) (IntKind.bits IntKind.u64) = 29 ∧ min (Int.toNat (0 + 16 + 3 + 5 + 5 + 5)) (IntKind.bits IntKind.u64) = 34 := by decide
  obtain ⟨q1, q2, q3, q4, q5, q6⟩ := hq
  simp only [q1, q2, q3, q4, q5, q6]
  refine ⟨trivial, by simp, fun h => ?_, fun h => ?_⟩
  · have hb : (keyNo k b l m r g == 0) = false := by simpa using h
    simp [pkW, hb]
  · have h0 : keyNo k b l m r g = 0 := by simpa using h
    have hr := keyNo_range h0
    have e1 := shU (x := g) 0 (by omega) (by omega)
    have e2 := shU (x := r) 16 (by omega) (by omega)
    have e3 := shU (x := m) 19 (by omega) (by omega)
    have e4 := shU (x := l) 24 (by omega) (by omega)
    have e5 := shU (x := b) 29 (by omega) (by omega)
    have e6 := shU (x := k) 34 (by omega) (by omega)
    have cp : ∀ n : Nat, ((2 ^ n : Nat) : Int) = (2 : Int) ^ n := fun n => by simp
    have hp : pkW k b l m r g = packed k b l m r g := by simp [pkW, h0]
    have hw : ∀ x, 0 ≤ x → x ≤ 65535 → IntKind.u64.wrap x = x := fun x _ _ => by rw [IntKind.wrap_u64]; omega
    rw [hp, h0]
    unfold packed
    repeat' (first | exact trivial | rfl | refine And.intro ?_ ?_ | intro h)
    all_goals first | (exfalso; revert h; decide) | (exact absurd ‹_› (by decide)) | (refine hw _ ?_ ?_ <;> omega) | (simp only [IntKind.wrap_i64]; omega) | omega | skip
    simp only [cp]
    rw [e1, e2, e3, e4, e5, e6]
    rw [joinU 0 (x := g) (y := 0) rfl (by omega) (by omega) (by omega) (by omega)]
    rw [joinU 16 (x := r) rfl (by omega) (by omega) (by omega) (by omega)]
    rw [joinU 19 (x := m) rfl (by omega) (by omega) (by omega) (by omega)]
    rw [joinU 24 (x := l) rfl (by omega) (by omega) (by omega) (by omega)]
    rw [joinU 29 (x := b) rfl (by omega) (by omega) (by omega) (by omega)]
    rw [joinU 34 (x := k) rfl (by omega) (by omega) (by omega) (by omega)]
    omega
end Go.Proofs.Ytdjilaofmdhikaa
set_option linter.unusedVariables false
set_option linter.unusedSimpArgs false
set_option maxRecDepth 100000
namespace Go.Proofs.Ytdjilaofmdhikaa
open Go.RowKit Go.Sy
def uOk (n : Int) : Bool := decide (n < 274877906944) && keyNo (n / 17179869184) (n / 536870912 % 32) (n / 16777216 % 32) (n / 524288 % 32) (n / 65536 % 8) (n % 65536) == 0
def uKey (n : Int) : List SV := [.v (.int .i64 (bif uOk n then n / 17179869184 else 0)), .v (.int .i64 (bif uOk n then n / 536870912 % 32 else 0)), .v (.int .i64 (bif uOk n then n / 16777216 % 32 else 0)), .v (.int .i64 (bif uOk n then n / 524288 % 32 else 0)), .v (.int .i64 (bif uOk n then n / 65536 % 8 else 0)), .v (.int .i64 (bif uOk n then n % 65536 else 0))]
structure X_unpack where
  (n : Int)
def s_unpack : Sy.Spec := ⟨X_unpack, fun ⟨n⟩ => [.v (.int .u64 n)], fun _ => [], fun ⟨n⟩ => 0 ≤ n ∧ n < 18446744073709551616, fun ⟨n⟩ => .tp 2 (lsv [.ag 6 (lsv (uKey n)), .er 40 99999 (bif uOk n then 0 else 1) (-1)]), fun _ => [],
  fun args mem => match args with | [a0] => some ⟨intD (a0)⟩ | _ => none⟩
def c_unpack : Con := ⟨[], s_unpack.g, none⟩
def V_unpack : X_unpack → Prop := fun ⟨n⟩ => let a0:=True∧True;let b0:=True∧a0;let c0:=((6:Nat):Int);let d0:=IntKind.bits IntKind.u64;let e0:=HPow.hPow 2 (min (Int.toNat 16) d0);let g0:Int:=IntKind.wrap IntKind.u64 (1*e0)-1;let h0:=bitsI BinOp.and IntKind.u64 n g0;let k0:Int:=0+1;let l0:=HPow.hPow 2 (min (Int.toNat 3) d0);let o0:Int:=IntKind.wrap IntKind.u64 (1*l0)-1;let q0:=Int.fdiv n e0;let r0:=bitsI BinOp.and IntKind.u64 q0 o0;let u0:Int:=k0+1;let v0:=(0:Int)≤5;let w0:=HPow.hPow 2 (min (Int.toNat 5) d0);let x0:Int:=IntKind.wrap IntKind.u64 (1*w0)-1;let y0:=IntKind.wrap IntKind.u64 x0=x0;let z0:=Int.fdiv q0 l0;let a1:=bitsI BinOp.and IntKind.u64 z0 x0;let b1:Int:=u0+1;let c1:=Int.fdiv z0 w0;let d1:=bitsI BinOp.and IntKind.u64 c1 x0;let e1:Int:=b1+1;let g1:=Int.fdiv c1 w0;let h1:=bitsI BinOp.and IntKind.u64 g1 x0;let k1:Int:=e1+1;let l1:=HPow.hPow 2 (min (Int.toNat 4) d0);let o1:Int:=IntKind.wrap IntKind.u64 (1*l1)-1;let q1:=Int.fdiv g1 w0;let r1:=bitsI BinOp.and IntKind.u64 q1 o1;let u1:Int:=k1+1;let v1:=Int.fdiv q1 l1 !=0;let w1:=cond v1 true (keyNo r1 h1 d1 a1 r0 h0 !=0);let x1:=tn 3 b0;let y1:=uOk n;let z1:Int:=cond y1 (n/17179869184) 0;let a2:Int:=cond y1 (n/536870912%32) 0;let b2:Int:=cond y1 (n/16777216%32) 0;let c2:Int:=cond y1 (n/524288%32) 0;let d2:Int:=cond y1 (n/65536%8) 0;let e2:Int:=cond y1 (n%65536) 0;let g2:Int:=cond y1 0 1;tn 2 (b0∧(c0≤9223372036854775807→((0:Int)≤0∧0<c0)∧True∧a0∧tn 6 ((0:Int)≤16∧IntKind.wrap IntKind.u64 g0=g0∧True∧w64 h0=h0∧True∧(0:Int)≤16∧w64 k0=k0∧(0≤k0∧k0<c0)∧True∧a0∧
    tn 6 ((0:Int)≤3∧IntKind.wrap IntKind.u64 o0=o0∧True∧w64 r0=r0∧True∧(0:Int)≤3∧w64 u0=u0∧(0≤u0∧u0<c0)∧True∧a0∧tn 6 (v0∧y0∧True∧w64 a1=a1∧True∧v0∧w64 b1=b1∧(0≤b1∧b1<c0)∧True∧a0∧tn 6 (v0∧y0∧True∧w64 d1=d1∧True∧v0∧w64 e1=e1∧(0≤e1∧e1<c0)∧True∧a0∧tn 6 (v0∧y0∧True∧w64 h1=h1∧True∧v0∧w64 k1=k1∧(0≤k1∧k1<c0)∧True∧a0∧tn 6 ((0:Int)≤4∧IntKind.wrap IntKind.u64 o1=o1∧True∧w64 r1=r1∧True∧(0:Int)≤4∧w64 u1=u1∧(v1=false→(((((((True∧r1=r1)∧h1=h1)∧d1=d1)∧a1=a1)∧r0=r0)∧h0=h0)∧True)∧a0)∧(w1=true→x1∧((True∧(((((True∧0=z1)∧0=a2)∧0=b2)∧0=c2)∧0=d2)∧0=e2)∧(1:Int)≠0∧g2=1∧((-1):Int)=(-1))∧True)∧(w1=false→x1∧((True∧(((((True∧r1=z1)∧h1=a2)∧d1=b2)∧a1=c2)∧r0=d2)∧h0=e2)∧g2=0∧((-1):Int)=(-1))∧True)))))))))
theorem ok_unpack : FnOK Try.prog glN 5 c_unpack := ok_of (.cons ok_wordCheck (.cons ok_fields (.cons ok_fld1 (.cons ok_fld2 (.cons ok_fld3 (.cons ok_fld4 (.cons ok_fld5 (.cons ok_fld6 .nil)))))))) false Try.call5 Try.func5 (fun _ => [.dec, .unroll 7]) (V := V_unpack) (fun _ => by kernel_rfl) fun ⟨n⟩ hp => by
  dsimp only [s_unpack] at hp
  dsimp only [V_unpack, tn, w64]
  obtain ⟨h0, h1⟩ := hp
  have hq : min (Int.toNat 16) (IntKind.bits IntKind.u64) = 16 ∧ min (Int.toNat 3) (IntKind.bits IntKind.u64) = 3 ∧ min (Int.toNat 5) (IntKind.bits IntKind.u64) = 5 ∧ min (Int.toNat 4) (IntKind.bits IntKind.u64) = 4 := by decide
  obtain ⟨q1, q2, q3, q4⟩ := hq
  have cp : ∀ n : Nat, ((2 ^ n : Nat) : Int) = (2 : Int) ^ n := fun n => by simp
  simp only [q1, q2, q3, q4, cp]
  have s16 : ∀ x : Int, x.fdiv (2 ^ 16) = x / 65536 := fun x => Int.fdiv_eq_ediv_of_nonneg _ (by decide)
  have s3 : ∀ x : Int, x.fdiv (2 ^ 3) = x / 8 := fun x => Int.fdiv_eq_ediv_of_nonneg _ (by decide)
  have s5 : ∀ x : Int, x.fdiv (2 ^ 5) = x / 32 := fun x => Int.fdiv_eq_ediv_of_nonneg _ (by decide)
  have s4 : ∀ x : Int, x.fdiv (2 ^ 4) = x / 16 := fun x => Int.fdiv_eq_ediv_of_nonneg _ (by decide)
  have m16 : ∀ x : Int, bitsI BinOp.and IntKind.u64 x (IntKind.u64.wrap (1 * 2 ^ 16) - 1) = x % 65536 := fun x => maskU 16 (by omega) (by decide)
  have m3 : ∀ x : Int, bitsI BinOp.and IntKind.u64 x (IntKind.u64.wrap (1 * 2 ^ 3) - 1) = x % 8 := fun x => maskU 3 (by omega) (by decide)
  have m5 : ∀ x : Int, bitsI BinOp.and IntKind.u64 x (IntKind.u64.wrap (1 * 2 ^ 5) - 1) = x % 32 := fun x => maskU 5 (by omega) (by decide)
  have m4 : ∀ x : Int, bitsI BinOp.and IntKind.u64 x (IntKind.u64.wrap (1 * 2 ^ 4) - 1) = x % 16 := fun x => maskU 4 (by omega) (by decide)
  simp only [m16, m3, m5, m4, s16, s3, s5, s4]
  have d1 : n / 65536 / 8 = n / 524288 := by omega
  have d2 : n / 524288 / 32 = n / 16777216 := by omega
  have d3 : n / 16777216 / 32 = n / 536870912 := by omega
  have d4 : n / 536870912 / 32 = n / 17179869184 := by omega
  simp only [d1, d2, d3, d4]
  have hw : ∀ x, 0 ≤ x → x < 9223372036854775808 → IntKind.i64.wrap x = x := fun x _ _ => by rw [IntKind.wrap_i64]; omega
  have hc : n / 17179869184 / 16 ≠ 0 → uOk n = false := fun h => by
    have : ¬ n < 274877906944 := by omega
    simp [uOk, this]
  have hk : n / 17179869184 / 16 = 0 → uOk n = (keyNo (n / 17179869184 % 16) (n / 536870912 % 32) (n / 16777216 % 32) (n / 524288 % 32) (n / 65536 % 8) (n % 65536) == 0) ∧ n / 17179869184 % 16 = n / 17179869184 := fun h => by
    have h2 : n < 274877906944 := by omega
    have h3 : n / 17179869184 % 16 = n / 17179869184 := by omega
    rw [h3]
    exact ⟨by simp [uOk, h2], rfl⟩
  simp only [bne]
  generalize (keyNo (n / 17179869184 % 16) (n / 536870912 % 32) (n / 16777216 % 32) (n / 524288 % 32) (n / 65536 % 8) (n % 65536) == 0) = q at *
  repeat' (first | exact trivial | rfl | refine And.intro ?_ ?_ | intro h)
  all_goals first | (exact absurd ‹_› (by decide)) | decide | (refine hw _ ?_ ?_ <;> omega) | (simp only [IntKind.wrap_i64]; omega) | omega | skip
  all_goals (rcases Decidable.em (n / 17179869184 / 16 = 0) with hz | hz)
  all_goals (first | replace hk := hk hz | replace hc := hc hz)
  all_goals (cases q <;> simp_all)
end Go.Proofs.Ytdjilaofmdhikaa
set_option linter.unusedVariables false
set_option linter.unusedSimpArgs false
set_option maxRecDepth 100000
namespace Go.Proofs.Ytdjilaofmdhikaa
open Go.RowKit Go.Sy
structure X_topKeys where
  (k b l m r g k2 b2 l2 m2 r2 g2 : Int)
def s_topKeys : Sy.Spec := ⟨X_topKeys, fun ⟨k, b, l, m, r, g, k2, b2, l2, m2, r2, g2⟩ => [.ag 6 (lsv [.v (.int .i64 k), .v (.int .i64 b), .v (.int .i64 l), .v (.int .i64 m), .v (.int .i64 r), .v (.int .i64 g)]), .ag 6 (lsv [.v (.int .i64 k2), .v (.int .i64 b2), .v (.int .i64 l2), .v (.int .i64 m2), .v (.int .i64 r2), .v (.int .i64 g2)])], fun _ => [], fun _ => True, fun _ => .v (.bool true), fun _ => [],
  fun args mem => match args with | [a0, a1] => some ⟨intD (agD a0 0), intD (agD a0 1), intD (agD a0 2), intD (agD a0 3), intD (agD a0 4), intD (agD a0 5), intD (agD a1 0), intD (agD a1 1), intD (agD a1 2), intD (agD a1 3), intD (agD a1 4), intD (agD a1 5)⟩ | _ => none⟩
def c_topKeys : Con := ⟨[], s_topKeys.g, none⟩
def V_topKeys : X_topKeys → Prop := fun ⟨k, b, l, m, r, g, k2, b2, l2, m2, r2, g2⟩ => let a0:=True∧True;let b0:=(1:Int)=1;let c0:=cond (keyNo 1 1 2 1 7 0 !=0) true (pkW 1 1 2 1 7 0==0);let d0:=keyNo k b l m r g;let e0:=cond (d0 !=0) true (keyNo k2 b2 l2 m2 r2 g2 !=0);let g0:=pkW k b l m r g;let h0:=uOk g0;tn 2 (((((((((True∧k=k)∧b=b)∧l=l)∧m=m)∧r=r)∧g=g)∧True)∧a0)∧((((((((True∧k2=k2)∧b2=b2)∧l2=l2)∧m2=m2)∧r2=r2)∧g2=g2)∧True)∧a0)∧((((((((True∧b0)∧b0)∧(2:Int)=2)∧b0)∧(7:Int)=7)∧(0:Int)=0)∧True)∧a0)∧(c0=true→false=true∧True)∧(c0=false→(e0=true→cond (d0==0) true (g0==0)=true∧True)∧(e0=false→((g0=g0∧True)∧True∧0≤g0∧g0<18446744073709551616)∧True∧tn 4 a0∧cond (cond ((cond h0 0 1:Int)==0) (cond h0 (g0/17179869184) 0==k&&(cond h0 (g0/536870912%32) 0==b&&(cond h0 (g0/16777216%32) 0==l&&(cond h0 (g0/524288%32) 0==m&&(cond h0 (g0/65536%8) 0==r&&(cond h0 (g0%65536) 0==g&&true)))))) false) ((g0==pkW k2 b2 l2 m2 r2 g2)==(k==k2&&(b==b2&&(l==l2&&(m==m2&&(r==r2&&(g==g2&&true))))))) false=true∧True)))
set_option maxHeartbeats 1000000 in
theorem ok_topKeys : FnOK Try.prog glN 3 c_topKeys := ok_of (.cons ok_pack (.cons ok_unpack .nil)) false Try.call3 Try.func3 (fun _ => []) (V := V_topKeys) (fun _ => by kernel_rfl) fun ⟨k, b, l, m, r, g, k2, b2, l2, m2, r2, g2⟩ hp => by
  dsimp only [V_topKeys, tn, w64]
  simp only [std, stb, eq_self, implies_true, Bool.cond_self]
  refine ⟨fun h => absurd h (by decide), fun _ => ⟨fun h => ?_, fun h => ?_⟩⟩
  · cases hk : keyNo k b l m r g == 0 with
    | true => rfl
    | false =>
      have e : pkW k b l m r g = 0 := by unfold pkW; rw [hk]; rfl
      rw [e]; rfl
  have h' := h
  simp only [Bool.or_eq_false_iff, bne_eq_false_iff_eq] at h'
  obtain ⟨h1, h2⟩ := h'
  have hr := keyNo_range h1
  have hr2 := keyNo_range h2
  have p1 : pkW k b l m r g = ((((k * 32 + b) * 32 + l) * 32 + m) * 8 + r) * 65536 + g := by unfold pkW; rw [h1]; rfl
  have p2 : pkW k2 b2 l2 m2 r2 g2 = ((((k2 * 32 + b2) * 32 + l2) * 32 + m2) * 8 + r2) * 65536 + g2 := by unfold pkW; rw [h2]; rfl
  rw [p2]
  obtain ⟨N, hN⟩ : ∃ N, N = pkW k b l m r g := ⟨_, rfl⟩
  rw [← hN]
  rw [p1] at hN
  have e1 : N / 17179869184 = k := by omega
  have e2 : N / 536870912 % 32 = b := by omega
  have e3 : N / 16777216 % 32 = l := by omega
  have e4 : N / 524288 % 32 = m := by omega
  have e5 : N / 65536 % 8 = r := by omega
  have e6 : N % 65536 = g := by omega
  have hu : uOk N = true := by
    unfold uOk
    rw [e1, e2, e3, e4, e5, e6, h1, decide_eq_true (show N < 274877906944 by omega)]
    rfl
  refine ⟨by omega, ?_⟩
  simp only [hu, cond_true, e1, e2, e3, e4, e5, e6, beq_self_eq_true, Bool.and_true, Bool.true_and, beq_iff_eq]
  rw [Bool.eq_iff_iff]
  simp only [Bool.and_eq_true, beq_iff_eq]
  constructor
  · intro h; omega
  · rintro ⟨rfl, rfl, rfl, rfl, rfl, rfl⟩; exact hN
end Go.Proofs.Ytdjilaofmdhikaa
namespace Go.Proofs.Ytdjilaofmdhikaa
open Go.ChangeShapes Go.WideShapes Go.RowKit Go.Sy
theorem K.own : ownKnob Try.prog.godebug = none := by kernel_rfl
noncomputable def K.world (os : Os) : World := World.holding Try.prog os ⟨#[], #[], []⟩
theorem K.laidOut : laidOutB Try.prog = true := by kernel_rfl
theorem K.trodAll {H : Type} {enc : TypeId × Value → H} {P : Program} (hl : laidOutB P = true) {W W' : World} (hb : Below W.heap.size W W') : ∀ {ts : List TypeId} {vs : List Value} {ds : List (DataW H)} {ps : List MemPlace},
    (ts.all fun t => P.readableRec t && decide (t < P.types.size)) = true → DataW.TrodAll enc P W 0 (fun _ => true) true ts vs ds ps → (∀ x ∈ ps, x.block < W.heap.size) → DataW.TrodAll enc P W' 0 (fun b => decide (b < W.heap.size)) true ts vs ds ps
  | [], [], [], _, _, h, _ => h
  | t :: ts, v :: vs, d :: ds, ps, hr, ⟨p, q, h1, h2, e⟩, hlt => by
    subst e
    simp only [List.all_cons, Bool.and_eq_true, decide_eq_true_eq] at hr
    exact ⟨p, q, Below.trod hl hr.1.1 hr.1.2 h1 hb (fun x hx => hlt x (List.mem_append_left _ hx)), K.trodAll hl hb hr.2 h2 (fun x hx => hlt x (List.mem_append_right _ hx)), rfl⟩
theorem K.underlying4 : Try.prog.underlying 4 = some .bool := by kernel_rfl
theorem K.len {H : Type} {enc : TypeId × Value → H} {P : Program} {w : World} {base : Nat} {spare : Nat → Bool} {held : Bool} : ∀ {ts : List TypeId} {vs : List Value} {ds : List (DataW H)} {ps : List MemPlace}, DataW.TrodAll enc P w base spare held ts vs ds ps → ds.length = ts.length
  | [], [], [], _, _ => rfl
  | _ :: _, _ :: _, _ :: _, _, ⟨_, _, _, h, _⟩ => by simp [K.len h]
set_option maxRecDepth 100000 in
theorem K.lift {f : FuncId} {fn : Func} {s : ChangeSpec} {X : World → Prop} (hX : ∀ (w w' : World), w.heap = w'.heap → X w → X w') (os : Os) (started : os.Started) (H : Type) (enc : TypeId × Value → H)
    (noInit : Try.checked.prog.inits.idxOf? f = none) (hfn : Try.checked.prog.funcs[f]? = some fn)
    (hs : ∀ ds : List (DataW H), ds.length = fn.params.toList.length → s.fn H (ds ++ []) = { results := [.lit (.bool true)], args := ds }) (hv : s.vars = []) (hr : fn.resultTypes = #[4])
    (hrow : (fn.params.toList.all fun t => Try.prog.readableRec t && decide (t < Try.prog.types.size)) = true)
    (witness : ∃ (w : World) (tape : Tape) (i : Input), w.os = os ∧ (w.forCall tape i).Shaped Try.prog ∧ i.vars = [] ∧ Input.okWide Try.prog (w.forCall tape i) .any w.heap.size f i ∧
      ((s.pre enc Try.prog fn [] false (w.forCall tape i).memory i.args ∧ X (w.forCall tape i).memory) ∧ sizedMet enc Try.prog fn (OpenSpec.ofChange s) false (w.forCall tape i).memory i.args) ∧ ({} : Assume).holds Try.prog (lone (Frame.enter Try.prog f i.args .normal) [] (w.forCall tape i)))
    (contract : ∀ (W : World) (base : Nat) (args : Array Value) (ds : List (DataW H)) (p : List MemPlace),
      (∀ (j : Nat) t v, fn.params[j]? = some t → args[j]? = some v → Value.okWide Try.prog W .any base t v) →
      DataW.TrodAll enc Try.prog W 0 (fun _ => true) true fn.params.toList args.toList ds p → X W → (∀ x ∈ p, x.block < W.heap.size) →
      Calls Try.prog f args W fun e W' => e = .returned (.bool true) ∧ Below W.heap.size W W') :
    ReturnsInHanded {} Try.checked os f .any (fun w args => (s.pre enc Try.prog fn [] false w args ∧ X w) ∧ sizedMet enc Try.prog fn (OpenSpec.ofChange s) false w args) (s.post enc Try.prog fn false true false false) := by
  refine returnsInHanded_of_change_and (C := Try.checked) (X := fun w _ => X w) (fun w w' _ hh h => hX w w' hh h) K.own started noInit hfn witness ?_
  intro W base args ds gs before hval hW _ _ hL _
  have hW' := hW
  obtain ⟨p, q, hA, hV, rfl, hfz, _⟩ := hW
  have hlt : ∀ x ∈ p, x.block < W.heap.size := fun x hx => by simpa using hW'.lt x (List.mem_append_left _ hx)
  obtain ⟨rfl, rfl⟩ : gs = [] ∧ q = [] := by
    rw [hv] at hV
    cases gs with
    | nil => exact ⟨rfl, hV⟩
    | cons g r => exact absurd hV (by intro h; cases h)
  refine (contract W base args ds p hval hA hL hlt).mono fun e W' ⟨he, hb⟩ => ?_
  have e1 := hs ds (K.len hA)
  refine ⟨_, he, _, _, _, [], p, [], hW', ?_, ?_, ?_, hb.frame _, fun h => by cases h⟩
  · rw [e1, hr]; exact trodAll_mk1 (shut_bool K.underlying4 true)
  · rw [e1]; exact K.trodAll K.laidOut hb hrow hA hlt
  · rw [e1, hv]; rfl
theorem K.gN (W : World) (g : Nat) : Den W o0.bare (glN g) (.pointer (some ⟨g, 0, none⟩)) := trivial
end Go.Proofs.Ytdjilaofmdhikaa
