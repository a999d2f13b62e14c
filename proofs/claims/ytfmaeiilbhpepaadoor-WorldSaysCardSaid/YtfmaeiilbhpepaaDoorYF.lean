/-
  What the laws' proofs share: the variables' cells, a world that meets the rows' conditions.
-/
import Derived.Test.YtfmaeiilbhpepaaDoorYAs
import Derived.OpenShut
import Derived.ChangeArms
import Derived.MakeChecks
import Derived.Lay
import Derived.Test.YtfmaeiilbhpepaaDoorTie
import Derived.ChangeSame
import Derived.ChangeVars
import Derived.JoinedOf
import Derived.RowKit
import Derived.LaidLaws
import Derived.LaidHandle
import Derived.Stop.Joined
import Derived.SevenTiedAt
import Derived.OpenVars
import Derived.Test.YtfmaeiilbhpepaaDoorCards
set_option linter.unusedVariables false
set_option linter.unusedSimpArgs false
namespace Go.Proofs.YtfmaeiilbhpepaaDoor
open Go.ChangeShapes Go.WideShapes Go.RowKit Go.Sy
theorem K.own : ownKnob Tryd.prog.godebug = none := by kernel_rfl
theorem K.et : Tryd.prog.globalNamed "errors.errorType" = some 2 := by kernel_rfl
theorem K.rt : (Tryd.prog.cutTypes.find? (·.1 == "internal/reflectlite.rtype")).map (·.2) = some 223 := by kernel_rfl
theorem K.oneRow : ((List.range Tryd.prog.types.size).filter fun t => Tryd.prog.rowNamed t [101, 114, 114, 111, 114]) = [27] := by kernel_rfl
/-- The variable of package errors, out of a row's condition. -/
theorem K.handle {laid : List (String × DataW Unit)} {W : World} (h : laidMetH Tryd.prog laid W) (hm : ("errors.errorType", Rows.laid_errors_errorType) ∈ laid) : W.cell? ⟨2, 0, none⟩ = some A.eTy := by
  have hf : ("errors.errorType", Rows.laid_errors_errorType) ∈ laid.filter fun x => x.2.handleName?.isSome := List.mem_filter.2 ⟨hm, by rfl⟩
  unfold laidMetH at h
  split at h
  · next e => rw [e] at hf; cases hf
  next x r e =>
  rw [e] at hf
  obtain ⟨name, u, ty, e1, e2, e3, e4, e5⟩ := h.2 _ hf
  have en : name = [101, 114, 114, 111, 114] := (Option.some.inj e1).symm
  subst en
  obtain rfl := Option.some.inj (K.rt.symm.trans e2)
  have hm : ty ∈ (List.range Tryd.prog.types.size).filter fun t => Tryd.prog.rowNamed t [101, 114, 114, 111, 114] := List.mem_filter.2 ⟨List.mem_range.2 e3, e4⟩
  rw [K.oneRow] at hm
  obtain rfl := List.mem_singleton.1 hm
  have hh : typeHandle Tryd.prog 27 = .pointer (some ⟨6, 27, none⟩) := by kernel_rfl
  rw [hh] at e5
  unfold A.eTy
  simpa using World.var?_cell K.et e5 0
/-- A world that meets the rows' conditions: the settled one, the variable of package errors laid. -/
noncomputable def K.world (os : Os) : World :=
  let w0 := World.holding Tryd.prog os ⟨#[], #[], []⟩
  { w0 with heap := w0.heap.modify 2 fun
      | .cells _ t frozen => .cells #[A.eTy] t frozen
      | o => o }
theorem K.met (os : Os) (args : Array Value) : laidMetH Tryd.prog [("errors.errorType", Rows.laid_errors_errorType)] ((K.world os).forCall (fun _ _ => 0) ⟨#[], args, []⟩).memory :=
  laidMetH_of_parts (laidMet_nil _ _) (by kernel_rfl)
theorem K.laidOut : laidOutB Tryd.prog = true := by kernel_rfl
theorem K.trodAll {H : Type} {enc : TypeId × Value → H} {P : Program} (hl : laidOutB P = true) {W W' : World} (hb : Below W.heap.size W W') : ∀ {ts : List TypeId} {vs : List Value} {ds : List (DataW H)} {ps : List MemPlace},
    (ts.all fun t => P.readableRec t && decide (t < P.types.size)) = true → DataW.TrodAll enc P W 0 (fun _ => true) true ts vs ds ps → (∀ x ∈ ps, x.block < W.heap.size) → DataW.TrodAll enc P W' 0 (fun b => decide (b < W.heap.size)) true ts vs ds ps
  | [], [], [], _, _, h, _ => h
  | t :: ts, v :: vs, d :: ds, ps, hr, ⟨p, q, h1, h2, e⟩, hlt => by
    subst e
    simp only [List.all_cons, Bool.and_eq_true, decide_eq_true_eq] at hr
    exact ⟨p, q, Below.trod hl hr.1.1 hr.1.2 h1 hb (fun x hx => hlt x (List.mem_append_left _ hx)), K.trodAll hl hb hr.2 h2 (fun x hx => hlt x (List.mem_append_right _ hx)), rfl⟩
theorem K.underlying4 : Tryd.prog.underlying 4 = some .bool := by kernel_rfl
theorem K.len {H : Type} {enc : TypeId × Value → H} {P : Program} {w : World} {base : Nat} {spare : Nat → Bool} {held : Bool} : ∀ {ts : List TypeId} {vs : List Value} {ds : List (DataW H)} {ps : List MemPlace}, DataW.TrodAll enc P w base spare held ts vs ds ps → ds.length = ts.length
  | [], [], [], _, _ => rfl
  | _ :: _, _ :: _, _ :: _, _, ⟨_, _, _, h, _⟩ => by simp [K.len h]
theorem K.vlen {H : Type} {enc : TypeId × Value → H} {P : Program} {w : World} {base : Nat} {spare : Nat → Bool} {held : Bool} : ∀ {ts : List TypeId} {vs : List Value} {ds : List (DataW H)} {ps : List MemPlace}, DataW.TrodAll enc P w base spare held ts vs ds ps → vs.length = ts.length
  | [], [], [], _, _ => rfl
  | _ :: _, _ :: _, _ :: _, _, ⟨_, _, _, h, _⟩ => by simp [K.vlen h]
theorem K.noStand {ps : Array TypeId} (h : (ps.toList.all fun t => !Tryd.prog.wantsStandIn t) = true) {j : Nat} {t : TypeId} (ht : ps[j]? = some t) : Tryd.prog.wantsStandIn t = false := by
  have := List.all_eq_true.1 h t (by rw [Array.mem_toList_iff]; exact Array.mem_of_getElem? ht)
  simpa using this
set_option maxRecDepth 100000 in
/-- A law that leaves what was there as it was and answers true. -/
theorem K.lift {f : FuncId} {fn : Func} {s : ChangeSpec} {X : World → Prop} (hX : ∀ (w w' : World), w.heap = w'.heap → X w → X w') (os : Os) (started : os.Started) (H : Type) (enc : TypeId × Value → H)
    (noInit : Tryd.checked.prog.inits.idxOf? f = none) (hfn : Tryd.checked.prog.funcs[f]? = some fn)
    (hs : ∀ ds : List (DataW H), ds.length = fn.params.toList.length → s.fn H (ds ++ []) = { results := [.lit (.bool true)], args := ds }) (hv : s.vars = []) (hr : fn.resultTypes = #[4])
    (hrow : (fn.params.toList.all fun t => Tryd.prog.readableRec t && decide (t < Tryd.prog.types.size)) = true)
    (witness : ∃ (w : World) (tape : Tape) (i : Input), w.os = os ∧ (w.forCall tape i).Shaped Tryd.prog ∧ i.vars = [] ∧ Input.okWide Tryd.prog (w.forCall tape i) .any w.heap.size f i ∧
      ((s.pre enc Tryd.prog fn [] false (w.forCall tape i).memory i.args ∧ X (w.forCall tape i).memory) ∧ sizedMet enc Tryd.prog fn (OpenSpec.ofChange s) false (w.forCall tape i).memory i.args) ∧ ({} : Assume).holds Tryd.prog (lone (Frame.enter Tryd.prog f i.args .normal) [] (w.forCall tape i)))
    (contract : ∀ (W : World) (base : Nat) (args : Array Value) (ds : List (DataW H)) (p : List MemPlace),
      (∀ (j : Nat) t v, fn.params[j]? = some t → args[j]? = some v → Value.okWide Tryd.prog W .any base t v) →
      DataW.TrodAll enc Tryd.prog W 0 (fun _ => true) true fn.params.toList args.toList ds p → X W → (∀ x ∈ p, x.block < W.heap.size) →
      Calls Tryd.prog f args W fun e W' => e = .returned (.bool true) ∧ Below W.heap.size W W') :
    ReturnsInHanded {} Tryd.checked os f .any (fun w args => (s.pre enc Tryd.prog fn [] false w args ∧ X w) ∧ sizedMet enc Tryd.prog fn (OpenSpec.ofChange s) false w args) (s.post enc Tryd.prog fn false true false false) := by
  refine returnsInHanded_of_change_and (C := Tryd.checked) (X := fun w _ => X w) (fun w w' _ hh h => hX w w' hh h) K.own started noInit hfn witness ?_
  intro W base args ds gs before hval hW _ _ hL _
  have hW' := hW
  obtain ⟨p, q, hA, hV, rfl, hfz, _⟩ := hW
  have hlt : ∀ x ∈ p, x.block < W.heap.size := fun x hx => by simpa using hW'.lt x (List.mem_append_left _ hx)
  obtain ⟨rfl, rfl⟩ : gs = [] ∧ q = [] := by
    rw [hv] at hV
    cases gs with
    | nil => exact ⟨rfl, hV⟩
    | cons g r => exact absurd hV (by intro h; cases h)
  refine (contract W base args ds p hval hA hL hlt).mono fun e W' ⟨he, hb⟩ => ?_
  have e1 := hs ds (K.len hA)
  refine ⟨_, he, _, _, _, [], p, [], hW', ?_, ?_, ?_, hb.frame _, fun h => by cases h⟩
  · rw [e1, hr]; exact trodAll_mk1 (shut_bool K.underlying4 true)
  · rw [e1]; exact K.trodAll K.laidOut hb hrow hA hlt
  · rw [e1, hv]; rfl
theorem K.shapesG : Tryd.prog.globalNamed "keyhold/isa.shapes" = some 0 := by kernel_rfl
theorem K.shapesT : (Tryd.prog.globals[0]?).map (·.type) = some 143 := by kernel_rfl
theorem K.under143 : Tryd.prog.underlying 143 = some (.array 15 142) := by kernel_rfl
theorem K.cells142 : Tryd.prog.cellsOf 142 = 4 := by kernel_rfl
theorem K.cells4 : Tryd.prog.cellsOf 4 = 1 := by kernel_rfl
theorem K.shapesD : (Rows.laid_keyhold_isa_shapes : DataW Unit) = .agg ((List.range 15).map fun i => .agg [.lit (.string (shName i).data.toList), .lit (.bool (hasA i)), .lit (.bool (hasB i)), .lit (.bool (hasC i))]) := by kernel_rfl
theorem ba_eq {s : ByteArray} {t : ByteArray} (h : s.data.toList = t.data.toList) : s = t := by
  cases s; cases t
  simp only at h
  congr 1
  exact Array.toList_inj.1 h
theorem K.laidVar : ∀ {l : List (String × DataW Unit)} {ps : List MemPlace} {W : World}, DataW.LaidVars Tryd.prog W l ps → ∀ {n : String} {d : DataW Unit}, (n, d) ∈ l →
    ∃ g t cs fuel p, Tryd.prog.globalNamed n = some g ∧ (Tryd.prog.globals[g]?).map (·.type) = some t ∧ W.var? Tryd.prog n = some cs ∧ DataW.trod (fun _ => ()) Tryd.prog W 0 (fun _ => true) false fuel t cs.toList = some (d, p)
  | (n, d) :: r, ps, W, ⟨g, t, cs, fuel, p, q, hg, ht, hv, hd, hr, _⟩, n', d', hm => by
    rcases List.mem_cons.1 hm with e | e
    · cases e; exact ⟨g, t, cs, fuel, p, hg, ht, hv, hd⟩
    · exact K.laidVar hr e
theorem K.laidData {laid : List (String × DataW Unit)} {W : World} (h : laidMetH Tryd.prog laid W) : ∃ ps, DataW.LaidVars Tryd.prog W (laid.filter fun x => x.2.handleName?.isNone) ps := by
  unfold laidMetH at h
  split at h
  · next e =>
    have : (laid.filter fun x => x.2.handleName?.isNone) = laid := by
      rw [List.filter_eq_self]
      intro x hx
      have h2 : x ∉ laid.filter fun x => x.2.handleName?.isSome := by rw [e]; simp
      rw [List.mem_filter] at h2
      cases hq : x.2.handleName? with
      | none => rfl
      | some y => exact absurd ⟨hx, by rw [hq]; rfl⟩ h2
    rw [this]
    obtain ⟨ps, h1, _⟩ := h
    exact ⟨ps, h1⟩
  · obtain ⟨⟨ps, h1, _⟩, _⟩ := h
    exact ⟨ps, h1⟩
theorem K.shapes {laid : List (String × DataW Unit)} {W : World} (h : laidMetH Tryd.prog laid W) (hm : ("keyhold/isa.shapes", Rows.laid_keyhold_isa_shapes) ∈ laid) : Den W o0.bare (.pa false 4 15 shapeCell) (.pointer (some ⟨0, 0, none⟩)) := by
  obtain ⟨ps, hlv⟩ := K.laidData h
  obtain ⟨g, t, cs, fuel, p, hg, ht, hvar, hd⟩ := K.laidVar hlv (List.mem_filter.2 ⟨hm, by kernel_rfl⟩)
  obtain rfl := Option.some.inj (K.shapesG.symm.trans hg)
  obtain rfl := Option.some.inj (K.shapesT.symm.trans ht)
  rw [K.shapesD] at hd
  obtain ⟨xs, m, _, ex, _, hl, hel⟩ := DataW.trod_array K.under143 hd
  have e3 := (DataW.agg.inj (Prod.mk.inj ex).1).symm
  have key : ∀ i, i < 15 → ∀ j, j < 4 → ∃ x, cs.toList[i * 4 + j]? = some x ∧ Den W o0.bare (shapeCell i j) x := by
    intro i hi
    have hE := hel i hi
    rw [K.cells142, List.getElem?_eq_getElem (by omega)] at hE
    obtain ⟨ys, n, _, ey, _, hyl, hyel⟩ := DataW.trod_struct Tryd.underlying142 hE
    have e4 : (xs.map (·.1))[i]? = some (xs[i]).1 := by rw [List.getElem?_map, List.getElem?_eq_getElem (by omega)]; rfl
    rw [e3, List.getElem?_map, List.getElem?_range hi, ey] at e4
    simp only [Option.map_some, Option.some.injEq] at e4
    have e5 := (DataW.agg.inj e4).symm
    have f0 := hyel 0 _ rfl
    have f1 := hyel 1 _ rfl
    have f2 := hyel 2 _ rfl
    have f3 := hyel 3 _ rfl
    match ys, e5 with
    | [y0, y1, y2, y3], e5 =>
      simp only [List.map_cons, List.map_nil, List.cons.injEq, and_true] at e5
      obtain ⟨g0, g1, g2, g3⟩ := e5
      have c9 : Tryd.prog.cellsOf 9 = 1 := by kernel_rfl
      obtain ⟨s0, a0, b0, _⟩ := DataW.trod_string Tryd.underlying9 f0
      obtain ⟨s1, a1, b1⟩ := DataW.trod_bool Tryd.underlying4 f1
      obtain ⟨s2, a2, b2⟩ := DataW.trod_bool Tryd.underlying4 f2
      obtain ⟨s3, a3, b3⟩ := DataW.trod_bool Tryd.underlying4 f3
      change List.take (Tryd.prog.cellsOf 9) (List.drop 0 _) = _ at a0
      change List.take (Tryd.prog.cellsOf 4) (List.drop 1 _) = _ at a1
      change List.take (Tryd.prog.cellsOf 4) (List.drop 2 _) = _ at a2
      change List.take (Tryd.prog.cellsOf 4) (List.drop 3 _) = _ at a3
      rw [c9] at a0
      rw [K.cells4] at a1 a2 a3
      rw [b0] at g0; rw [b1] at g1; rw [b2] at g2; rw [b3] at g3
      simp only [DataW.lit.injEq, Lit.string.injEq, Lit.bool.injEq] at g0 g1 g2 g3
      have get : ∀ (j : Nat) (x : Value), List.take 1 (List.drop j (List.take 4 (List.drop (i * 4) cs.toList))) = [x] → j < 4 → cs.toList[i * 4 + j]? = some x := by
        intro j x hx hj
        have h0 : (List.take 1 (List.drop j (List.take 4 (List.drop (i * 4) cs.toList))))[0]? = some x := by rw [hx]; rfl
        rw [List.getElem?_take_of_lt (by omega), List.getElem?_drop, List.getElem?_take_of_lt (by omega), List.getElem?_drop] at h0
        simpa using h0
      intro j hj
      match j, hj with
      | 0, _ => exact ⟨_, get 0 _ a0 (by omega), by rw [ba_eq g0]; rfl⟩
      | 1, _ => exact ⟨_, get 1 _ a1 (by omega), by rw [g1]; rfl⟩
      | 2, _ => exact ⟨_, get 2 _ a2 (by omega), by rw [g2]; rfl⟩
      | 3, _ => exact ⟨_, get 3 _ a3 (by omega), by rw [g3]; rfl⟩
  refine ⟨_, rfl, fun i hi j hj => ?_⟩
  obtain ⟨x, h1, h2⟩ := key i hi j hj
  refine ⟨x, ?_, ⟨id, fun _ => id⟩, h2⟩
  rw [add_mk, Nat.zero_add, World.var?_cell K.shapesG hvar]
  simpa using h1
theorem K.eT {laid : List (String × DataW Unit)} {W : World} (h : laidMetH Tryd.prog laid W) (hm : ("errors.errorType", Rows.laid_errors_errorType) ∈ laid) : Den W o0.bare (.pt false 1 fun _ => .v A.eTy) (.pointer (some ⟨2, 0, none⟩)) :=
  ⟨_, rfl, fun j hj => ⟨_, by obtain rfl : j = 0 := by omega
                              exact K.handle h hm, ⟨id, fun _ => id⟩, rfl⟩⟩
theorem K.gN (W : World) (g : Nat) : Den W o0.bare (glN g) (.pointer (some ⟨g, 0, none⟩)) := trivial
theorem K.gS {laid : List (String × DataW Unit)} {W : World} (h : laidMetH Tryd.prog laid W) (hm : ("keyhold/isa.shapes", Rows.laid_keyhold_isa_shapes) ∈ laid) (g : Nat) : Den W o0.bare (glS g) (.pointer (some ⟨g, 0, none⟩)) := by
  unfold glS
  split
  · exact K.shapes h hm
  · trivial
theorem K.gE {laid : List (String × DataW Unit)} {W : World} (h : laidMetH Tryd.prog laid W) (hm : ("errors.errorType", Rows.laid_errors_errorType) ∈ laid) (g : Nat) : Den W o0.bare (glE g) (.pointer (some ⟨g, 0, none⟩)) := by
  unfold glE
  split
  · exact K.eT h hm
  · trivial
theorem K.gB {laid : List (String × DataW Unit)} {W : World} (h : laidMetH Tryd.prog laid W) (hm : ("errors.errorType", Rows.laid_errors_errorType) ∈ laid) (hm2 : ("keyhold/isa.shapes", Rows.laid_keyhold_isa_shapes) ∈ laid) (g : Nat) : Den W o0.bare (glB g) (.pointer (some ⟨g, 0, none⟩)) := by
  unfold glB
  split
  · exact K.shapes h hm2
  · exact K.eT h hm
  · trivial
def K.shapeVals : Array Value := ((List.range 15).flatMap fun i => [.string (shName i), .bool (hasA i), .bool (hasB i), .bool (hasC i)]).toArray
/-- Worlds that meet the rows' conditions. -/
noncomputable def K.world1 (os : Os) : World :=
  let w0 := World.holding Tryd.prog os ⟨#[], #[], []⟩
  { w0 with heap := w0.heap.modify 0 fun
      | .cells _ t frozen => .cells K.shapeVals t frozen
      | o => o }
noncomputable def K.world2 (os : Os) : World :=
  let w0 := World.holding Tryd.prog os ⟨#[], #[], []⟩
  { w0 with heap := (w0.heap.modify 2 fun
      | .cells _ t frozen => .cells #[A.eTy] t frozen
      | o => o).modify 0 fun
      | .cells _ t frozen => .cells K.shapeVals t frozen
      | o => o }
theorem K.met1 (os : Os) (args : Array Value) : laidMetH Tryd.prog [("keyhold/isa.shapes", Rows.laid_keyhold_isa_shapes)] ((K.world1 os).forCall (fun _ _ => 0) ⟨#[], args, []⟩).memory :=
  laidMetH_of_parts (laidMet_of_run' 8 (by kernel_rfl) (by kernel_rfl)) (by kernel_rfl)
theorem K.met2 (os : Os) (args : Array Value) : laidMetH Tryd.prog [("errors.errorType", Rows.laid_errors_errorType), ("keyhold/isa.shapes", Rows.laid_keyhold_isa_shapes)] ((K.world2 os).forCall (fun _ _ => 0) ⟨#[], args, []⟩).memory :=
  laidMetH_of_parts (laidMet_of_run' 8 (by kernel_rfl) (by kernel_rfl)) (by kernel_rfl)
end Go.Proofs.YtfmaeiilbhpepaaDoor
