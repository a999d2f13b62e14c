/-
  What the laws' proofs share: the variables' cells, a world that meets the rows' conditions.
-/
import Derived.Test.YtdjilaofmdhikaaGreatDoorYI
import Derived.OpenShut
import Derived.ChangeArms
import Derived.MakeChecks
import Derived.Lay
import Derived.Test.YtdjilaofmdhikaaGreatDoorTie
import Derived.ChangeSame
import Derived.ChangeVars
import Derived.JoinedOf
import Derived.RowKit
import Derived.LaidLaws
import Derived.LaidHandle
import Derived.Stop.Joined
import Derived.SevenTiedAt
import Derived.OpenVars
import Derived.Test.YtdjilaofmdhikaaGreatDoorCards
set_option linter.unusedVariables false
set_option linter.unusedSimpArgs false
namespace Go.Proofs.YtdjilaofmdhikaaGreatDoor
open Go.ChangeShapes Go.WideShapes Go.RowKit Go.Sy
theorem K.own:ownKnob Tryz.prog.godebug=none:=by kernel_rfl
theorem K.et : Tryz.prog.globalNamed "errors.errorType" = some 0 := by kernel_rfl
theorem K.rt : (Tryz.prog.cutTypes.find? (·.1 == "internal/reflectlite.rtype")).map (·.2) = some 182 := by kernel_rfl
theorem K.oneRow:((List.range Tryz.prog.types.size).filter fun t=>Tryz.prog.rowNamed t [101,114,114,111,114])= [31]:=by kernel_rfl
theorem K.handle {laid : List (String × DataW Unit)} {W : World} (h : laidMetH Tryz.prog laid W) (hm : ("errors.errorType", Rows.laid_errors_errorType) ∈ laid) : W.cell? ⟨0, 0, none⟩ = some A.eTy := by
  have hf : ("errors.errorType", Rows.laid_errors_errorType) ∈ laid.filter fun x => x.2.handleName?.isSome := List.mem_filter.2 ⟨hm, by rfl⟩
  unfold laidMetH at h
  split at h
  · next e=>rw [e] at hf;cases hf
  next x r e=>
  rw [e] at hf
  obtain ⟨name,u,ty,e1,e2,e3,e4,e5⟩:=h.2 _ hf
  have en:name= [101,114,114,111,114]:=(Option.some.inj e1).symm
  subst en
  obtain rfl:=Option.some.inj (K.rt.symm.trans e2)
  have hm:ty∈(List.range Tryz.prog.types.size).filter fun t=>Tryz.prog.rowNamed t [101,114,114,111,114]:=List.mem_filter.2 ⟨List.mem_range.2 e3,e4⟩
  rw [K.oneRow] at hm
  obtain rfl:=List.mem_singleton.1 hm
  have hh:typeHandle Tryz.prog 31= .pointer (some ⟨1,31,none⟩):=by kernel_rfl
  rw [hh] at e5
  unfold A.eTy
  simpa using World.var?_cell K.et e5 0
noncomputable def K.world (os:Os):World:=
  let w0:=World.holding Tryz.prog os ⟨#[],#[],[]⟩
  {w0 with heap:=w0.heap.modify 0 fun
   | .cells _ t frozen=> .cells #[A.eTy] t frozen
   |o=>o}
theorem K.met (os : Os) (args : Array Value) : laidMetH Tryz.prog [("errors.errorType", Rows.laid_errors_errorType)] ((K.world os).forCall (fun _ _ => 0) ⟨#[], args, []⟩).memory :=
  laidMetH_of_parts (laidMet_nil _ _) (by kernel_rfl)
theorem K.laidOut:laidOutB Tryz.prog=true:=by kernel_rfl
theorem K.trodAll {H:Type} {enc:TypeId×Value→H} {P:Program} (hl:laidOutB P=true) {W W':World} (hb:Below W.heap.size W W'): ∀{ts:List TypeId} {vs:List Value} {ds:List (DataW H)} {ps:List MemPlace},
    (ts.all fun t=>P.readableRec t&&decide (t<P.types.size))=true→DataW.TrodAll enc P W 0 (fun _=>true) true ts vs ds ps→(∀x∈ps,x.block<W.heap.size)→DataW.TrodAll enc P W' 0 (fun b=>decide (b<W.heap.size)) true ts vs ds ps
  | [],[],[],_,_,h,_=>h
  |t::ts,v::vs,d::ds,ps,hr,⟨p,q,h1,h2,e⟩,hlt=>by
   subst e
   simp only [List.all_cons,Bool.and_eq_true,decide_eq_true_eq] at hr
   exact ⟨p,q,Below.trod hl hr.1.1 hr.1.2 h1 hb (fun x hx=>hlt x (List.mem_append_left _ hx)),K.trodAll hl hb hr.2 h2 (fun x hx=>hlt x (List.mem_append_right _ hx)),rfl⟩
theorem K.underlying4:Tryz.prog.underlying 4=some .bool:=by kernel_rfl
theorem K.len {H:Type} {enc:TypeId×Value→H} {P:Program} {w:World} {base:Nat} {spare:Nat→Bool} {held:Bool}: ∀{ts:List TypeId} {vs:List Value} {ds:List (DataW H)} {ps:List MemPlace},DataW.TrodAll enc P w base spare held ts vs ds ps→ds.length=ts.length
  | [],[],[],_,_=>rfl
  |_::_,_::_,_::_,_,⟨_,_,_,h,_⟩=>by simp [K.len h]
theorem K.noStand {ps:Array TypeId} (h:(ps.toList.all fun t=>!Tryz.prog.wantsStandIn t)=true) {j:Nat} {t:TypeId} (ht:ps[j]? =some t):Tryz.prog.wantsStandIn t=false:=by
  have:=List.all_eq_true.1 h t (by rw [Array.mem_toList_iff];exact Array.mem_of_getElem? ht)
  simpa using this
set_option maxRecDepth 100000 in
theorem K.lift {f:FuncId} {fn:Func} {s:ChangeSpec} {X:World→Prop} (hX: ∀(w w':World),w.heap=w'.heap→X w→X w') (os:Os) (started:os.Started) (H:Type) (enc:TypeId×Value→H)
    (noInit:Tryz.checked.prog.inits.idxOf? f=none) (hfn:Tryz.checked.prog.funcs[f]? =some fn)
    (hs: ∀ds:List (DataW H),ds.length=fn.params.toList.length→s.fn H (ds++ [])={results:= [.lit (.bool true)],args:=ds}) (hv:s.vars= []) (hr:fn.resultTypes= #[4])
    (hrow:(fn.params.toList.all fun t=>Tryz.prog.readableRec t&&decide (t<Tryz.prog.types.size))=true)
    (witness: ∃(w:World) (tape:Tape) (i:Input),w.os=os∧(w.forCall tape i).Shaped Tryz.prog∧i.vars= []∧Input.okWide Tryz.prog (w.forCall tape i) .any w.heap.size f i∧
      ((s.pre enc Tryz.prog fn [] false (w.forCall tape i).memory i.args∧X (w.forCall tape i).memory)∧sizedMet enc Tryz.prog fn (OpenSpec.ofChange s) false (w.forCall tape i).memory i.args)∧({}:Assume).holds Tryz.prog (lone (Frame.enter Tryz.prog f i.args .normal) [] (w.forCall tape i)))
    (contract: ∀(W:World) (base:Nat) (args:Array Value) (ds:List (DataW H)) (p:List MemPlace),
      (∀(j:Nat) t v,fn.params[j]? =some t→args[j]? =some v→Value.okWide Tryz.prog W .any base t v)→
      DataW.TrodAll enc Tryz.prog W 0 (fun _=>true) true fn.params.toList args.toList ds p→X W→(∀x∈p,x.block<W.heap.size)→
      Calls Tryz.prog f args W fun e W'=>e= .returned (.bool true)∧Below W.heap.size W W'):
    ReturnsInHanded {} Tryz.checked os f .any (fun w args=>(s.pre enc Tryz.prog fn [] false w args∧X w)∧sizedMet enc Tryz.prog fn (OpenSpec.ofChange s) false w args) (s.post enc Tryz.prog fn false true false false):=by
  refine returnsInHanded_of_change_and (C:=Tryz.checked) (X:=fun w _=>X w) (fun w w' _ hh h=>hX w w' hh h) K.own started noInit hfn witness ?_
  intro W base args ds gs before hval hW _ _ hL _
  have hW':=hW
  obtain ⟨p,q,hA,hV,rfl,hfz,_⟩:=hW
  have hlt: ∀x∈p,x.block<W.heap.size:=fun x hx=>by simpa using hW'.lt x (List.mem_append_left _ hx)
  obtain ⟨rfl,rfl⟩:gs= []∧q= []:=by
    rw [hv] at hV
    cases gs with
    |nil=>exact ⟨rfl,hV⟩
    |cons g r=>exact absurd hV (by intro h;cases h)
  refine (contract W base args ds p hval hA hL hlt).mono fun e W' ⟨he,hb⟩=>?_
  have e1:=hs ds (K.len hA)
  refine ⟨_,he,_,_,_,[],p,[],hW',?_,?_,?_,hb.frame _,fun h=>by cases h⟩
  · rw [e1,hr];exact trodAll_mk1 (shut_bool K.underlying4 true)
  · rw [e1];exact K.trodAll K.laidOut hb hrow hA hlt
  · rw [e1,hv];rfl
theorem K.eT {laid : List (String × DataW Unit)} {W : World} (h : laidMetH Tryz.prog laid W) (hm : ("errors.errorType", Rows.laid_errors_errorType) ∈ laid) : Den W o0.bare (.pt false 1 fun _ => .v A.eTy) (.pointer (some ⟨0, 0, none⟩)) :=
  ⟨_,rfl,fun j hj=>⟨_,by obtain rfl:j=0:=by omega
                         exact K.handle h hm,⟨id,fun _=>id⟩,rfl⟩⟩
theorem K.gE {laid : List (String × DataW Unit)} {W : World} (h : laidMetH Tryz.prog laid W) (hm : ("errors.errorType", Rows.laid_errors_errorType) ∈ laid) (g : Nat) : Den W o0.bare (glE g) (.pointer (some ⟨g, 0, none⟩)) := by
  unfold glE
  split
  · exact K.eT h hm
  · trivial
end Go.Proofs.YtdjilaofmdhikaaGreatDoor
