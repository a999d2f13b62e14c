/- What is remembered of tables: finding. -/
import Derived.Test.YtmieeldmfehpoaaDoorYI
import Derived.OpenShut
import Derived.ChangeArms
import Derived.MakeChecks
import Derived.Lay
import Derived.Test.YtmieeldmfehpoaaDoorTie
import Derived.ChangeSame
import Derived.ChangeVars
import Derived.JoinedOf
import Derived.RowKit
import Derived.LaidLaws
import Derived.LaidHandle
import Derived.Stop.Joined
import Derived.SevenTiedAt
import Derived.OpenVars
import Derived.Test.YtmieeldmfehpoaaDoorCards
set_option linter.unusedVariables false
set_option linter.unusedSimpArgs false
set_option linter.unusedVariables false
set_option linter.unusedSimpArgs false
set_option maxRecDepth 100000
namespace Go.Proofs.YtmieeldmfehpoaaDoor
open Go.RowKit Go.Sy
def fdB (sp pg:Int) (e:Ent4):Bool:=e.sp==sp&&e.pg==pg
def drB (sp pg:Int) (e:Ent4):Bool:=e.sp==sp&&(decide (pg<0)||e.pg==pg)
def zEn:Ent4:=⟨0,0,0,false⟩
def fdE (n:Nat) (t:Nat→Ent4) (sp pg:Int):Ent4:=bif Nat.blt (fstB n fun i=>fdB sp pg (t i)) n then t (fstB n fun i=>fdB sp pg (t i)) else zEn
def fdO (n:Nat) (t:Nat→Ent4) (sp pg:Int):Bool:=Nat.blt (fstB n fun i=>fdB sp pg (t i)) n
def anQF (n:Nat) (p:Nat→Bool):Ann where
  σ:=Nat
  rt:= [(6,0)]
  sh i:= [(6,pt0 0),(8,.v (.int .i64 i))]
  mh _:= []
  inv i:=i≤n∧ ∀j,j<i→p j=false
  μ i:=n -i
  init:=0
def anQ (n:Nat) (p:Nat→Bool):Ann where
  σ:=Nat
  rt:= []
  sh i:= [(8,.v (.int .i64 i))]
  mh _:= []
  inv i:=i≤n∧ ∀j,j<i→p j=false
  μ i:=n -i
  init:=0
structure X_find1 where
  (e:Ent4) (sp pg:Int)
def s_find1:Sy.Spec:=⟨X_find1,fun ⟨e,sp,pg⟩=> [.ag 4 (lsv (enL e)),.pt true 1 (fun _=> .v (.int .i64 sp)),.pt true 1 (fun _=> .v (.int .i64 pg))],fun _=> [],fun _=>True,fun ⟨e,sp,pg⟩=> .v (.bool (fdB sp pg e)),fun _=> [],
  fun args mem=>match args with| [a0,a1,a2]=>some ⟨enBD (agD a0),intD (ptF a1 0),intD (ptF a2 0)⟩|_=>none⟩
def c_find1:Con:=⟨[],(s_find1).g,none⟩
def V_find1:X_find1→Prop:=fun ⟨e,sp,pg⟩=>True∧cond (e.sp==sp) (e.pg==pg) false=fdB sp pg e∧True
theorem ok_find1:FnOK Tryd.prog glN 29 c_find1:=ok_of .nil false Tryd.call29 Tryd.func29 (fun _=> []) (V:=V_find1) (fun _=>by kernel_rfl) fun ⟨e,sp,pg⟩ hp=>by
  dsimp only [V_find1,tn,w64]
  simp only [std,stb,eq_self,implies_true,Bool.cond_self]
  rfl
structure X_drop1 where
  (e:Ent4) (sp pg:Int)
def s_drop1:Sy.Spec:=⟨X_drop1,fun ⟨e,sp,pg⟩=> [.ag 4 (lsv (enL e)),.pt true 1 (fun _=> .v (.int .i64 sp)),.pt true 1 (fun _=> .v (.int .i64 pg))],fun _=> [],fun _=>True,fun ⟨e,sp,pg⟩=> .v (.bool (drB sp pg e)),fun _=> [],
  fun args mem=>match args with| [a0,a1,a2]=>some ⟨enBD (agD a0),intD (ptF a1 0),intD (ptF a2 0)⟩|_=>none⟩
def c_drop1:Con:=⟨[],(s_drop1).g,none⟩
def V_drop1:X_drop1→Prop:=fun ⟨e,sp,pg⟩=>True∧cond (e.sp==sp) (cond (decide (pg<0)) true (e.pg==pg)) false=drB sp pg e∧True
theorem ok_drop1:FnOK Tryd.prog glN 32 c_drop1:=ok_of .nil false Tryd.call32 Tryd.func32 (fun _=> []) (V:=V_drop1) (fun _=>by kernel_rfl) fun ⟨e,sp,pg⟩ hp=>by
  dsimp only [V_drop1,tn,w64]
  simp only [std,stb,eq_self,implies_true,Bool.cond_self]
  rfl
structure X_idxF where
  (n:Nat) (t:Nat→Ent4) (sp pg:Int)
def s_idxF:Sy.Spec:=⟨X_idxF,fun ⟨n,t,sp,pg⟩=> [.sl true 4 n (rF fun i=>enL (t i)),.fn 29 2 (lsv [.pt true 1 (fun _=> .v (.int .i64 sp)),.pt true 1 (fun _=> .v (.int .i64 pg))])],fun _=> [],fun _=>True,fun ⟨n,t,sp,pg⟩=> .v (.int .i64 (idxB n fun i=>fdB sp pg (t i))),fun _=> [],
  fun args mem=>match args with| [a0,a1]=>(match isFn 29 a1 with|true=>some ⟨slN a0,fun i=>enBD (fun j=>slF a0 i j),intD (ptF (fnF a1 0) 0),intD (ptF (fnF a1 1) 0)⟩|false=>none)|_=>none⟩
def c_idxF:Con:=⟨[],(s_idxF).g,none⟩
def V_idxF:X_idxF→Prop:=fun ⟨n,t,sp,pg⟩=>let a0:=(n:Int);let b0:=idxB n (fun c0:Nat=>fdB sp pg (t c0));a0≤9223372036854775807→0=((0:Nat):Int)∧True∧(0≤n∧(∀d0:Nat,d0<0→fdB sp pg (t d0)=false))∧(∀e0:Nat,let g0:=(e0:Int);let h0:=decide (g0<a0);let k0:=t (Int.toNat g0);let l0:=k0.sp;let o0:=k0.pg;let q0:=k0.fr;let r0:=k0.wr;let u0:=fdB sp pg k0;let v0:Int:=g0+1;e0≤n∧(∀w0:Nat,w0<e0→fdB sp pg (t w0)=false)→(h0=true→(0≤g0∧g0<a0)∧((((((True∧l0=l0)∧o0=o0)∧q0=q0)∧r0=r0)∧(True∧sp=sp)∧(True∧pg=pg)∧True)∧True∧True)∧(u0=true→g0=b0∧True)∧(u0=false→w64 v0=v0∧(∃x0:Nat,v0=(x0:Int)∧True∧(x0≤n∧(∀y0:Nat,y0<x0→fdB sp pg (t y0)=false))∧n-x0<n-e0)))∧(h0=false→(-1)=b0∧True))
theorem ok_idxF:FnOK Tryd.prog glN 28 c_idxF:=ok_of (.cons ok_find1 .nil) false Tryd.call28 Tryd.func28 (fun ⟨n,t,sp,pg⟩=> [.inv (anQ n fun i=>fdB sp pg (t i))]) (V:=V_idxF) (fun _=>by kernel_rfl) fun ⟨n,t,sp,pg⟩ hp=>by
  dsimp only [V_idxF,tn,w64]
  simp only [std,eq_self,implies_true,Bool.cond_self]
  intro _ s hs
  refine ⟨fun h=>?_,fun h=>?_⟩
  · have hlt:=lt_of_dec h
    refine ⟨by omega,fun h1=>?_,fun h1=>⟨by rw [IntKind.wrap_i64];omega,exS ⟨⟨by omega,fun j hj=>?_⟩,by omega⟩⟩⟩
    · rw [idxB_at (p:=fun i=>fdB sp pg (t i)) hs.2 h1 hlt]
    · rcases Nat.lt_or_ge j s with h3|h3
      · exact hs.2 j h3
      · obtain rfl:j=s:=by omega
        exact h1
  · obtain rfl:s=n:=by have:=ge_of_dec h;omega
    rw [idxB_none (p:=fun i=>fdB sp pg (t i)) hs.2]
structure X_idxD where
  (n:Nat) (t:Nat→Ent4) (sp pg:Int)
def s_idxD:Sy.Spec:=⟨X_idxD,fun ⟨n,t,sp,pg⟩=> [.sl true 4 n (rF fun i=>enL (t i)),.fn 32 2 (lsv [.pt true 1 (fun _=> .v (.int .i64 sp)),.pt true 1 (fun _=> .v (.int .i64 pg))])],fun _=> [],fun _=>True,fun ⟨n,t,sp,pg⟩=> .v (.int .i64 (idxB n fun i=>drB sp pg (t i))),fun _=> [],
  fun args mem=>match args with| [a0,a1]=>(match isFn 32 a1 with|true=>some ⟨slN a0,fun i=>enBD (fun j=>slF a0 i j),intD (ptF (fnF a1 0) 0),intD (ptF (fnF a1 1) 0)⟩|false=>none)|_=>none⟩
def c_idxD:Con:=⟨[],(s_idxD).g,none⟩
def V_idxD:X_idxD→Prop:=fun ⟨n,t,sp,pg⟩=>let a0:=(n:Int);let b0:=idxB n (fun c0:Nat=>drB sp pg (t c0));a0≤9223372036854775807→0=((0:Nat):Int)∧True∧(0≤n∧(∀d0:Nat,d0<0→drB sp pg (t d0)=false))∧(∀e0:Nat,let g0:=(e0:Int);let h0:=decide (g0<a0);let k0:=t (Int.toNat g0);let l0:=k0.sp;let o0:=k0.pg;let q0:=k0.fr;let r0:=k0.wr;let u0:=drB sp pg k0;let v0:Int:=g0+1;e0≤n∧(∀w0:Nat,w0<e0→drB sp pg (t w0)=false)→(h0=true→(0≤g0∧g0<a0)∧((((((True∧l0=l0)∧o0=o0)∧q0=q0)∧r0=r0)∧(True∧sp=sp)∧(True∧pg=pg)∧True)∧True∧True)∧(u0=true→g0=b0∧True)∧(u0=false→w64 v0=v0∧(∃x0:Nat,v0=(x0:Int)∧True∧(x0≤n∧(∀y0:Nat,y0<x0→drB sp pg (t y0)=false))∧n-x0<n-e0)))∧(h0=false→(-1)=b0∧True))
theorem ok_idxD:FnOK Tryd.prog glN 28 c_idxD:=ok_of (.cons ok_drop1 .nil) false Tryd.call28 Tryd.func28 (fun ⟨n,t,sp,pg⟩=> [.inv (anQ n fun i=>drB sp pg (t i))]) (V:=V_idxD) (fun _=>by kernel_rfl) fun ⟨n,t,sp,pg⟩ hp=>by
  dsimp only [V_idxD,tn,w64]
  simp only [std,eq_self,implies_true,Bool.cond_self]
  intro _ s hs
  refine ⟨fun h=>?_,fun h=>?_⟩
  · have hlt:=lt_of_dec h
    refine ⟨by omega,fun h1=>?_,fun h1=>⟨by rw [IntKind.wrap_i64];omega,exS ⟨⟨by omega,fun j hj=>?_⟩,by omega⟩⟩⟩
    · rw [idxB_at (p:=fun i=>drB sp pg (t i)) hs.2 h1 hlt]
    · rcases Nat.lt_or_ge j s with h3|h3
      · exact hs.2 j h3
      · obtain rfl:j=s:=by omega
        exact h1
  · obtain rfl:s=n:=by have:=ge_of_dec h;omega
    rw [idxB_none (p:=fun i=>drB sp pg (t i)) hs.2]
structure X_cloneE where
  (n:Nat) (t:Nat→Ent4)
def s_cloneE:Sy.Spec:=⟨X_cloneE,fun ⟨n,t⟩=> [.sl true 4 n (rF fun i=>enL (t i))],fun _=> [],fun ⟨n,_⟩=>n≤100000,fun ⟨n,_⟩=> .slc 0 0 none 0 n,fun ⟨n,t⟩=> [.row 4 n (rF fun i=>enL (t i))],
  fun args mem=>match args with| [a0]=>some ⟨slN a0,fun i=>enBD (fun j=>slF a0 i j)⟩|_=>none⟩
def c_cloneE:Con:=⟨[],(s_cloneE).g,none⟩
def V_cloneE:X_cloneE→Prop:=fun ⟨n,t⟩=> ∀a0:Bool,(a0=true→n=0)→(a0=true→(0=0∧0=n)∧(0=n∧(∀b0:Nat,b0<n→(((True∧SV.junk=SV.v (Value.int IntKind.i64 (t b0).sp))∧SV.junk=SV.v (Value.int IntKind.i64 (t b0).pg))∧SV.junk=SV.v (Value.int IntKind.i64 (t b0).fr))∧SV.junk=SV.v (Value.bool (t b0).wr)))∧True)∧(a0=false→True∧(n*32≤140737488355328∧(∀c0:Nat,true=true))∧(0=0∧n=n)∧(n=n∧(∀d0:Nat,d0<n→(((True∧(t d0).sp=(t d0).sp)∧(t d0).pg=(t d0).pg)∧(t d0).fr=(t d0).fr)∧(t d0).wr=(t d0).wr))∧True)
theorem ok_cloneE:FnOK Tryd.prog glN 31 c_cloneE:=ok_of .nil false Tryd.call31 Tryd.func31 (fun _=> []) (V:=V_cloneE) (fun _=>by kernel_rfl) fun ⟨n,t⟩ hp=>by
  dsimp only [s_cloneE] at hp
  dsimp only [V_cloneE,tn,w64]
  simp only [std,eq_self,implies_true,Bool.cond_self]
  intro b hb
  refine ⟨fun h=>?_,fun _=>?_⟩
  · have:=hb h
    subst this
    exact ⟨rfl,rfl,fun i hi=>absurd hi (by omega)⟩
  · omega
structure X_find where
  (n:Nat) (t:Nat→Ent4) (sp pg:Int)
def s_find:Sy.Spec:=⟨X_find,fun ⟨n,t,sp,pg⟩=> [.sl true 4 n (rF fun i=>enL (t i)),.v (.int .i64 sp),.v (.int .i64 pg)],fun _=> [],fun _=>True,fun ⟨n,t,sp,pg⟩=> .tp 2 (lsv [.ag 4 (lsv (enL (fdE n t sp pg))),.v (.bool (fdO n t sp pg))]),fun _=> [],
  fun args mem=>match args with| [a0,a1,a2]=>some ⟨slN a0,fun i=>enBD (fun j=>slF a0 i j),intD (a1),intD (a2)⟩|_=>none⟩
def c_find:Con:=⟨[],(s_find).g,none⟩
def V_find:X_find→Prop:=fun ⟨n,t,sp,pg⟩=>let a0:=idxB n (fun b0:Nat=>fdB sp pg (t b0));let c0:=decide (a0<0);let d0:=tn 3 True;let e0:=fdE n t sp pg;let g0:=e0.sp;let h0:=e0.pg;let k0:=e0.fr;let l0:=e0.wr;let o0:=fdO n t sp pg;let q0:=t (Int.toNat a0);tn 3 ((((n=n∧(∀r0:Nat,r0<n→(((True∧(t r0).sp=(t r0).sp)∧(t r0).pg=(t r0).pg)∧(t r0).fr=(t r0).fr)∧(t r0).wr=(t r0).wr))∧(tn 2 (sp=sp)∧True∧pg=pg)∧True)∧True∧True)∧(c0=true→d0∧((True∧(((True∧0=g0)∧0=h0)∧0=k0)∧false=l0)∧false=o0)∧True)∧(c0=false→(0≤a0∧a0<(n:Int))∧d0∧((True∧(((True∧q0.sp=g0)∧q0.pg=h0)∧q0.fr=k0)∧q0.wr=l0)∧true=o0)∧True))
theorem ok_find:FnOK Tryd.prog glN 11 c_find:=ok_of (.cons (ok_idxF.or ok_idxD) .nil) false Tryd.call11 Tryd.func11 (fun _=> []) (V:=V_find) (fun _=>by kernel_rfl) fun ⟨n,t,sp,pg⟩ hp=>by
  dsimp only [V_find,tn,w64]
  simp only [std,eq_self,implies_true,Bool.cond_self]
  have key: ∀b,fdO n t sp pg=b→(b=true∧(idxB n fun i=>fdB sp pg (t i))=(fstB n fun i=>fdB sp pg (t i):Nat)∧(fstB n fun i=>fdB sp pg (t i))<n∧fdE n t sp pg=t (fstB n fun i=>fdB sp pg (t i)))∨(b=false∧(idxB n fun i=>fdB sp pg (t i))= -1∧fdE n t sp pg=zEn):=by
    intro b h
    have h':Nat.blt (fstB n fun i=>fdB sp pg (t i)) n=b:=h
    cases b with
    |true=>left;exact ⟨rfl,by unfold idxB;rw [h'];rfl,Nat.le_of_ble_eq_true h',by unfold fdE;rw [h'];rfl⟩
    |false=>right;exact ⟨rfl,by unfold idxB;rw [h'];rfl,by unfold fdE;rw [h'];rfl⟩
  rcases key _ rfl with ⟨h1,h2,h3,h4⟩|⟨h1,h2,h4⟩
  · rw [h1,h2,h4]
    refine ⟨fun h=>by simp at h;omega,fun _=>⟨by omega,?_,rfl⟩⟩
    rw [Int.toNat_natCast]
    exact ⟨⟨⟨rfl,rfl⟩,rfl⟩,rfl⟩
  · rw [h1,h2,h4]
    exact ⟨fun _=>⟨⟨⟨⟨rfl,rfl⟩,rfl⟩,rfl⟩,rfl⟩,fun h=>by simp at h⟩
structure X_found where
  (n:Nat) (t:Nat→Ent4) (sp pg:Int)
def s_found:Sy.Spec:=⟨X_found,fun ⟨n,t,sp,pg⟩=> [.sl true 4 n (rF fun i=>enL (t i)),.v (.int .i64 sp),.v (.int .i64 pg)],fun _=> [],fun _=>True,fun ⟨n,t,sp,pg⟩=> .tp 2 (lsv [.ag 4 (lsv (enL (fdE n t sp pg))),.v (.bool (fdO n t sp pg))]),fun _=> [],
  fun args mem=>match args with| [a0,a1,a2]=>some ⟨slN a0,fun i=>enBD (fun j=>slF a0 i j),intD (a1),intD (a2)⟩|_=>none⟩
def c_found:Con:=⟨[],(s_found).g,none⟩
def V_found:X_found→Prop:=fun ⟨n,t,sp,pg⟩=>let a0:=SV.ptr 0 0 none 0 0=SV.ptr 0 0 none 0 0;let b0:=(0:Int)=0;let c0:=((((True∧b0)∧b0)∧b0)∧false=false)∧True;let d0:=(n:Int);let e0:=tn 3 True;let g0:=fdE n t sp pg;let h0:=g0.sp;let k0:=g0.pg;let l0:=g0.fr;let o0:=g0.wr;let q0:=fdO n t sp pg;True∧a0∧0=((0:Nat):Int)∧c0∧(0≤n∧(∀r0:Nat,r0<0→fdB sp pg (t r0)=false))∧(∀u0:Nat,let v0:=(u0:Int);let w0:=decide (v0<d0);let x0:=0≤v0∧v0<d0;let y0:=t (Int.toNat v0);let z0:=y0.sp;let a1:=z0==sp;let b1:=y0.pg;let c1:=cond a1 (b1==pg) false;let d1:Int:=v0+1;u0≤n∧(∀e1:Nat,e1<u0→fdB sp pg (t e1)=false)→d0≤9223372036854775807→(w0=true→x0∧(a1=true→x0)∧(c1=true→x0∧e0∧((True∧(((True∧z0=h0)∧b1=k0)∧y0.fr=l0)∧y0.wr=o0)∧true=q0)∧True)∧(c1=false→w64 d1=d1∧(∃g1:Nat,a0∧d1=(g1:Int)∧c0∧(g1≤n∧(∀h1:Nat,h1<g1→fdB sp pg (t h1)=false))∧n-g1<n-u0)))∧(w0=false→e0∧((True∧(((True∧0=h0)∧0=k0)∧0=l0)∧false=o0)∧false=q0)∧True))
theorem ok_found:FnOK Tryd.prog glN 12 c_found:=ok_of .nil false Tryd.call12 Tryd.func12 (fun ⟨n,t,sp,pg⟩=> [.inv (anQF n fun i=>fdB sp pg (t i))]) (V:=V_found) (fun _=>by kernel_rfl) fun ⟨n,t,sp,pg⟩ hp=>by
  dsimp only [V_found,tn,w64]
  simp only [std,stb,eq_self,implies_true,Bool.cond_self]
  intro s hs _
  refine ⟨fun h=>?_,fun h=>?_⟩
  · have hlt:=lt_of_dec h
    have q:(((t s).sp==sp)&&(t s).pg==pg)=fdB sp pg (t s):=rfl
    rw [q]
    refine ⟨by omega,fun _=>by omega,fun h1=>?_,fun h1=>⟨by rw [IntKind.wrap_i64];omega,exS ⟨⟨by omega,fun j hj=>?_⟩,by omega⟩⟩⟩
    · have e:fstB n (fun i=>fdB sp pg (t i))=s:=fstB_at hs.2 h1 hlt
      have e1:fdO n t sp pg=true:=by unfold fdO;rw [e,nblt];simp [hlt]
      have e2:fdE n t sp pg=t s:=by unfold fdE;rw [e,nblt];simp [hlt]
      rw [e1,e2]
      exact ⟨by omega,⟨⟨⟨rfl,rfl⟩,rfl⟩,rfl⟩,rfl⟩
    · rcases Nat.lt_or_ge j s with h3|h3
      · exact hs.2 j h3
      · obtain rfl:j=s:=by omega
        exact h1
  · obtain rfl:s=n:=by have:=ge_of_dec h;omega
    have e:fstB s (fun i=>fdB sp pg (t i))=s:=fstB_none hs.2
    have e1:fdO s t sp pg=false:=by unfold fdO;rw [e,nblt];simp
    have e2:fdE s t sp pg=zEn:=by unfold fdE;rw [e,nblt];simp
    rw [e1,e2]
    exact ⟨⟨⟨⟨rfl,rfl⟩,rfl⟩,rfl⟩,rfl⟩
end Go.Proofs.YtmieeldmfehpoaaDoor
set_option linter.unusedVariables false
set_option linter.unusedSimpArgs false
set_option maxRecDepth 100000
namespace Go.Proofs.YtmieeldmfehpoaaDoor
open Go.RowKit Go.Sy
def kpN (p:Nat→Bool):Nat→Nat
  |0=>0
  |i+1=>bif p i then kpN p i else kpN p i+1
def kpT {α:Type} (z:α) (p:Nat→Bool) (t:Nat→α):Nat→Nat→α
  |0,_=>z
  |i+1,a=>bif !p i&&Nat.beq a (kpN p i) then t i else kpT z p t i a
theorem kpN_le (p:Nat→Bool): ∀i,kpN p i≤i
  |0=>Nat.le_refl _
  |i+1=>by have:=kpN_le p i;simp only [kpN];cases p i<;>simp<;>omega
theorem kpN_pre {p:Nat→Bool}: ∀{i},(∀j,j<i→p j=false)→kpN p i=i
  |0,_=>rfl
  |i+1,h=>by rw [kpN,h i (by omega),kpN_pre fun j hj=>h j (by omega)];rfl
theorem kpT_pre {α:Type} {z:α} {p:Nat→Bool} {t:Nat→α}: ∀{i a},(∀j,j<i→p j=false)→a<i→kpT z p t i a=t a
  |0,a,_,h=>absurd h (by omega)
  |i+1,a,h,ha=>by
   rw [kpT,h i (by omega),kpN_pre fun j hj=>h j (by omega)]
   rcases Nat.lt_or_ge a i with h1|h1
   · have hb:Nat.beq a i=false:=by
       cases hb:Nat.beq a i with
       |false=>rfl
       |true=>have:=Nat.eq_of_beq_eq_true hb;omega
     rw [hb]
     simpa using kpT_pre (fun j hj=>h j (by omega)) h1
   · obtain rfl:a=i:=by omega
     simp
theorem kpN_lt {p:Nat→Bool} {k:Nat} (hk:p k=true): ∀{i},k<i→kpN p i<i
  |0,h=>absurd h (by omega)
  |i+1,h=>by
   simp only [kpN]
   rcases Nat.lt_or_ge k i with h1|h1
   · have:=kpN_lt hk h1;cases p i<;>simp<;>omega
   · obtain rfl:k=i:=by omega
     rw [hk];have:=kpN_le p k;simp;omega
theorem fstB_spec (p:Nat→Bool): ∀n,(∀j,j<fstB n p→p j=false)∧(fstB n p<n→p (fstB n p)=true)
  |0=>⟨fun j h=>absurd h (by simp [fstB]),fun h=>absurd h (by omega)⟩
  |n+1=>by
   obtain ⟨h1,h2⟩:=fstB_spec p n
   have hle:=fstB_le p n
   unfold fstB
   rcases Nat.lt_or_ge (fstB n p) n with h|h
   · rw [nblt,decide_eq_true h];exact ⟨h1,fun _=>h2 h⟩
   · have e:fstB n p=n:=by omega
     rw [nblt,decide_eq_false (by omega)]
     rw [e] at h1
     cases hp:p n with
     |true=>exact ⟨h1,fun _=>hp⟩
     |false=>
      refine ⟨fun j hj=>?_,fun h=>absurd h (by simp)⟩
      have hj:j<n+1:=hj
      rcases Nat.lt_or_ge j n with h3|h3
      · exact h1 j h3
      · obtain rfl:j=n:=by omega
        exact hp
theorem ent4 {x y:Ent4} (h:x=y):((x.sp=y.sp∧x.pg=y.pg)∧x.fr=y.fr)∧x.wr=y.wr:=by subst h;exact ⟨⟨⟨rfl,rfl⟩,rfl⟩,rfl⟩
def an_del (n:Nat) (t:Nat→Ent4) (p:Nat→Bool):Ann where
  σ:=Nat
  rt:= []
  sh j:= [(0,.slc 0 0 none 0 n),(5,.v (.int .i64 (kpN p j))),(6,.v (.int .i64 j))]
  mh j:= [(0,.row 4 n fun a c=>lsv (enL (bif Nat.blt a (kpN p j) then kpT zEn p t j a else t a)) c)]
  inv j:=fstB n p<j∧j≤n
  μ j:=n -j
  init:=fstB n p+1
def an_drd (n:Nat) (t:Nat→Ent4) (p:Nat→Bool):Ann where
  σ:=Nat
  rt:= [(7,4)]
  sh j:= [(7,.slc 0 0 none 0 (kpN p j)),(8,.v (.int .i64 j))]
  mh j:= [(0,.row 4 (kpN p j) (rF fun a=>enL (kpT zEn p t j a)))]
  inv j:=j≤n
  μ j:=n -j
  init:=0
structure X_delE where
  (sp pg:Int) (n:Nat) (t:Nat→Ent4)
def s_delE:Sy.Spec:=⟨X_delE,fun ⟨sp,pg,n,_⟩=> [.slc 0 0 none 0 n,.fn 32 2 (lsv [.pt true 1 (fun _=> .v (.int .i64 sp)),.pt true 1 (fun _=> .v (.int .i64 pg))])],fun ⟨_,_,n,t⟩=> [.row 4 n (rF fun i=>enL (t i))],fun ⟨_,_,n,_⟩=>n≤100000,fun ⟨sp,pg,n,t⟩=> .slc 0 0 none 0 (kpN (fun i=>drB sp pg (t i)) n),fun ⟨sp,pg,n,t⟩=> [.row 4 n (rF fun a=>enL (bif Nat.blt a (kpN (fun i=>drB sp pg (t i)) n) then kpT zEn (fun i=>drB sp pg (t i)) t n a else zEn))],
  fun args mem=>match args with| [a0,a1]=>(match isFn 32 a1 with|true=>some ⟨intD (ptF (fnF a1 0) 0),intD (ptF (fnF a1 1) 0),rowN mem 0,fun i=>enBD (fun j=>rowF mem 0 i j)⟩|false=>none)|_=>none⟩
def c_delE:Con:=⟨[true,false],(s_delE).g,none⟩
def V_delE:X_delE→Prop:=fun ⟨sp,pg,n,t⟩=>let a0:=n=n;let b0:=True∧True;let c0:=idxB n (fun d0:Nat=>drB sp pg (t (0+d0)));let e0:=c0==(-1);let g0:=kpN (fun h0:Nat=>drB sp pg (t h0)) n;let k0:=Ent4.mk 0 0 0 false;let l0:Int:=c0+1;let o0:=0=0∧a0;let q0:=fstB n (fun r0:Nat=>drB sp pg (t r0));let u0:=q0+1;let v0:=kpN (fun w0:Nat=>drB sp pg (t w0)) u0;let x0:=(n:Int);let y0:=false=false;let z0:=Int.toNat x0;(((a0∧(∀a1:Nat,let b1:=t (0+a1);a1<n→(((True∧b1.sp=b1.sp)∧b1.pg=b1.pg)∧b1.fr=b1.fr)∧b1.wr=b1.wr))∧(tn 2 (sp=sp)∧True∧pg=pg)∧True)∧b0)∧(e0=true→(0=0∧n=g0)∧(a0∧(∀c1:Nat,let d1:=cond (Nat.blt c1 g0) (kpT k0 (fun e1:Nat=>drB sp pg (t e1)) t n c1) k0;c1<n→(((True∧(t c1).sp=d1.sp)∧(t c1).pg=d1.pg)∧(t c1).fr=d1.fr)∧(t c1).wr=d1.wr))∧True)∧(e0=false→w64 l0=l0∧o0∧c0=(v0:Int)∧l0=(u0:Int)∧((a0∧(∀g1:Nat,let h1:=cond (Nat.blt g1 v0) (kpT k0 (fun k1:Nat=>drB sp pg (t k1)) t u0 g1) (t g1);g1<n→(((True∧(t g1).sp=h1.sp)∧(t g1).pg=h1.pg)∧(t g1).fr=h1.fr)∧(t g1).wr=h1.wr))∧True)∧(q0<u0∧u0≤n)∧(∀l1:Nat,let o1:=(l1:Int);let q1:=decide (o1<x0);let r1:=0+Int.toNat o1;let u1:=kpN (fun v1:Nat=>drB sp pg (t v1)) l1;let w1:=cond (Nat.blt r1 u1) (kpT k0 (fun x1:Nat=>drB sp pg (t x1)) t l1 r1) (t r1);let y1:=w1.sp;let z1:=w1.pg;let a2:=w1.fr;let b2:=w1.wr;let c2:=!drB sp pg w1;let d2:=(u1:Int);let e2:=0≤d2;let g2:Int:=d2+1;let h2:Int:=o1+1;let k2:=w64 h2=h2;let l2:=Int.toNat d2;let o2:=0+l2;let q2:=d2≤x0;let r2:=o2+(z0-l2);q0<l1∧l1≤n→x0≤9223372036854775807→(q1=true→(0≤o1∧o1<x0)∧True∧tn 2 b0∧((((((True∧y1=y1)∧z1=z1)∧a2=a2)∧b2=b2)∧(True∧sp=sp)∧(True∧
    pg=pg)∧True)∧b0)∧(c2=true→(e2∧d2<x0)∧((∀u2:Nat,y0)∧(∀v2:Nat,y0)∧(∀w2:Nat,y0)∧(∀x2:Nat,y0))∧w64 g2=g2∧k2∧(∃y2:Nat,let z2:=kpN (fun a3:Nat=>drB sp pg (t a3)) y2;o0∧g2=(z2:Int)∧h2=(y2:Int)∧((a0∧(∀b3:Nat,let c3:=Nat.beq b3 o2;let d3:=cond (Nat.blt b3 u1) (kpT k0 (fun e3:Nat=>drB sp pg (t e3)) t l1 b3) (t b3);let g3:=cond (Nat.blt b3 z2) (kpT k0 (fun h3:Nat=>drB sp pg (t h3)) t y2 b3) (t b3);b3<n→(((True∧cond c3 y1 d3.sp=g3.sp)∧cond c3 z1 d3.pg=g3.pg)∧cond c3 a2 d3.fr=g3.fr)∧cond c3 b2 d3.wr=g3.wr))∧True)∧(q0<y2∧y2≤n)∧n-y2<n-l1))∧(c2=false→k2∧(∃k3:Nat,let l3:=kpN (fun o3:Nat=>drB sp pg (t o3)) k3;o0∧d2=(l3:Int)∧h2=(k3:Int)∧((a0∧(∀q3:Nat,let r3:=cond (Nat.blt q3 u1) (kpT k0 (fun u3:Nat=>drB sp pg (t u3)) t l1 q3) (t q3);let v3:=cond (Nat.blt q3 l3) (kpT k0 (fun w3:Nat=>drB sp pg (t w3)) t k3 q3) (t q3);q3<n→(((True∧r3.sp=v3.sp)∧r3.pg=v3.pg)∧r3.fr=v3.fr)∧r3.wr=v3.wr))∧True)∧(q0<k3∧k3≤n)∧n-k3<n-l1)))∧(q1=false→(e2∧q2∧x0≤x0)∧((∀x3:Nat,true=true)∧r2≤n)∧((0:Int)≤0∧e2∧q2)∧(0=0∧l2-Int.toNat 0=g0)∧(a0∧(∀y3:Nat,let z3:=Nat.ble o2 y3&&Nat.blt y3 r2;let a4:=cond (Nat.blt y3 u1) (kpT k0 (fun b4:Nat=>drB sp pg (t b4)) t l1 y3) (t y3);let c4:=cond (Nat.blt y3 g0) (kpT k0 (fun d4:Nat=>drB sp pg (t d4)) t n y3) k0;y3<n→(((True∧cond z3 0 a4.sp=c4.sp)∧cond z3 0 a4.pg=c4.pg)∧cond z3 0 a4.fr=c4.fr)∧cond z3 false a4.wr=c4.wr))∧True)))
set_option maxHeartbeats 1000000 in
theorem ok_delE:FnOK Tryd.prog glN 30 c_delE:=ok_of (.cons (ok_idxF.or ok_idxD) (.cons ok_drop1 .nil)) false Tryd.call30 Tryd.func30 (fun ⟨sp,pg,n,t⟩=> [.inv (an_del n t fun i=>drB sp pg (t i))]) (V:=V_delE) (fun _=>by kernel_rfl) fun ⟨sp,pg,n,t⟩ hp=>by
  dsimp only [s_delE] at hp
  dsimp only [V_delE,tn,w64]
  simp only [std,eq_self,implies_true,Bool.cond_self]
  simp only [show (Ent4.mk 0 0 0 false)=zEn from rfl]
  obtain ⟨P,hP⟩: ∃P:Nat→Bool,P=fun i=>drB sp pg (t i):=⟨_,rfl⟩
  have hPs: ∀i,drB sp pg (t i)=P i:=fun i=>by rw [hP]
  rw [←hP]
  obtain ⟨f1,f2⟩:=fstB_spec P n
  have hle:=fstB_le P n
  have wr: ∀z:Int,-1≤z→z≤200000→IntKind.i64.wrap z=z:=fun z h1 h2=>by rw [IntKind.wrap_i64];omega
  rcases Nat.lt_or_ge (fstB n P) n with hm|hm
  · have hi:idxB n P=(fstB n P:Nat):=by unfold idxB;rw [nblt,decide_eq_true hm];rfl
    have hk:=f2 hm
    have hN:kpN P (fstB n P+1)=fstB n P:=by rw [kpN,hk,kpN_pre f1];rfl
    have hT: ∀a,a<fstB n P→kpT zEn P t (fstB n P+1) a=t a:=fun a ha=>by rw [kpT,hk];simpa using kpT_pre f1 ha
    rw [hi,hN]
    refine ⟨fun h=>by have:=eq_of_beq h;omega,fun _=>⟨wr _ (by omega) (by omega),rfl,by omega,fun i hi=>ent4 ?_,by omega,fun s hs _=>⟨fun h=>?_,fun h=>?_⟩⟩⟩
    · rcases Nat.lt_or_ge i (fstB n P) with h|h
      · rw [nblt,decide_eq_true h,hT i h];rfl
      · rw [nblt,decide_eq_false (by omega)];rfl
    · have hlt:=lt_of_dec h
      have hks:=kpN_lt hk hs.1
      have e1:Nat.blt s (kpN P s)=false:=by rw [nblt];exact decide_eq_false (by omega)
      rw [e1]
      simp only [cond_false,hPs]
      have bq: ∀{a b:Nat},a≠b→Nat.beq a b=false:=fun {a b} h=>by
        cases hb:Nat.beq a b with
        |false=>rfl
        |true=>exact absurd (Nat.eq_of_beq_eq_true hb) h
      refine ⟨by omega,fun hn=>?_,fun hn=>?_⟩
      · have hps:P s=false:=notT hn
        have hn1:kpN P (s+1)=kpN P s+1:=by rw [kpN,hps];rfl
        refine ⟨by omega,wr _ (by omega) (by omega),wr _ (by omega) (by omega),s+1,by rw [hn1];rfl,rfl,fun i hi=>?_,by omega,by omega⟩
        rw [hn1]
        rcases Nat.lt_trichotomy i (kpN P s) with h3|h3|h3
        · have e:kpT zEn P t (s+1) i=kpT zEn P t s i:=by rw [kpT,bq (by omega:i≠kpN P s)];simp
          rw [bq (by omega:i≠kpN P s),blt_t h3,blt_t (by omega:i<kpN P s+1),e]
          exact ⟨⟨⟨rfl,rfl⟩,rfl⟩,rfl⟩
        · subst h3
          have e:kpT zEn P t (s+1) (kpN P s)=t s:=by rw [kpT,hps,Nat.beq_refl];rfl
          rw [Nat.beq_refl,blt_t (by omega:kpN P s<kpN P s+1),e]
          exact ⟨⟨⟨rfl,rfl⟩,rfl⟩,rfl⟩
        · rw [bq (by omega:i≠kpN P s),blt_f (by omega:kpN P s≤i),blt_f (by omega:kpN P s+1≤i)]
          exact ⟨⟨⟨rfl,rfl⟩,rfl⟩,rfl⟩
      · have hps:P s=true:=notF hn
        have hn1:kpN P (s+1)=kpN P s:=by rw [kpN,hps];rfl
        refine ⟨wr _ (by omega) (by omega),s+1,by rw [hn1],rfl,fun i hi=>?_,by omega,by omega⟩
        have e:kpT zEn P t (s+1) i=kpT zEn P t s i:=by rw [kpT,hps];rfl
        rw [hn1,e]
        exact ⟨⟨⟨rfl,rfl⟩,rfl⟩,rfl⟩
    · obtain rfl:s=n:=by have:=ge_of_dec h;omega
      have hks:=kpN_lt hk hs.1
      refine ⟨by omega,by omega,by omega,rfl,fun i hi=>?_⟩
      rcases Nat.lt_or_ge i (kpN P s) with h3|h3
      · rw [ble_f h3,blt_t h3]
        exact ⟨⟨⟨rfl,rfl⟩,rfl⟩,rfl⟩
      · rw [ble_t h3,blt_f h3,blt_t (by omega:i<kpN P s+(s -kpN P s))]
        exact ⟨⟨⟨rfl,rfl⟩,rfl⟩,rfl⟩
  · have hN:kpN P n=n:=kpN_pre fun j hj=>f1 j (by omega)
    have hi:idxB n P= -1:=by unfold idxB;rw [nblt,decide_eq_false (by omega)];rfl
    rw [hi,hN]
    refine ⟨fun _=>⟨rfl,fun i hi=>ent4 ?_⟩,fun h=>by simp at h⟩
    rw [nblt,decide_eq_true hi,kpT_pre (fun j hj=>f1 j (by omega)) hi];rfl
structure X_drop where
  (n:Nat) (t:Nat→Ent4) (sp pg:Int)
def s_drop:Sy.Spec:=⟨X_drop,fun ⟨n,t,sp,pg⟩=> [.sl true 4 n (rF fun i=>enL (t i)),.v (.int .i64 sp),.v (.int .i64 pg)],fun _=> [],fun ⟨n,_,_,_⟩=>n≤100000,fun ⟨n,t,sp,pg⟩=> .slc 0 0 none 0 (kpN (fun i=>drB sp pg (t i)) n),fun ⟨n,t,sp,pg⟩=> [.row 4 n (rF fun a=>enL (bif Nat.blt a (kpN (fun i=>drB sp pg (t i)) n) then kpT zEn (fun i=>drB sp pg (t i)) t n a else zEn))],
  fun args mem=>match args with| [a0,a1,a2]=>some ⟨slN a0,fun i=>enBD (fun j=>slF a0 i j),intD (a1),intD (a2)⟩|_=>none⟩
def c_drop:Con:=⟨[],(s_drop).g,none⟩
def V_drop:X_drop→Prop:=fun ⟨n,t,sp,pg⟩=>let a0:=(n=n∧(∀b0:Nat,b0<n→(((True∧(t b0).sp=(t b0).sp)∧(t b0).pg=(t b0).pg)∧(t b0).fr=(t b0).fr)∧(t b0).wr=(t b0).wr))∧True;let c0:=kpN (fun d0:Nat=>drB sp pg (t d0)) n;let e0:=Ent4.mk 0 0 0 false;tn 2 ((a0∧True∧s_cloneE.match_1 (fun g0:X_cloneE=>Prop) (X_cloneE.mk n t) (fun h0:Nat=>fun k0:∀l0:Nat,Ent4=>h0≤100000))∧(((0=0∧n=n)∧(tn 2 (sp=sp)∧True∧pg=pg)∧True)∧a0∧s_delE.match_1 (fun o0:X_delE=>Prop) (X_delE.mk sp pg n t) (fun q0:Int=>fun r0:Int=>fun u0:Nat=>fun v0:∀w0:Nat,Ent4=>u0≤100000))∧(0=0∧c0=c0)∧(n=n∧(∀x0:Nat,let y0:=cond (Nat.blt x0 c0) (kpT e0 (fun z0:Nat=>drB sp pg (t z0)) t n x0) e0;let a1:=y0.sp;let b1:=y0.pg;let c1:=y0.fr;let d1:=y0.wr;x0<n→(((True∧a1=a1)∧b1=b1)∧c1=c1)∧d1=d1))∧True)
theorem ok_drop:FnOK Tryd.prog glN 14 c_drop:=ok_of (.cons ok_delE (.cons ok_cloneE .nil)) false Tryd.call14 Tryd.func14 (fun _=> []) (V:=V_drop) (fun _=>by kernel_rfl) fun ⟨n,t,sp,pg⟩ hp=>by
  dsimp only [s_drop] at hp
  dsimp only [V_drop,tn,w64]
  simp only [std,eq_self,implies_true,Bool.cond_self]
  exact hp
structure X_dropped where
  (n:Nat) (t:Nat→Ent4) (sp pg:Int)
def s_dropped:Sy.Spec:=⟨X_dropped,fun ⟨n,t,sp,pg⟩=> [.sl true 4 n (rF fun i=>enL (t i)),.v (.int .i64 sp),.v (.int .i64 pg)],fun _=> [],fun ⟨n,_,_,_⟩=>n≤100000,fun ⟨n,t,sp,pg⟩=> .slc 0 0 none 0 (kpN (fun i=>drB sp pg (t i)) n),fun ⟨n,t,sp,pg⟩=> [.row 4 (kpN (fun i=>drB sp pg (t i)) n) (rF fun a=>enL (kpT zEn (fun i=>drB sp pg (t i)) t n a))],
  fun args mem=>match args with| [a0,a1,a2]=>some ⟨slN a0,fun i=>enBD (fun j=>slF a0 i j),intD (a1),intD (a2)⟩|_=>none⟩
def c_dropped:Con:=⟨[],(s_dropped).g,none⟩
def V_dropped:X_dropped→Prop:=fun ⟨n,t,sp,pg⟩=>let a0:=kpN (fun b0:Nat=>drB sp pg (t b0)) 0;let c0:=0=a0;let d0:=SV.junk=SV.v (Value.int IntKind.i64 0);let e0:=(n:Int);let g0:=decide (0≤pg);let h0:=Ent4.mk 0 0 0 false;let k0:=kpN (fun l0:Nat=>drB sp pg (t l0)) n;(0=0∧c0)∧0=((0:Nat):Int)∧((c0∧(∀o0:Nat,o0<a0→(((True∧d0)∧d0)∧d0)∧SV.junk=SV.v (Value.bool false)))∧True)∧0≤n∧(∀q0:Nat,let r0:=(q0:Int);let u0:=decide (r0<e0);let v0:=0≤r0∧r0<e0;let w0:=t (Int.toNat r0);let x0:=w0.sp;let y0:=x0 !=sp;let z0:=w0.pg;let a1:=cond y0 true (cond g0 (z0 !=pg) false);let b1:=kpN (fun c1:Nat=>drB sp pg (t c1)) q0;let d1:=b1+1;let e1:Int:=r0+1;let g1:=w64 e1=e1;let h1:=b1=k0;q0≤n→e0≤9223372036854775807→(u0=true→v0∧(g0=true→y0=false→v0)∧(a1=true→v0∧True∧(d1*32≤140737488355328∧(∀k1:Nat,true=true))∧g1∧(∃l1:Nat,let o1:=kpN (fun q1:Nat=>drB sp pg (t q1)) l1;let r1:=d1=o1;(0=0∧r1)∧e1=(l1:Int)∧((r1∧(∀u1:Nat,let v1:=Nat.blt u1 b1;let w1:=kpT h0 (fun x1:Nat=>drB sp pg (t x1)) t q0 (0+u1);let y1:=kpT h0 (fun z1:Nat=>drB sp pg (t z1)) t l1 u1;u1<o1→(((True∧cond v1 w1.sp x0=y1.sp)∧cond v1 w1.pg z0=y1.pg)∧cond v1 w1.fr w0.fr=y1.fr)∧cond v1 w1.wr w0.wr=y1.wr))∧True)∧l1≤n∧n-l1<n-q0))∧(a1=false→g1∧(∃a2:Nat,let b2:=kpN (fun c2:Nat=>drB sp pg (t c2)) a2;let d2:=b1=b2;(0=0∧d2)∧e1=(a2:Int)∧((d2∧(∀e2:Nat,let g2:=kpT h0 (fun h2:Nat=>drB sp pg (t h2)) t q0 e2;let k2:=kpT h0 (fun l2:Nat=>drB sp pg (t l2)) t a2 e2;e2<b2→(((True∧g2.sp=k2.sp)∧g2.pg=k2.pg)∧g2.fr=k2.fr)∧g2.wr=k2.wr))∧True)∧a2≤n∧n-a2<n-q0)))∧(u0=false→(0=0∧h1)∧(h1∧(∀o2:Nat,
    let q2:=kpT h0 (fun r2:Nat=>drB sp pg (t r2)) t q0 o2;let u2:=kpT h0 (fun v2:Nat=>drB sp pg (t v2)) t n o2;o2<k0→(((True∧q2.sp=u2.sp)∧q2.pg=u2.pg)∧q2.fr=u2.fr)∧q2.wr=u2.wr))∧True))
set_option maxHeartbeats 1000000 in
theorem ok_dropped:FnOK Tryd.prog glN 15 c_dropped:=ok_of .nil false Tryd.call15 Tryd.func15 (fun ⟨n,t,sp,pg⟩=> [.inv (an_drd n t fun i=>drB sp pg (t i))]) (V:=V_dropped) (fun _=>by kernel_rfl) fun ⟨n,t,sp,pg⟩ hp=>by
  dsimp only [s_dropped] at hp
  dsimp only [V_dropped,tn,w64]
  simp only [std,eq_self,implies_true,Bool.cond_self]
  simp only [show (Ent4.mk 0 0 0 false)=zEn from rfl]
  obtain ⟨P,hP⟩: ∃P:Nat→Bool,P=fun i=>drB sp pg (t i):=⟨_,rfl⟩
  have hc: ∀s,(bif (t s).sp !=sp then true else bif decide (0≤pg) then (t s).pg !=pg else false)=!P s:=fun s=>by
    rw [hP]
    show _=!drB sp pg (t s)
    unfold drB bne
    rw [show decide (0≤pg)=!decide (pg<0) by by_cases h:pg<0<;>simp [h]<;>omega]
    cases (t s).sp==sp<;>cases decide (pg<0)<;>cases (t s).pg==pg<;>rfl
  rw [←hP]
  have wr: ∀z:Int,-1≤z→z≤200000→IntKind.i64.wrap z=z:=fun z h1 h2=>by rw [IntKind.wrap_i64];omega
  have bq: ∀{a b:Nat},a≠b→Nat.beq a b=false:=fun {a b} h=>by
    cases hb:Nat.beq a b with
    |false=>rfl
    |true=>exact absurd (Nat.eq_of_beq_eq_true hb) h
  refine ⟨rfl,⟨rfl,fun i hi=>absurd hi (by simp [kpN])⟩,fun s hs _=>⟨fun h=>?_,fun h=>?_⟩⟩
  · have hlt:=lt_of_dec h
    have hks:=kpN_le P s
    rw [hc]
    refine ⟨by omega,fun _ _=>by omega,fun hn=>?_,fun hn=>?_⟩
    · have hps:P s=false:=notT hn
      have hn1:kpN P (s+1)=kpN P s+1:=by rw [kpN,hps];rfl
      refine ⟨by omega,by omega,wr _ (by omega) (by omega),s+1,hn1.symm,rfl,⟨hn1.symm,fun i hi=>?_⟩,by omega,by omega⟩
      rw [hn1] at hi
      rcases Nat.lt_or_ge i (kpN P s) with h3|h3
      · have e:kpT zEn P t (s+1) i=kpT zEn P t s i:=by rw [kpT,bq (by omega:i≠kpN P s)];simp
        rw [blt_t h3,e]
        exact ⟨⟨⟨rfl,rfl⟩,rfl⟩,rfl⟩
      · obtain rfl:i=kpN P s:=by omega
        have e:kpT zEn P t (s+1) (kpN P s)=t s:=by rw [kpT,hps,Nat.beq_refl];rfl
        rw [blt_f (Nat.le_refl _),e]
        exact ⟨⟨⟨rfl,rfl⟩,rfl⟩,rfl⟩
    · have hps:P s=true:=notF hn
      have hn1:kpN P (s+1)=kpN P s:=by rw [kpN,hps];rfl
      refine ⟨wr _ (by omega) (by omega),s+1,hn1.symm,rfl,⟨hn1.symm,fun i hi=>?_⟩,by omega,by omega⟩
      have e:kpT zEn P t (s+1) i=kpT zEn P t s i:=by rw [kpT,hps];rfl
      rw [e]
      exact ⟨⟨⟨rfl,rfl⟩,rfl⟩,rfl⟩
  · obtain rfl:s=n:=by have:=ge_of_dec h;omega
    repeat' (first|rfl|refine And.intro ?_ ?_|intro _)
end Go.Proofs.YtmieeldmfehpoaaDoor
set_option linter.unusedVariables false
set_option linter.unusedSimpArgs false
set_option maxRecDepth 100000
namespace Go.Proofs.YtmieeldmfehpoaaDoor
open Go.RowKit Go.Sy
def flN (n:Nat) (t:Nat→Ent4) (e:Ent4):Nat:=kpN (fun i=>drB e.sp e.pg (t i)) n+1
def flT (n:Nat) (t:Nat→Ent4) (e:Ent4) (a:Nat):Ent4:=bif Nat.blt a (kpN (fun i=>drB e.sp e.pg (t i)) n) then kpT zEn (fun i=>drB e.sp e.pg (t i)) t n a else e
theorem ent4x {c:Bool} {x y z:Ent4} (h:(bif c then x else y)=z):(((bif c then x.sp else y.sp)=z.sp∧(bif c then x.pg else y.pg)=z.pg)∧(bif c then x.fr else y.fr)=z.fr)∧(bif c then x.wr else y.wr)=z.wr:=by subst h;cases c<;>exact ⟨⟨⟨rfl,rfl⟩,rfl⟩,rfl⟩
theorem ent4x' {c:Bool} {x y z:Ent4} (h:(bif c then x else y)=z):(((bif c then x.sp else y.sp)=z.sp∧(bif c then x.pg else y.pg)=z.pg)∧(bif c then x.fr else y.fr)=z.fr)∧(bif c then x.wr else y.wr)=z.wr:=ent4x h
def lkEn (n:Nat) (ram:Nat→Int) (sp at_:Int):Ent4:=⟨sp,at_/16,wkF n ram sp at_,wkW n ram sp at_⟩
def lkO (m:Nat) (t:Nat→Ent4) (sp at_:Int):Bool:=fdO m t sp (at_/16)
def lkX (n:Nat) (ram:Nat→Int) (m:Nat) (t:Nat→Ent4) (sp at_:Int):Ent4:=bif lkO m t sp at_ then fdE m t sp (at_/16) else lkEn n ram sp at_
def lkE (n:Nat) (ram:Nat→Int) (m:Nat) (t:Nat→Ent4) (sp at_:Int) (w:Bool):Int:=
  bif wkE n ram sp at_==2 then 2 else bif !lkO m t sp at_&&wkE n ram sp at_ !=0 then wkE n ram sp at_ else bif w&&!(lkX n ram m t sp at_).wr then 4 else 0
def lkA (n:Nat) (ram:Nat→Int) (m:Nat) (t:Nat→Ent4) (sp at_:Int) (w:Bool):Int:=
  bif lkE n ram m t sp at_ w==0 then IntKind.i64.wrap (IntKind.i64.wrap ((lkX n ram m t sp at_).fr*16)+at_%16) else 0
def lkN (n:Nat) (ram:Nat→Int) (m:Nat) (t:Nat→Ent4) (sp at_:Int) (w:Bool):Nat:=
  bif lkE n ram m t sp at_ w==0 then bif lkO m t sp at_ then m else flN m t (lkEn n ram sp at_) -(flN m t (lkEn n ram sp at_) -4) else 0
def lkT (n:Nat) (ram:Nat→Int) (m:Nat) (t:Nat→Ent4) (sp at_:Int) (i:Nat):Ent4:=
  bif lkO m t sp at_ then t i else flT m t (lkEn n ram sp at_) (flN m t (lkEn n ram sp at_) -4+i)
theorem wkE_two {n:Nat} {ram:Nat→Int} {sp at_:Int}:(wkE n ram sp at_=2↔wkBad n sp at_=true):=by
  unfold wkE
  cases wkBad n sp at_
  · cases decide (wkT n ram sp at_<0)||decide (wkP n ram sp at_<0)<;>simp
  · simp
theorem wkBad_at {n:Nat} {sp at_:Int} (h:wkBad n sp at_=false):0≤at_∧at_≤4095:=by
  simp [wkBad,farB] at h;omega
theorem lk_cases (n:Nat) (ram:Nat→Int) (m:Nat) (t:Nat→Ent4) (sp at_:Int) (w:Bool):
    (wkBad n sp at_=true∧wkE n ram sp at_=2∧lkE n ram m t sp at_ w=2∧lkA n ram m t sp at_ w=0∧lkN n ram m t sp at_ w=0)∨
    (wkBad n sp at_=false∧wkE n ram sp at_≠2∧IntKind.i64.wrap (at_.tdiv 16)=at_/16∧at_.tmod 16=at_%16∧
      ((fdO m t sp (at_/16)=true∧(((bif w then !(fdE m t sp (at_/16)).wr else false)=true∧lkE n ram m t sp at_ w=4∧lkA n ram m t sp at_ w=0∧lkN n ram m t sp at_ w=0)∨((bif w then !(fdE m t sp (at_/16)).wr else false)=false∧lkE n ram m t sp at_ w=0∧lkA n ram m t sp at_ w=IntKind.i64.wrap (IntKind.i64.wrap ((fdE m t sp (at_/16)).fr*16)+at_%16)∧lkN n ram m t sp at_ w=m∧ ∀i,lkT n ram m t sp at_ i=t i)))∨
      (fdO m t sp (at_/16)=false∧((wkE n ram sp at_≠0∧lkE n ram m t sp at_ w=wkE n ram sp at_∧lkA n ram m t sp at_ w=0∧lkN n ram m t sp at_ w=0)∨(wkE n ram sp at_=0∧(((bif w then !wkW n ram sp at_ else false)=true∧lkE n ram m t sp at_ w=4∧lkA n ram m t sp at_ w=0∧lkN n ram m t sp at_ w=0)∨((bif w then !wkW n ram sp at_ else false)=false∧lkE n ram m t sp at_ w=0∧lkA n ram m t sp at_ w=IntKind.i64.wrap (IntKind.i64.wrap (wkF n ram sp at_*16)+at_%16)∧lkN n ram m t sp at_ w=flN m t ⟨sp,at_/16,wkF n ram sp at_,wkW n ram sp at_⟩ -(flN m t ⟨sp,at_/16,wkF n ram sp at_,wkW n ram sp at_⟩ -4)∧ ∀i,lkT n ram m t sp at_ i=flT m t ⟨sp,at_/16,wkF n ram sp at_,wkW n ram sp at_⟩ (flN m t ⟨sp,at_/16,wkF n ram sp at_,wkW n ram sp at_⟩ -4+i)))))))):=by
  cases hb:wkBad n sp at_ with
  |true=>
   have e:wkE n ram sp at_=2:=wkE_two.2 hb
   have e1:lkE n ram m t sp at_ w=2:=by unfold lkE;rw [e];rfl
   left
   exact ⟨rfl,e,e1,by unfold lkA;rw [e1];rfl,by unfold lkN;rw [e1];rfl⟩
  |false=>
   right
   have e:wkE n ram sp at_≠2:=fun h=>by rw [wkE_two.1 h] at hb;cases hb
   have hq:=wkBad_at hb
   have hbe:(wkE n ram sp at_==2)=false:=beq_eq_false_iff_ne.2 e
   refine ⟨rfl,e,by rw [Int.tdiv_eq_ediv_of_nonneg hq.1,IntKind.wrap_i64];omega,Int.tmod_eq_emod_of_nonneg hq.1,?_⟩
   cases ho:fdO m t sp (at_/16) with
   |true=>
    left
    have hx:lkX n ram m t sp at_=fdE m t sp (at_/16):=by unfold lkX lkO;rw [ho];rfl
    refine ⟨rfl,?_⟩
    cases hw:(bif w then !(fdE m t sp (at_/16)).wr else false) with
    |true=>
     have e1:lkE n ram m t sp at_ w=4:=by unfold lkE;rw [hbe,hx];unfold lkO;rw [ho];cases w<;>simp_all
     left
     exact ⟨rfl,e1,by unfold lkA;rw [e1];rfl,by unfold lkN;rw [e1];rfl⟩
    |false=>
     have e1:lkE n ram m t sp at_ w=0:=by unfold lkE;rw [hbe,hx];unfold lkO;rw [ho];cases w<;>simp_all
     right
     exact ⟨rfl,e1,by unfold lkA;rw [e1,hx];rfl,by unfold lkN lkO;rw [e1,ho];rfl,fun i=>by unfold lkT lkO;rw [ho];rfl⟩
   |false=>
    right
    have hx:lkX n ram m t sp at_=lkEn n ram sp at_:=by unfold lkX lkO;rw [ho];rfl
    refine ⟨rfl,?_⟩
    rcases Decidable.em (wkE n ram sp at_=0) with hz|hz
    · right
      refine ⟨hz,?_⟩
      cases hw:(bif w then !wkW n ram sp at_ else false) with
      |true=>
       have e1:lkE n ram m t sp at_ w=4:=by unfold lkE;rw [hx,hz];unfold lkO;rw [ho];cases w<;>simp_all [lkEn]
       left
       exact ⟨rfl,e1,by unfold lkA;rw [e1];rfl,by unfold lkN;rw [e1];rfl⟩
      |false=>
       have e1:lkE n ram m t sp at_ w=0:=by unfold lkE;rw [hx,hz];unfold lkO;rw [ho];cases w<;>simp_all [lkEn]
       right
       exact ⟨rfl,e1,by unfold lkA;rw [e1,hx];rfl,by unfold lkN lkO;rw [e1,ho];rfl,fun i=>by unfold lkT lkO;rw [ho];rfl⟩
    · left
      have e1:lkE n ram m t sp at_ w=wkE n ram sp at_:=by unfold lkE lkO;rw [hbe,ho,bne,beq_eq_false_iff_ne.2 hz];rfl
      have e2:(wkE n ram sp at_==0)=false:=beq_eq_false_iff_ne.2 hz
      exact ⟨hz,e1,by unfold lkA;rw [e1,e2];rfl,by unfold lkN;rw [e1,e2];rfl⟩
def an_fill (n:Nat) (t:Nat→Ent4) (e:Ent4):Ann where
  σ:=Nat
  rt:= [(5,4)]
  sh j:= [(5,.slc 0 0 none j (flN n t e -j))]
  mh _:= [(0,.row 4 (flN n t e) (rF fun a=>enL (flT n t e a)))]
  inv j:=j≤flN n t e -4
  μ j:=flN n t e -j
  init:=0
structure X_fill where
  (n:Nat) (t:Nat→Ent4) (e:Ent4)
def s_fill:Sy.Spec:=⟨X_fill,fun ⟨n,t,e⟩=> [.sl true 4 n (rF fun i=>enL (t i)),.ag 4 (lsv (enL e))],fun _=> [],fun ⟨n,_,_⟩=>n≤100000,fun ⟨n,t,e⟩=> .slc 0 0 none (flN n t e -4) (flN n t e -(flN n t e -4)),fun ⟨n,t,e⟩=> [.row 4 (flN n t e) (rF fun a=>enL (flT n t e a))],
  fun args mem=>match args with| [a0,a1]=>some ⟨slN a0,fun i=>enBD (fun j=>slF a0 i j),enBD (agD a1)⟩|_=>none⟩
def c_fill:Con:=⟨[],(s_fill).g,none⟩
def V_fill:X_fill→Prop:=fun ⟨n,t,e⟩=>let a0:=e.sp;let b0:=e.pg;let c0:=kpN (fun d0:Nat=>drB a0 b0 (t d0)) n;let e0:=c0+1;let g0:=(e0:Int);let h0:Int:=g0-4;let k0:=max 0 h0;let l0:=Int.toNat k0;let o0:=flN n t e;let q0:=o0-4;let r0:=Ent4.mk 0 0 0 false;True∧(((n=n∧(∀u0:Nat,u0<n→(((True∧(t u0).sp=(t u0).sp)∧(t u0).pg=(t u0).pg)∧(t u0).fr=(t u0).fr)∧(t u0).wr=(t u0).wr))∧a0=a0∧b0=b0∧True)∧True∧s_drop.match_1 (fun v0:X_drop=>Prop) (X_drop.mk n t a0 b0) (fun w0:Nat=>fun x0:∀y0:Nat,Ent4=>fun z0:Int=>fun a1:Int=>w0≤100000))∧True∧(e0*32≤140737488355328∧(∀b1:Nat,true=true))∧(g0≤9223372036854775807→w64 h0=h0∧(0≤k0∧k0≤g0∧g0≤g0)∧(0+l0=q0∧Int.toNat g0-l0=o0-q0)∧(e0=o0∧(∀c1:Nat,let d1:=Nat.blt c1 c0;let e1:=cond (Nat.blt (0+c1) c0) (kpT r0 (fun g1:Nat=>drB a0 b0 (t g1)) t n (0+c1)) r0;let h1:=flT n t e c1;c1<o0→(((True∧cond d1 e1.sp a0=h1.sp)∧cond d1 e1.pg b0=h1.pg)∧cond d1 e1.fr e.fr=h1.fr)∧cond d1 e1.wr e.wr=h1.wr))∧True)
set_option maxHeartbeats 1000000 in
theorem ok_fill:FnOK Tryd.prog glN 16 c_fill:=ok_of (.cons ok_drop .nil) false Tryd.call16 Tryd.func16 (fun _=> []) (V:=V_fill) (fun _=>by kernel_rfl) fun ⟨n,t,e⟩ hp=>by
  dsimp only [s_fill] at hp
  dsimp only [V_fill,tn,w64]
  simp only [std,eq_self,implies_true,Bool.cond_self]
  simp only [show (Ent4.mk 0 0 0 false)=zEn from rfl]
  have hN:flN n t e=kpN (fun i=>drB e.sp e.pg (t i)) n+1:=rfl
  have hle:=kpN_le (fun i=>drB e.sp e.pg (t i)) n
  have hT: ∀i,(bif i.blt (kpN (fun i=>drB e.sp e.pg (t i)) n) then (bif i.blt (kpN (fun i=>drB e.sp e.pg (t i)) n) then kpT zEn (fun i=>drB e.sp e.pg (t i)) t n i else zEn) else e)=flT n t e i:=fun i=>by
    unfold flT;cases i.blt (kpN (fun i=>drB e.sp e.pg (t i)) n)<;>rfl
  refine ⟨hp,by omega,fun _=>⟨by rw [IntKind.wrap_i64];omega,⟨by omega,by omega,by omega⟩,⟨by omega,by omega⟩,rfl,fun i _=>ent4x (hT i)⟩⟩
structure X_filled where
  (n:Nat) (t:Nat→Ent4) (e:Ent4)
def s_filled:Sy.Spec:=⟨X_filled,fun ⟨n,t,e⟩=> [.sl true 4 n (rF fun i=>enL (t i)),.ag 4 (lsv (enL e))],fun _=> [],fun ⟨n,_,_⟩=>n≤100000,fun ⟨n,t,e⟩=> .slc 0 0 none (flN n t e -4) (flN n t e -(flN n t e -4)),fun ⟨n,t,e⟩=> [.row 4 (flN n t e) (rF fun a=>enL (flT n t e a))],
  fun args mem=>match args with| [a0,a1]=>some ⟨slN a0,fun i=>enBD (fun j=>slF a0 i j),enBD (agD a1)⟩|_=>none⟩
def c_filled:Con:=⟨[],(s_filled).g,none⟩
def V_filled:X_filled→Prop:=fun ⟨n,t,e⟩=>let a0:=n=n∧(∀b0:Nat,b0<n→(((True∧(t b0).sp=(t b0).sp)∧(t b0).pg=(t b0).pg)∧(t b0).fr=(t b0).fr)∧(t b0).wr=(t b0).wr);let c0:=e.sp;let d0:=e.pg;let e0:=kpN (fun g0:Nat=>drB c0 d0 (t g0)) n;let h0:=e0+1;let k0:=decide (d0<0);let l0:=kpN (fun o0:Nat=>drB c0 (-1) (t o0)) n;let q0:=l0+1;let r0:=flN n t e;let u0:=r0-0;let v0:=Ent4.mk 0 0 0 false;let w0:=r0-4;let x0:=(r0=r0∧(∀y0:Nat,let z0:=flT n t e y0;let a1:=z0.sp;let b1:=z0.pg;let c1:=z0.fr;let d1:=z0.wr;y0<r0→(((True∧a1=a1)∧b1=b1)∧c1=c1)∧d1=d1))∧True;let e1:=0≤w0∧(∀g1:Nat,let h1:=((r0-g1:Nat):Int);let k1:=decide (4<h1);g1≤w0→h1≤9223372036854775807→(k1=true→((0:Int)≤1∧1≤h1∧h1≤h1)∧(∃l1:Nat,(g1+Int.toNat 1=l1∧Int.toNat h1-Int.toNat 1=r0-l1)∧x0∧l1≤w0∧r0-l1<r0-g1))∧(k1=false→(g1=w0∧r0-g1=r0-w0)∧x0));tn 6 (((a0∧c0=c0∧d0=d0∧True)∧True∧s_dropped.match_1 (fun o1:X_dropped=>Prop) (X_dropped.mk n t c0 d0) (fun q1:Nat=>fun r1:∀u1:Nat,Ent4=>fun v1:Int=>fun w1:Int=>q1≤100000))∧tn 2 ((h0*32≤140737488355328∧(∀x1:Nat,true=true))∧(k0=true→tn 3 (((a0∧c0=c0∧((-1):Int)=(-1)∧True)∧True∧s_dropped.match_1 (fun y1:X_dropped=>Prop) (X_dropped.mk n t c0 (-1)) (fun z1:Nat=>fun a2:∀b2:Nat,Ent4=>fun c2:Int=>fun d2:Int=>z1≤100000))∧tn 2 ((q0*32≤140737488355328∧(∀e2:Nat,true=true))∧(0=0∧q0=u0)∧((q0=r0∧(∀g2:Nat,let h2:=Nat.blt g2 l0;let k2:=kpT v0 (fun l2:Nat=>drB c0 (-1) (t l2)) t n (0+g2);let o2:=flT n t e g2;g2<r0→(((True∧cond h2 k2.sp c0=o2.sp)∧cond h2 k2.pg d0=o2.pg)∧cond h2 k2.fr e.fr=o2.fr)∧cond h2 k2.wr e.wr=o2.wr))∧True)∧e1)))∧(k0=false→(0=0∧h0=u0)∧
    ((h0=r0∧(∀q2:Nat,let r2:=Nat.blt q2 e0;let u2:=kpT v0 (fun v2:Nat=>drB c0 d0 (t v2)) t n (0+q2);let w2:=flT n t e q2;q2<r0→(((True∧cond r2 u2.sp c0=w2.sp)∧cond r2 u2.pg d0=w2.pg)∧cond r2 u2.fr e.fr=w2.fr)∧cond r2 u2.wr e.wr=w2.wr))∧True)∧e1)))
set_option maxHeartbeats 1000000 in
theorem ok_filled:FnOK Tryd.prog glN 17 c_filled:=ok_of (.cons ok_dropped .nil) false Tryd.call17 Tryd.func17 (fun ⟨n,t,e⟩=> [.inv (an_fill n t e)]) (V:=V_filled) (fun _=>by kernel_rfl) fun ⟨n,t,e⟩ hp=>by
  dsimp only [s_filled] at hp
  dsimp only [V_filled,tn,w64]
  simp only [std,eq_self,implies_true,Bool.cond_self]
  simp only [show (Ent4.mk 0 0 0 false)=zEn from rfl]
  have hN:flN n t e=kpN (fun i=>drB e.sp e.pg (t i)) n+1:=rfl
  have hle:=kpN_le (fun i=>drB e.sp e.pg (t i)) n
  have hT: ∀i,(bif i.blt (kpN (fun i=>drB e.sp e.pg (t i)) n) then kpT zEn (fun i=>drB e.sp e.pg (t i)) t n i else e)=flT n t e i:=fun i=>rfl
  have hL: ∀s:Nat,s≤flN n t e -4→(flN n t e -s:Nat)≤(9223372036854775807:Int)→(decide (4<((flN n t e -s:Nat):Int))=true→(0≤(1:Int)∧1≤((flN n t e -s:Nat):Int)∧((flN n t e -s:Nat):Int)≤((flN n t e -s:Nat):Int))∧ ∃s',(s+Int.toNat 1=s'∧flN n t e -s -Int.toNat 1=flN n t e -s')∧s'≤flN n t e -4∧flN n t e -s'<flN n t e -s)∧(decide (4<((flN n t e -s:Nat):Int))=false→s=flN n t e -4∧flN n t e -s=flN n t e -(flN n t e -4)):=fun s hs _=>by
    refine ⟨fun h=>?_,fun h=>?_⟩
    · have:=of_decide_eq_true h
      exact ⟨by omega,s+1,⟨rfl,by omega⟩,by omega,by omega⟩
    · have:=of_decide_eq_false h
      omega
  refine ⟨hp,by omega,fun h=>?_,fun h=>?_⟩
  · have hq:(fun i=>drB e.sp (-1) (t i))=fun i=>drB e.sp e.pg (t i):=funext fun i=>by unfold drB;rw [h];rfl
    rw [hq]
    exact ⟨hp,by omega,rfl,⟨rfl,fun i _=>ent4x' (hT i)⟩,hL⟩
  · exact ⟨rfl,⟨rfl,fun i _=>ent4x' (hT i)⟩,hL⟩
structure X_look where
  (n:Nat) (ram:Nat→Int) (m:Nat) (t:Nat→Ent4) (sp at_:Int) (w:Bool)
def s_look:Sy.Spec:=⟨X_look,fun ⟨n,ram,m,t,sp,at_,w⟩=> [.sl true 1 n (fun i_ _=> .v (.int .i64 (ram i_))),.sl true 4 m (rF fun i=>enL (t i)),.v (.int .i64 sp),.v (.int .i64 at_),.v (.bool w)],fun _=> [],fun ⟨n,ram,m,_,_,_,_⟩=>m≤100000∧ ∀i,i<n→isW (ram i),fun ⟨n,ram,m,t,sp,at_,w⟩=> .tp 3 (lsv [.v (.int .i64 (lkA n ram m t sp at_ w)),.slc 0 0 none 0 (lkN n ram m t sp at_ w),.er 28 62 (lkE n ram m t sp at_ w) (-1)]),fun ⟨n,ram,m,t,sp,at_,w⟩=> [.row 4 (lkN n ram m t sp at_ w) (rF fun i=>enL (lkT n ram m t sp at_ i))],
  fun args mem=>match args with| [a0,a1,a2,a3,a4]=>some ⟨slN a0,fun i=>intD (slF a0 i 0),slN a1,fun i=>enBD (fun j=>slF a1 i j),intD (a2),intD (a3),boolD (a4)⟩|_=>none⟩
def c_look:Con:=⟨[],(s_look).g,none⟩
def V_look:X_look→Prop:=fun ⟨n,ram,m,t,sp,at_,w⟩=>let a0:=n=n∧(∀b0:Nat,b0<n→True∧ram b0=ram b0);let c0:=True∧True;let d0:=cond (cond (cond (cond (decide (frOf n<0)) true (decide (sp<0))) true (decide (frOf n≤sp))) true (decide (at_<0))) true (decide (4096≤at_));let e0:=lkA n ram m t sp at_ w;let g0:=lkN n ram m t sp at_ w;let h0:=0=g0;let k0:=(True∧0=e0)∧0=0∧h0;let l0:=lkE n ram m t sp at_ w;let o0:=((-1):Int)=(-1);let q0:=(h0∧(∀r0:Nat,let u0:=lkT n ram m t sp at_ r0;r0<g0→(((True∧SV.junk=SV.v (Value.int IntKind.i64 u0.sp))∧SV.junk=SV.v (Value.int IntKind.i64 u0.pg))∧SV.junk=SV.v (Value.int IntKind.i64 u0.fr))∧SV.junk=SV.v (Value.bool u0.wr)))∧True;let v0:=(16:Int)≠0;let w0:=m=m∧(∀x0:Nat,x0<m→(((True∧(t x0).sp=(t x0).sp)∧(t x0).pg=(t x0).pg)∧(t x0).fr=(t x0).fr)∧(t x0).wr=(t x0).wr);let y0:=w64 (Int.tdiv at_ 16);let z0:=y0=y0;let a1:=tn 2 c0;let b1:=!fdO m t sp y0;let c1:=wkE n ram sp at_;let d1:=c1 !=0;let e1:=wkF n ram sp at_;let g1:=wkW n ram sp at_;let h1:=Ent4.mk sp y0 e1 g1;let k1:=cond w (!g1) false;let l1:=(k0∧(4:Int)≠0∧l0=4∧o0)∧q0;let o1:=flN m t h1;let q1:=o1-4;let r1:=o1-q1;let u1:=r1=g0;let v1:=l0=0∧o0;let w1:=fdE m t sp y0;let x1:=cond w (!w1.wr) false;let y1:=m=g0;((a0∧True)∧c0)∧(d0=true→(k0∧(2:Int)≠0∧l0=2∧o0)∧q0)∧(d0=false→v0∧((w0∧sp=sp∧z0∧True)∧c0)∧True∧a1∧(b1=true→((a0∧sp=sp∧at_=at_∧True)∧True∧(∀z1:Nat,z1<n→0≤ram z1∧ram z1≤65535))∧(d1=true→(k0∧c1=l0∧o0)∧q0)∧(d1=false→v0∧a1∧((w0∧((((True∧sp=sp)∧z0)∧e1=e1)∧g1=g1)∧True)∧True∧s_fill.match_1 (fun a2:X_fill=>Prop) (X_fill.mk m t h1) (fun b2:Nat=>fun c2:∀d2:Nat,
    Ent4=>fun e2:Ent4=>b2≤100000))∧(k1=true→l1)∧(k1=false→tn 4 (v0∧tn 2 ((((r1=r1∧(∀g2:Nat,let h2:=flT m t h1 (q1+g2);let k2:=h2.sp;let l2:=h2.pg;let o2:=h2.fr;let q2:=h2.wr;g2<r1→(((True∧k2=k2)∧l2=l2)∧o2=o2)∧q2=q2))∧True)∧True∧s_cloneE.match_1 (fun r2:X_cloneE=>Prop) (X_cloneE.mk r1 (fun u2:Nat=>flT m t h1 (q1+u2))) (fun v2:Nat=>fun w2:∀x2:Nat,Ent4=>v2≤100000))∧(((True∧w64 (w64 (e1*16)+Int.tmod at_ 16)=e0)∧0=0∧u1)∧v1)∧(u1∧(∀y2:Nat,let z2:=flT m t h1 (q1+y2);let a3:=lkT n ram m t sp at_ y2;y2<g0→(((True∧z2.sp=a3.sp)∧z2.pg=a3.pg)∧z2.fr=a3.fr)∧z2.wr=a3.wr))∧True)))))∧(b1=false→(x1=true→l1)∧(x1=false→tn 4 (v0∧tn 2 (((w0∧True)∧True∧s_cloneE.match_1 (fun b3:X_cloneE=>Prop) (X_cloneE.mk m t) (fun c3:Nat=>fun d3:∀e3:Nat,Ent4=>c3≤100000))∧(((True∧w64 (w64 (w1.fr*16)+Int.tmod at_ 16)=e0)∧0=0∧y1)∧v1)∧(y1∧(∀g3:Nat,let h3:=lkT n ram m t sp at_ g3;g3<g0→(((True∧(t g3).sp=h3.sp)∧(t g3).pg=h3.pg)∧(t g3).fr=h3.fr)∧(t g3).wr=h3.wr))∧True)))))
set_option maxHeartbeats 1000000 in
theorem ok_look:FnOK Tryd.prog glN 19 c_look:=ok_of (.cons ok_walk (.cons ok_find (.cons ok_fill (.cons ok_frames (.cons ok_cloneE .nil))))) True Tryd.call19 Tryd.func19 (fun _=> []) (V:=V_look) (fun _=>by kernel_rfl) fun ⟨n,ram,m,t,sp,at_,w⟩ hp=>by
  dsimp only [s_look] at hp
  dsimp only [V_look,tn,w64]
  simp only [std,eq_self,implies_true,Bool.cond_self]
  have hbb:(bif bif bif bif decide (frOf n<0) then true else decide (sp<0) then true else decide (frOf n≤sp) then true else decide (at_<0) then true else decide (4096≤at_))=wkBad n sp at_:=by
    unfold wkBad farB
    rw [show decide (4096≤at_)=decide (4095<at_) from decide_eq_decide.2 (by omega)]
    cases decide (frOf n<0)<;>cases decide (sp<0)<;>cases decide (frOf n≤sp)<;>cases decide (at_<0)<;>rfl
  rw [hbb]
  rcases lk_cases n ram m t sp at_ w with ⟨hb,e,e1,e2,e3⟩|⟨hb,e,a1,a2,hh⟩
  · rw [e1,e2,e3,hb]
    exact ⟨fun _=>⟨⟨⟨rfl,rfl⟩,by decide,rfl⟩,rfl,fun i hi=>absurd hi (by omega)⟩,fun h=>by simp at h⟩
  rw [a1,a2,hb]
  refine ⟨fun h=>by simp at h,fun _=>⟨by decide,fun h=>?_,fun h=>?_⟩⟩
  · rcases hh with ⟨h',_⟩|⟨_,hh⟩
    · rw [h'] at h;cases h
    refine ⟨hp.2,?_⟩
    rcases hh with ⟨h1,e1,e2,e3⟩|⟨h1,hh⟩
    · rw [e1,e2,e3]
      exact ⟨fun _=>⟨⟨⟨rfl,rfl⟩,rfl⟩,rfl,fun i hi=>absurd hi (by omega)⟩,fun h=>by simp [h1] at h⟩
    · refine ⟨fun h=>by simp [h1] at h,fun _=>⟨by decide,hp.1,?_⟩⟩
      rcases hh with ⟨h1,e1,e2,e3⟩|⟨h1,e1,e2,e3,e4⟩
      · rw [h1,e1,e2,e3]
        exact ⟨fun _=>⟨⟨⟨rfl,rfl⟩,by decide,rfl⟩,rfl,fun i hi=>absurd hi (by omega)⟩,fun h=>by simp at h⟩
      · rw [h1,e1,e2,e3]
        exact ⟨fun h=>by simp at h,fun _=>⟨by decide,by omega,⟨⟨rfl,rfl⟩,rfl⟩,rfl,fun i _=>by rw [e4 i];exact ⟨⟨⟨rfl,rfl⟩,rfl⟩,rfl⟩⟩⟩
  · rcases hh with ⟨_,hh⟩|⟨h',_⟩
    · rcases hh with ⟨h1,e1,e2,e3⟩|⟨h1,e1,e2,e3,e4⟩
      · rw [h1,e1,e2,e3]
        exact ⟨fun _=>⟨⟨⟨rfl,rfl⟩,by decide,rfl⟩,rfl,fun i hi=>absurd hi (by omega)⟩,fun h=>by simp at h⟩
      · rw [h1,e1,e2,e3]
        exact ⟨fun h=>by simp at h,fun _=>⟨by decide,hp.1,⟨⟨rfl,rfl⟩,rfl⟩,rfl,fun i _=>by rw [e4 i];exact ⟨⟨⟨rfl,rfl⟩,rfl⟩,rfl⟩⟩⟩
    · rw [h'] at h;cases h
end Go.Proofs.YtmieeldmfehpoaaDoor
set_option linter.unusedVariables false
set_option linter.unusedSimpArgs false
set_option maxRecDepth 100000
namespace Go.Proofs.YtmieeldmfehpoaaDoor
open Go.RowKit Go.Sy
structure X_is where
  (e a x y:Int)
def s_is:Sy.Spec:=⟨X_is,fun ⟨e,a,x,y⟩=> [.er 28 62 e a,.ag 2 (lsv [.v (.int .i64 x),.v (.int .i64 y)])],fun _=> [],fun _=>True,fun ⟨e,a,x,y⟩=> .v (.bool (e==x&&a==y)),fun _=> [],
  fun args mem=>match args with| [a0,a1]=>some ⟨erE a0,erA a0,intD (agD a1 0),intD (agD a1 1)⟩|_=>none⟩
def c_is:Con:=⟨[],(s_is).g,none⟩
def V_is:X_is→Prop:=fun ⟨e,a,x,y⟩=>True∧(((e=e∧a=a)∧True)∧True∧True)∧cond (e==x) (a==y) false=(e==x&&a==y)∧True
theorem ok_is:FnOK Tryd.prog glE 9 c_is:=ok_of (.cons ok_tell .nil) false Tryd.call9 Tryd.func9 (fun _=> []) (V:=V_is) (fun _=>by kernel_rfl) fun ⟨e,a,x,y⟩ hp=>by
  dsimp only [V_is,tn,w64]
  exact ⟨trivial,by simp,by cases e==x<;>rfl,trivial⟩
end Go.Proofs.YtmieeldmfehpoaaDoor
set_option linter.unusedVariables false
set_option linter.unusedSimpArgs false
set_option maxRecDepth 100000
namespace Go.Proofs.YtmieeldmfehpoaaDoor
open Go.RowKit Go.Sy
def rEq (a b:Run):Prop:=((((((((((((((((((((True∧a.r0=b.r0)∧a.r1=b.r1)∧a.r2=b.r2)∧a.r3=b.r3)∧a.r4=b.r4)∧a.r5=b.r5)∧a.r6=b.r6)∧a.r7=b.r7)∧a.pc=b.pc)∧a.st=b.st)∧a.prio=b.prio)∧a.node=b.node)∧a.space=b.space)∧a.helper=b.helper)∧a.loc=b.loc)∧a.word=b.word)∧a.badge=b.badge)∧a.owes=b.owes)∧a.core=b.core)∧a.dom=b.dom)
def sEq (a b:Slt):Prop:=(((((((True∧a.kind=b.kind)∧a.base=b.base)∧a.len=b.len)∧a.mark=b.mark)∧a.rights=b.rights)∧a.badge=b.badge)∧a.from_=b.from_)
def eEq (a b:Ent4):Prop:=((((True∧a.sp=b.sp)∧a.pg=b.pg)∧a.fr=b.fr)∧a.wr=b.wr)
def wEq (Y X:Wd) (T:Prop):Prop:=(((((((((((True∧0=0∧Y.nRam=X.nRam)∧0=0∧Y.nKinds=X.nKinds)∧0=0∧Y.nSlots=X.nSlots)∧0=0∧Y.nTasks=X.nTasks)∧0=0∧Y.nLines=X.nLines)∧0=0∧Y.nBits=X.nBits)∧0=0∧Y.nCores=X.nCores)∧0=0∧Y.nReady=X.nReady)∧0=0∧Y.nTlbs=X.nTlbs)∧0=0∧Y.nDoms=X.nDoms)∧Y.time=X.time)∧(Y.nRam=X.nRam∧ ∀i:Nat,i<X.nRam→True∧Y.ram i=X.ram i)∧(Y.nKinds=X.nKinds∧ ∀i:Nat,i<X.nKinds→True∧Y.kinds i=X.kinds i)∧(Y.nSlots=X.nSlots∧ ∀i:Nat,i<X.nSlots→sEq (Y.slots i) (X.slots i))∧(Y.nTasks=X.nTasks∧ ∀i:Nat,i<X.nTasks→rEq (Y.tasks i) (X.tasks i))∧(Y.nLines=X.nLines∧ ∀i:Nat,i<X.nLines→True∧Y.linesN i=X.linesN i∧ ∀k:Nat,k<X.linesN i→True∧Y.lines i k=X.lines i k)∧(Y.nBits=X.nBits∧ ∀i:Nat,i<X.nBits→True∧Y.bits i=X.bits i)∧(Y.nCores=X.nCores∧ ∀i:Nat,i<X.nCores→True∧Y.cores i=X.cores i)∧(Y.nReady=X.nReady∧ ∀i:Nat,i<X.nReady→True∧Y.readyN i=X.readyN i∧ ∀k:Nat,k<X.readyN i→True∧Y.ready i k=X.ready i k)∧(Y.nTlbs=X.nTlbs∧ ∀i:Nat,i<X.nTlbs→True∧Y.tlbsN i=X.tlbsN i∧ ∀k:Nat,k<X.tlbsN i→eEq (Y.tlbs i k) (X.tlbs i k))∧(Y.nDoms=X.nDoms∧ ∀i:Nat,i<X.nDoms→True∧Y.doms i=X.doms i)∧T
end Go.Proofs.YtmieeldmfehpoaaDoor
set_option linter.unusedVariables false
set_option linter.unusedSimpArgs false
set_option maxRecDepth 100000
namespace Go.Proofs.YtmieeldmfehpoaaDoor
open Go.RowKit Go.Sy
theorem sameEnR (n:Nat) (f:Nat→Ent4):sameEn n f n f=true:=by simp [sameEn,allB_iff,enEq]
theorem sameEnB (n:Nat) (f:Nat→Ent4) (z:Ent4):sameEn n (fun i=>bif Nat.blt i n then f i else z) n f=true:=by
  simp only [sameEn,beq_self_eq_true,Bool.true_and,allB_iff]
  intro i hi
  rw [blt_t hi]
  simp [enEq]
structure Su where
  u:Unit
def cutA (n:Nat) (ram:Nat→Int):Cut where
  σ:=Su
  rt:= []
  sh _:= [(0,.sl false 1 n (iF fun i=>pickF (ram i) 65536))]
  mem _:= []
  inv _:=n≤600
  dec _ _:=⟨()⟩
def cutB:Cut where
  σ:=Su
  rt:= []
  sh _:= []
  mem _:= []
  inv _:=True
  dec _ _:=⟨()⟩
structure X_wordsR where
  (n:Nat) (l:Nat→Int)
def s_wordsR:Sy.Spec:=⟨X_wordsR,fun ⟨n,l⟩=> [.sl true 1 n (fun i_ _=> .v (.int .i64 (l i_)))],fun _=> [],fun ⟨n,l⟩=>n≤1000∧ ∀i,i<n→I64 (l i),fun ⟨n,l⟩=> .sl false 1 n (iF fun i=>pickF (l i) 65536),fun _=> [],
  fun args mem=>match args with| [a0]=>some ⟨slN a0,fun i=>intD (slF a0 i 0)⟩|_=>none⟩
def c_wordsR:Con:=⟨[],(s_wordsR).g,none⟩
def V_wordsR:X_wordsR→Prop:=fun ⟨n,l⟩=>let a0:=(n:Int);(0=0∧0=0)∧0=((0:Nat):Int)∧((0=0∧(∀b0:Nat,b0<0→True∧SV.junk=SV.v (Value.int IntKind.i64 (pickF (l b0) 65536))))∧True)∧0≤n∧(∀c0:Nat,let d0:=(c0:Int);let e0:=decide (d0<a0);let g0:Int:=l (Int.toNat d0);let h0:Int:=d0+1;c0≤n→a0≤9223372036854775807→(e0=true→(0≤d0∧d0<a0)∧((g0=g0∧(65536:Int)=65536∧True)∧True∧((-9223372036854775808)≤g0∧g0≤9223372036854775807)∧(0:Int)<65536)∧True∧((c0+1)*8≤140737488355328∧(∀k0:Nat,true=true))∧w64 h0=h0∧(∃l0:Nat,(0=0∧c0+1=l0)∧h0=(l0:Int)∧((c0+1=l0∧(∀o0:Nat,o0<l0→True∧cond (Nat.blt o0 c0) (pickF (l (0+o0)) 65536) (List.getD [pickF g0 65536] (0+(o0-c0)) 0)=pickF (l o0) 65536))∧True)∧l0≤n∧n-l0<n-c0))∧(e0=false→(c0=n∧(∀q0:Nat,q0<n→True∧pickF (l (0+q0)) 65536=pickF (l q0) 65536))∧True))
theorem ok_wordsR:FnOK Tryd.prog glE 6 c_wordsR:=ok_of (.cons (ok_pick.up glN_glE) .nil) false Tryd.call6 Tryd.func6 (fun ⟨n,l⟩=> [.inv (an_words n l)]) (V:=V_wordsR) (fun _=>by kernel_rfl) fun ⟨n,l⟩ hp=>by
  dsimp only [s_wordsR] at hp
  dsimp only [V_wordsR,tn,w64,wEq,rEq,sEq,eEq]
  simp only [std,eq_self,implies_true,Bool.cond_self]
  obtain ⟨h1,h2⟩:=hp
  refine fun s hs hn=>⟨fun h=>?_,fun h=>?_⟩
  · have hlt:s<n:=by simpa using h
    have hi:=h2 s hlt
    refine ⟨by omega,⟨hi,by decide⟩,by omega,by rw [IntKind.wrap_i64];omega,s+1,rfl,by omega,⟨rfl,fun i hi=>?_⟩,by omega,by omega⟩
    rcases Nat.lt_or_ge i s with h3|h3
    · rw [blt_t h3];rfl
    · obtain rfl:i=s:=by omega
      rw [blt_f (Nat.le_refl _)];simp
  · have hge: ¬s<n:=by simpa using h
    omega
structure X_lookedF where
  (n:Nat) (ram:Nat→Int) (m:Nat) (t:Nat→Ent4) (sp at_:Int) (w:Bool)
def s_lookedF:Sy.Spec:=⟨X_lookedF,fun ⟨n,ram,m,t,sp,at_,w⟩=> [.sl true 1 n (fun i_ _=> .v (.int .i64 (ram i_))),.sl false 4 m (rF fun i=>enL (t i)),.v (.int .i64 sp),.v (.int .i64 at_),.v (.bool w)],fun _=> [],fun ⟨n,ram,m,_,_,_,_⟩=>m≤100000∧ ∀i,i<n→isW (ram i),fun ⟨n,ram,m,t,sp,at_,w⟩=> .tp 3 (lsv [.v (.int .i64 (lkA n ram m t sp at_ w)),.sl false 4 (lkN n ram m t sp at_ w) (rF fun i=>enL (lkT n ram m t sp at_ i)),.v (.int .i64 (lkE n ram m t sp at_ w))]),fun _=> [],
  fun args mem=>match args with| [a0,a1,a2,a3,a4]=>some ⟨slN a0,fun i=>intD (slF a0 i 0),slN a1,fun i=>enBD (fun j=>slF a1 i j),intD (a2),intD (a3),boolD (a4)⟩|_=>none⟩
def c_lookedF:Con:=⟨[],(s_lookedF).g,none⟩
def V_lookedF:X_lookedF→Prop:=fun ⟨n,ram,m,t,sp,at_,w⟩=>let a0:=wkE n ram sp at_;let b0:=a0==2;let c0:=lkA n ram m t sp at_ w;let d0:=lkN n ram m t sp at_ w;let e0:=(True∧0=c0)∧d0=0;let g0:=lkE n ram m t sp at_ w;let h0:=(e0∧a0=g0)∧True;let k0:=(16:Int)≠0;let l0:=m=m∧(∀o0:Nat,o0<m→eEq (t o0) (t o0));let q0:=w64 (Int.tdiv at_ 16);let r0:=fdO m t sp q0;let u0:=fdE m t sp q0;let v0:=cond w (!u0.wr) false;let w0:=(e0∧4=g0)∧True;let x0:=0=g0;let y0:=a0 !=0;let z0:=wkF n ram sp at_;let a1:=wkW n ram sp at_;let b1:=Ent4.mk sp q0 z0 a1;let c1:=cond w (!a1) false;let d1:=flN m t b1;let e1:=d1-4;(((n=n∧(∀g1:Nat,g1<n→True∧ram g1=ram g1))∧sp=sp∧at_=at_∧True)∧True∧(∀h1:Nat,h1<n→0≤ram h1∧ram h1≤65535))∧(b0=true→h0)∧(b0=false→k0∧((l0∧sp=sp∧q0=q0∧True)∧True∧True)∧True∧tn 3 True∧(r0=true→(v0=true→w0)∧(v0=false→k0∧(((True∧w64 (w64 (u0.fr*16)+Int.tmod at_ 16)=c0)∧m=d0∧(∀k1:Nat,k1<d0→eEq (t k1) (lkT n ram m t sp at_ k1)))∧x0)∧True))∧(r0=false→(y0=true→h0)∧(y0=false→k0∧((l0∧eEq b1 b1∧True)∧True∧s_filled.match_1 (fun l1:X_filled=>Prop) (X_filled.mk m t b1) (fun o1:Nat=>fun q1:∀r1:Nat,Ent4=>fun u1:Ent4=>o1≤100000))∧(c1=true→w0)∧(c1=false→k0∧(((True∧w64 (w64 (z0*16)+Int.tmod at_ 16)=c0)∧d1-e1=d0∧(∀v1:Nat,v1<d0→eEq (flT m t b1 (e1+v1)) (lkT n ram m t sp at_ v1)))∧x0)∧True))))
set_option maxHeartbeats 1000000 in
theorem ok_lookedF:FnOK Tryd.prog glE 18 c_lookedF:=ok_of (.cons (ok_walked.up glN_glE) (.cons (ok_found.up glN_glE) (.cons (ok_filled.up glN_glE) .nil))) True Tryd.call18 Tryd.func18 (fun _=> []) (V:=V_lookedF) (fun _=>by kernel_rfl) fun ⟨n,ram,m,t,sp,at_,w⟩ hp=>by
  dsimp only [s_lookedF] at hp
  dsimp only [V_lookedF,tn,w64,wEq,rEq,sEq,eEq]
  simp only [std,eq_self,implies_true,Bool.cond_self]
  rcases lk_cases n ram m t sp at_ w with ⟨_,e,e1,e2,e3⟩|⟨_,e,a1,a2,hh⟩
  · rw [e1,e2,e3,e]
    exact ⟨hp.2,fun _=>⟨⟨rfl,rfl⟩,rfl⟩,fun h=>by simp at h⟩
  rw [a1,a2]
  refine ⟨hp.2,fun h=>absurd (eq_of_beq h) e,fun _=>⟨by decide,fun h=>?_,fun h=>?_⟩⟩
  · rcases hh with ⟨_,hh⟩|⟨h',_⟩
    · rcases hh with ⟨h1,e1,e2,e3⟩|⟨h1,e1,e2,e3,e4⟩
      · rw [h1,e1,e2,e3]
        exact ⟨fun _=>⟨⟨rfl,rfl⟩,rfl⟩,fun h=>by simp at h⟩
      · rw [h1,e1,e2,e3]
        exact ⟨fun h=>by simp at h,fun _=>⟨by decide,⟨rfl,rfl,fun i _=>by rw [e4 i];exact ⟨⟨⟨rfl,rfl⟩,rfl⟩,rfl⟩⟩,rfl⟩⟩
    · rw [h] at h';cases h'
  · rcases hh with ⟨h',_⟩|⟨_,hh⟩
    · rw [h] at h';cases h'
    · rcases hh with ⟨h1,e1,e2,e3⟩|⟨h1,hh⟩
      · rw [e1,e2,e3]
        exact ⟨fun _=>⟨⟨rfl,rfl⟩,rfl⟩,fun h=>by simp [h1] at h⟩
      · refine ⟨fun h=>by simp [h1] at h,fun _=>⟨by decide,hp.1,?_⟩⟩
        rcases hh with ⟨h1,e1,e2,e3⟩|⟨h1,e1,e2,e3,e4⟩
        · rw [h1,e1,e2,e3]
          exact ⟨fun _=>⟨⟨rfl,rfl⟩,rfl⟩,fun h=>by simp at h⟩
        · rw [h1,e1,e2,e3]
          exact ⟨fun h=>by simp at h,fun _=>⟨by decide,⟨rfl,rfl,fun i _=>by rw [e4 i];exact ⟨⟨⟨rfl,rfl⟩,rfl⟩,rfl⟩⟩,rfl⟩⟩
structure X_mmuSays where
  (n:Nat) (ram:Nat→Int) (m:Nat) (t:Nat→Ent4) (sp at_:Int) (w:Bool) (e:Ent4)
def s_mmuSays:Sy.Spec:=⟨X_mmuSays,fun ⟨n,ram,m,t,sp,at_,w,e⟩=> [.sl true 1 n (fun i_ _=> .v (.int .i64 (ram i_))),.sl false 4 m (rF fun i=>enL (t i)),.v (.int .i64 sp),.v (.int .i64 at_),.v (.bool w),.ag 4 (lsv (enL e))],fun _=> [],fun ⟨n,ram,_,_,_,_,_,_⟩=> ∀i,i<n→I64 (ram i),fun _=> .v (.bool true),fun _=> [],
  fun args mem=>match args with| [a0,a1,a2,a3,a4,a5]=>some ⟨slN a0,fun i=>intD (slF a0 i 0),slN a1,fun i=>enBD (fun j=>slF a1 i j),intD (a2),intD (a3),boolD (a4),enBD (agD a5)⟩|_=>none⟩
def c_mmuSays:Con:=⟨[],(s_mmuSays).g,none⟩
def V_mmuSays:X_mmuSays→Prop:=fun ⟨n,ram,m,t,sp,at_,w,e⟩=>let a0:=n=n∧(∀b0:Nat,b0<n→True∧ram b0=ram b0);let c0:=m=m∧(∀d0:Nat,d0<m→eEq (t d0) (t d0));let e0:=True∧True;let g0:=decide (600<n)||decide (50<m);let h0:=n=n∧(∀k0:Nat,let l0:=pickF (ram k0) 65536;k0<n→True∧l0=l0);let o0:=sp=sp;let q0:=o0∧at_=at_∧True;let r0:=(h0∧q0)∧True∧(∀u0:Nat,let v0:=pickF (ram u0) 65536;u0<n→0≤v0∧v0≤65535);let w0:=wkE n (fun x0:Nat=>pickF (ram x0) 65536) sp at_;let y0:=w0=w0;let z0:=((-1):Int)=(-1);let a1:=((-1):Int)==(-1);let b1:=wkF n (fun c1:Nat=>pickF (ram c1) 65536) sp at_;let d1:=wkW n (fun e1:Nat=>pickF (ram e1) 65536) sp at_;let g1:=cond (cond (!(w0==w0&&a1)) true (b1 !=b1)) true (d1 !=d1);let h1:=false=true∧True;let k1:=c0∧q0;let l1:=k1∧e0;let o1:=tn 2 e0;let q1:=fdE m t sp at_;let r1:=q1.sp;let u1:=q1.pg;let v1:=q1.fr;let w1:=q1.wr;let x1:=fdO m t sp at_;let y1:=cond (!(r1==r1&&(u1==u1&&(v1==v1&&(w1==w1&&true))))) true (x1 !=x1);let z1:=y1=false;let a2:=kpN (fun b2:Nat=>drB sp at_ (t b2)) m;let c2:=a2=a2;let d2:=Ent4.mk 0 0 0 false;let e2:=cond y1 true (!sameEn a2 (fun g2:Nat=>cond (Nat.blt (0+g2) a2) (kpT d2 (fun h2:Nat=>drB sp at_ (t h2)) t m (0+g2)) d2) a2 (fun k2:Nat=>kpT d2 (fun l2:Nat=>drB sp at_ (t l2)) t m (0+k2)));let o2:=e2=false;let q2:=c0∧eEq e e∧True;let r2:=flN m t e-4;let u2:=flN m t e-r2;let v2:=u2=u2∧(∀w2:Nat,let x2:=flT m t e (r2+w2);w2<u2→eEq x2 x2);let y2:=cond e2 true (!sameEn u2 (fun z2:Nat=>flT m t e (r2+z2)) u2 (fun a3:Nat=>flT m t e (r2+a3)));
    let b3:=(h0∧c0∧o0∧at_=at_∧w=w∧True)∧True∧m≤100000∧(∀c3:Nat,let d3:=pickF (ram c3) 65536;c3<n→0≤d3∧d3≤65535);let e3:=lkE n (fun g3:Nat=>pickF (ram g3) 65536) m t sp at_ w;let h3:=e3=e3;let k3:=lkA n (fun l3:Nat=>pickF (ram l3) 65536) m t sp at_ w;let o3:=cond (!(e3==e3&&a1)) true (k3 !=k3);let q3:=lkN n (fun r3:Nat=>pickF (ram r3) 65536) m t sp at_ w;let u3:=q3=q3;let v3:=cond o3 true (!sameEn q3 (fun w3:Nat=>lkT n (fun x3:Nat=>pickF (ram x3) 65536) m t sp at_ (0+w3)) q3 (lkT n (fun y3:Nat=>pickF (ram y3) 65536) m t sp at_));let z3:=farB sp 23;let a4:Int:=cond z3 2 0;let b4:=a4=a4∧z0;let c4:Int:=32768+sp;let d4:Int:=c4+16384;let e4:Int:=cond z3 0 (cond w d4 c4);let g4:=((0:Int)=0∧True)∧e0;let h4:=(b4∧((True∧(0:Int)=0)∧z0)∧True)∧e0;let k4:=a4==0&&a1;True∧((a0∧c0∧True)∧e0)∧(g0=true→true=true∧True)∧(g0=false→((a0∧True)∧True∧n≤1000∧(∀l4:Nat,l4<n→(-9223372036854775808)≤ram l4∧ram l4≤9223372036854775807))∧r0∧r0∧((y0∧True)∧e0)∧(((y0∧z0)∧((True∧y0)∧z0)∧True)∧e0)∧(g1=true→h1)∧(g1=false→l1∧True∧o1∧l1∧True∧o1∧tn 12 ((z1→k1∧True∧s_drop.match_1 (fun o4:X_drop=>Prop) (X_drop.mk m t sp at_) (fun q4:Nat=>fun r4:∀u4:Nat,Ent4=>fun v4:Int=>fun w4:Int=>q4≤100000))∧tn 3 ((z1→k1∧True∧s_dropped.match_1 (fun x4:X_dropped=>Prop) (X_dropped.mk m t sp at_) (fun y4:Nat=>fun z4:∀a5:Nat,Ent4=>fun b5:Int=>fun c5:Int=>y4≤100000))∧(z1→((c2∧(∀d5:Nat,let e5:=cond (Nat.blt (0+d5) a2) (kpT d2 (fun g5:Nat=>drB sp at_ (t g5)) t m (0+d5)) d2;d5<a2→eEq e5 e5))∧(c2∧(∀h5:Nat,
    let k5:=kpT d2 (fun l5:Nat=>drB sp at_ (t l5)) t m (0+h5);h5<a2→eEq k5 k5))∧True)∧e0)∧tn 5 ((o2→q2∧True∧s_fill.match_1 (fun o5:X_fill=>Prop) (X_fill.mk m t e) (fun q5:Nat=>fun r5:∀u5:Nat,Ent4=>fun v5:Ent4=>q5≤100000))∧tn 2 ((o2→q2∧True∧s_filled.match_1 (fun w5:X_filled=>Prop) (X_filled.mk m t e) (fun x5:Nat=>fun y5:∀z5:Nat,Ent4=>fun a6:Ent4=>x5≤100000))∧(o2→(v2∧v2∧True)∧e0)∧(y2=true→h1)∧(y2=false→h0∧True∧n≤600)))))∧(∀b6:Su,n≤600→b3∧b3∧(((h3∧True)∧e0)∧(((h3∧z0)∧((True∧h3)∧z0)∧True)∧e0)∧(o3=false→((u3∧(∀c6:Nat,let d6:=lkT n (fun e6:Nat=>pickF (ram e6) 65536) m t sp at_ (0+c6);c6<q3→eEq d6 d6))∧(u3∧(∀g6:Nat,let h6:=lkT n (fun k6:Nat=>pickF (ram k6) 65536) m t sp at_ g6;g6<q3→eEq h6 h6))∧True)∧e0)∧(v3=true→h1)∧(v3=false→e0))∧(∀l6:Su,True→((o0∧w=w∧True)∧e0)∧((o0∧(23:Int)=23∧True)∧e0)∧(z3=true→(((2:Int)=2∧True)∧e0)∧((b4∧((True∧(2:Int)=2)∧z0)∧True)∧e0)∧cond (a4==2&&a1) (e4==0) false=true∧True)∧(z3=false→w64 c4=c4∧(w=true→w64 d4=d4∧g4∧h4∧cond k4 (e4==d4) false=true∧True)∧(w=false→g4∧h4∧cond k4 (e4==c4) false=true∧True))))))
set_option maxHeartbeats 1000000 in
theorem ok_mmuSays:FnOK Tryd.prog glE 3 c_mmuSays:=ok_of (.cons (ok_hugeRam.up glN_glE) (.cons (ok_walked.up glN_glE) (.cons (ok_walk.up glN_glE) (.cons ok_is (.cons (ok_err.up glN_glE) (.cons (ok_find.up glN_glE) (.cons (ok_found.up glN_glE) (.cons (ok_sameTlb.up glN_glE) (.cons (ok_drop.up glN_glE) (.cons (ok_dropped.up glN_glE) (.cons (ok_fill.up glN_glE) (.cons (ok_filled.up glN_glE) (.cons (ok_look.up glN_glE) (.cons (ok_mEntry.up glN_glE) (.cons (ok_far.up glN_glE) (.cons ok_lookedF (.cons ok_wordsR .nil))))))))))))))))) false Tryd.call3 Tryd.func3 (fun ⟨n,ram,_,_,_,_,_,_⟩=> [.cut 12 (cutA n ram),.cut 16 cutB]) (V:=V_mmuSays) (fun _=>by kernel_rfl) fun ⟨n,ram,m,t,sp,at_,w,e⟩ hp=>by
  dsimp only [s_mmuSays] at hp
  dsimp only [V_mmuSays,tn,w64,wEq,rEq,sEq,eEq]
  simp only [std,eq_self,implies_true,Bool.cond_self]
  have pr: ∀c,0≤pickF c 65536∧pickF c 65536≤65535:=fun c=>by have:=pickF_range (c:=c) (n:=65536) (by decide);omega
  intro h0
  simp only [Bool.or_eq_false_iff,decide_eq_false_iff_not] at h0
  have hm:m≤100000:=by omega
  simp only [sameEnB,sameEnR,beq_self_eq_true,bne_self_eq_false,Bool.and_true,Bool.and_self,Bool.not_true,Bool.not_false,cond_false,cond_true,pr,hm,implies_true,and_true,true_and,Bool.false_eq_true,false_implies,reduceCtorEq]
  refine ⟨⟨by omega,fun i hi=>hp i hi⟩,fun _=>⟨fun _=>by omega,fun _ _ _ _=>⟨fun h=>?_,fun h=>?_⟩⟩⟩
  · rw [h];rfl
  · have hf:0≤sp∧sp≤23:=by unfold farB at h;simp only [Bool.or_eq_false_iff,decide_eq_false_iff_not] at h;omega
    refine ⟨by rw [IntKind.wrap_i64];omega,fun hw=>⟨by rw [IntKind.wrap_i64];omega,?_⟩,fun hw=>?_⟩
    · rw [h,hw];simp
    · rw [h,hw];simp
end Go.Proofs.YtmieeldmfehpoaaDoor
set_option linter.unusedVariables false
set_option linter.unusedSimpArgs false
set_option maxRecDepth 100000
namespace Go.Proofs.YtmieeldmfehpoaaDoor
open Go.RowKit Go.Sy
def rawF (n:Nat) (l:Nat→Int) (i:Int):Int:=bif n==0 then i*31 else pickF (l (i%n).toNat) 1000003+i/n*7919
theorem rawF_range {n:Nat} {l:Nat→Int} {i:Int} (h0:0≤i) (h1:i≤1000):0≤rawF n l i∧rawF n l i≤9000000:=by
  unfold rawF
  cases h:n==0
  · have hn:(0:Int)<n:=by have:n≠0:=by simpa using h
                          omega
    have:=pickF_range (c:=l (i%n).toNat) (n:=1000003) (by decide)
    have d0:0≤i/n:=Int.ediv_nonneg h0 (by omega)
    have d1:i/n≤i:=Int.ediv_le_self _ h0
    simp only [cond_false]
    omega
  · simp only [cond_true];omega
structure X_raw where
  (n:Nat) (l:Nat→Int) (i:Int)
def s_raw:Sy.Spec:=⟨X_raw,fun ⟨n,l,i⟩=> [.sl true 1 n (fun i_ _=> .v (.int .i64 (l i_))),.v (.int .i64 i)],fun _=> [],fun ⟨n,l,i⟩=>(∀k,k<n→I64 (l k))∧0≤i∧i≤1000∧n≤100000,fun ⟨n,l,i⟩=> .v (.int .i64 (rawF n l i)),fun _=> [],
  fun args mem=>match args with| [a0,a1]=>some ⟨slN a0,fun i=>intD (slF a0 i 0),intD (a1)⟩|_=>none⟩
def c_raw:Con:=⟨[],(s_raw).g,none⟩
def V_raw:X_raw→Prop:=fun ⟨n,l,i⟩=>let a0:=(n:Int);let b0:Int:=i%a0;let c0:Int:=l (Int.toNat b0);let d0:Int:=i/a0;let e0:Int:=d0*7919;let g0:Int:=pickF c0 1000003+e0;a0≤9223372036854775807→((a0==0)=true→w64 (i*31)=i*31∧i*31=rawF n l i∧True)∧((a0==0)=false→tn 4 ((0≤i∧0<a0)∧(0≤b0∧b0<a0)∧True∧((c0=c0∧(1000003:Int)=1000003∧True)∧True∧((-9223372036854775808)≤c0∧c0≤9223372036854775807)∧(0:Int)<1000003)∧tn 3 ((0≤i∧0<a0∧w64 d0=d0)∧w64 e0=e0∧w64 g0=g0∧g0=rawF n l i∧True)))
theorem ok_raw:FnOK Tryd.prog glN 22 c_raw:=ok_of (.cons ok_pick .nil) false Tryd.call22 Tryd.func22 (fun _=> []) (V:=V_raw) (fun _=>by kernel_rfl) fun ⟨n,l,i⟩ hp=>by
  dsimp only [s_raw] at hp
  dsimp only [V_raw,tn,w64]
  simp only [std,eq_self,implies_true,Bool.cond_self]
  obtain ⟨h1,h2,h3,h4⟩:=hp
  refine fun _=>⟨fun h=>?_,fun h=>?_⟩
  · have h0:n=0:=by simpa using h
    subst h0
    exact ⟨by rw [IntKind.wrap_i64];omega,rfl⟩
  · have hn:(0:Int)<n:=by
      have:(n:Int)≠0:=by simpa using h
      omega
    have d0:0≤i/n:=Int.ediv_nonneg h2 (by omega)
    have d1:i/n≤i:=Int.ediv_le_self _ h2
    have m0:0≤i%n:=Int.emod_nonneg _ (by omega)
    have m1:i%n<n:=Int.emod_lt_of_pos _ hn
    have p:=pickF_range (c:=l (i%n).toNat) (n:=1000003) (by decide)
    refine ⟨⟨h2,hn⟩,⟨m0,m1⟩,⟨h1 _ (by omega),by decide⟩,⟨h2,hn,by rw [IntKind.wrap_i64];omega⟩,by rw [IntKind.wrap_i64];omega,by rw [IntKind.wrap_i64];omega,?_⟩
    unfold rawF
    rw [show (n==0)=false from beq_eq_false_iff_ne.2 (by omega)]
    rfl
end Go.Proofs.YtmieeldmfehpoaaDoor
set_option linter.unusedVariables false
set_option linter.unusedSimpArgs false
set_option maxRecDepth 100000
namespace Go.Proofs.YtmieeldmfehpoaaDoor
open Go.RowKit Go.Sy
def an_mk1:Ann where
  σ:=Nat×(Nat→Int)
  rt:= [(9,1)]
  sh s:= [(10,.v (.int .i64 s.1)),(9,.slc 0 0 none 0 128)]
  mh s:= [(0,.row 1 128 (iF s.2))]
  inv s:=s.1≤6∧ ∀i,isW (s.2 i)
  μ s:=6 -s.1
  init:=(0,fun _=>0)
structure TlSt where
  i:Nat
  n:Nat
  t:Nat→Ent4
def an_mk2 (c:Int):Ann where
  σ:=TlSt
  rt:= [(9,1)]
  sh s:= [(13,.v (.int .i64 s.i)),(9,.slc 0 0 none 0 128),(12,.sl false 4 s.n (rF fun a=>enL (s.t a)))]
  mh _:= []
  inv s:=s.i≤c.toNat∧s.n≤4
  μ s:=c.toNat -s.i
  init:=⟨0,0,fun _=>⟨0,0,0,false⟩⟩
structure X_filledR where
  (n:Nat) (t:Nat→Ent4) (e:Ent4)
def s_filledR:Sy.Spec:=⟨X_filledR,fun ⟨n,t,e⟩=> [.sl true 4 n (rF fun i=>enL (t i)),.ag 4 (lsv (enL e))],fun _=> [],fun ⟨n,_,_⟩=>n≤100000,fun ⟨n,t,e⟩=> .sl false 4 (flN n t e -(flN n t e -4)) (rF fun i=>enL (flT n t e (flN n t e -4+i))),fun _=> [],
  fun args mem=>match args with| [a0,a1]=>some ⟨slN a0,fun i=>enBD (fun j=>slF a0 i j),enBD (agD a1)⟩|_=>none⟩
def c_filledR:Con:=⟨[],(s_filledR).g,none⟩
def V_filledR:X_filledR→Prop:=fun ⟨n,t,e⟩=>let a0:=n=n∧(∀b0:Nat,b0<n→eEq (t b0) (t b0));let c0:=e.sp;let d0:=e.pg;let e0:=kpN (fun g0:Nat=>drB c0 d0 (t g0)) n;let h0:=e0+1;let k0:=decide (d0<0);let l0:=kpN (fun o0:Nat=>drB c0 (-1) (t o0)) n;let q0:=l0+1;let r0:=flN n t e;let u0:=r0-0;let v0:=Ent4.mk 0 0 0 false;let w0:=r0-4;let x0:=r0-w0;let y0:=0≤w0∧(∀z0:Nat,let a1:=((r0-z0:Nat):Int);let b1:=decide (4<a1);z0≤w0→a1≤9223372036854775807→(b1=true→((0:Int)≤1∧1≤a1∧a1≤a1)∧(∃c1:Nat,(z0+Int.toNat 1=c1∧Int.toNat a1-Int.toNat 1=r0-c1)∧((r0=r0∧(∀d1:Nat,let e1:=flT n t e d1;d1<r0→eEq e1 e1))∧True)∧c1≤w0∧r0-c1<r0-z0))∧(b1=false→(r0-z0=x0∧(∀g1:Nat,g1<x0→eEq (flT n t e (z0+g1)) (flT n t e (w0+g1))))∧True));tn 6 (((a0∧c0=c0∧d0=d0∧True)∧True∧s_dropped.match_1 (fun h1:X_dropped=>Prop) (X_dropped.mk n t c0 d0) (fun k1:Nat=>fun l1:∀o1:Nat,Ent4=>fun q1:Int=>fun r1:Int=>k1≤100000))∧tn 2 ((h0*32≤140737488355328∧(∀u1:Nat,true=true))∧(k0=true→tn 3 (((a0∧c0=c0∧((-1):Int)=(-1)∧True)∧True∧s_dropped.match_1 (fun v1:X_dropped=>Prop) (X_dropped.mk n t c0 (-1)) (fun w1:Nat=>fun x1:∀y1:Nat,Ent4=>fun z1:Int=>fun a2:Int=>w1≤100000))∧tn 2 ((q0*32≤140737488355328∧(∀b2:Nat,true=true))∧(0=0∧q0=u0)∧((q0=r0∧(∀c2:Nat,let d2:=Nat.blt c2 l0;let e2:=kpT v0 (fun g2:Nat=>drB c0 (-1) (t g2)) t n (0+c2);c2<r0→eEq (Ent4.mk (cond d2 e2.sp c0) (cond d2 e2.pg d0) (cond d2 e2.fr e.fr) (cond d2 e2.wr e.wr)) (flT n t e c2)))∧True)∧y0)))∧(k0=false→(0=0∧h0=u0)∧((h0=r0∧(∀h2:Nat,let k2:=Nat.blt h2 e0;let l2:=kpT v0 (fun o2:Nat=>drB c0 d0 (t o2)) t n (0+h2);h2<r0→
    eEq (Ent4.mk (cond k2 l2.sp c0) (cond k2 l2.pg d0) (cond k2 l2.fr e.fr) (cond k2 l2.wr e.wr)) (flT n t e h2)))∧True)∧y0)))
set_option maxHeartbeats 1000000 in
theorem ok_filledR:FnOK Tryd.prog glE 17 c_filledR:=ok_of (.cons (ok_dropped.up glN_glE) .nil) false Tryd.call17 Tryd.func17 (fun ⟨n,t,e⟩=> [.inv (an_fill n t e)]) (V:=V_filledR) (fun _=>by kernel_rfl) fun ⟨n,t,e⟩ hp=>by
  dsimp only [s_filledR] at hp
  dsimp only [V_filledR,tn,w64,wEq,rEq,sEq,eEq]
  simp only [std,eq_self,implies_true,Bool.cond_self]
  simp only [show (Ent4.mk 0 0 0 false)=zEn from rfl]
  have hN:flN n t e=kpN (fun i=>drB e.sp e.pg (t i)) n+1:=rfl
  have hle:=kpN_le (fun i=>drB e.sp e.pg (t i)) n
  have hT: ∀i,(bif i.blt (kpN (fun i=>drB e.sp e.pg (t i)) n) then kpT zEn (fun i=>drB e.sp e.pg (t i)) t n i else e)=flT n t e i:=fun i=>rfl
  refine ⟨hp,by omega,fun h=>?_,fun h=>?_⟩
  · have hq:(fun i=>drB e.sp (-1) (t i))=fun i=>drB e.sp e.pg (t i):=funext fun i=>by unfold drB;rw [h];rfl
    rw [hq]
    refine ⟨hp,by omega,rfl,⟨rfl,fun i _=>ent4x' (hT i)⟩,fun s hs h5=>⟨fun h=>?_,fun h=>?_⟩⟩
    · have:=of_decide_eq_true h
      exact ⟨by omega,s+1,⟨rfl,by omega⟩,by omega,by omega⟩
    · have:=of_decide_eq_false h
      obtain rfl:s=flN n t e -4:=by omega
      exact ⟨rfl,fun g _=>⟨⟨⟨rfl,rfl⟩,rfl⟩,rfl⟩⟩
  · refine ⟨rfl,⟨rfl,fun i _=>ent4x' (hT i)⟩,fun s hs h5=>⟨fun h=>?_,fun h=>?_⟩⟩
    · have:=of_decide_eq_true h
      exact ⟨by omega,s+1,⟨rfl,by omega⟩,by omega,by omega⟩
    · have:=of_decide_eq_false h
      obtain rfl:s=flN n t e -4:=by omega
      exact ⟨rfl,fun g _=>⟨⟨⟨rfl,rfl⟩,rfl⟩,rfl⟩⟩
structure X_mmuMade where
  (n:Nat) (raw:Nat→Int) (at_:Int) (w:Bool) (many:Int)
def s_mmuMade:Sy.Spec:=⟨X_mmuMade,fun ⟨n,raw,at_,w,many⟩=> [.sl true 1 n (fun i_ _=> .v (.int .i64 (raw i_))),.v (.int .i64 at_),.v (.bool w),.v (.int .i64 many)],fun _=> [],fun ⟨n,raw,at_,_,many⟩=>(∀i,i<n→I64 (raw i))∧I64 at_∧I64 many,fun _=> .v (.bool true),fun _=> [],
  fun args mem=>match args with| [a0,a1,a2,a3]=>some ⟨slN a0,fun i=>intD (slF a0 i 0),intD (a1),boolD (a2),intD (a3)⟩|_=>none⟩
def c_mmuMade:Con:=⟨[],(s_mmuMade).g,none⟩
def V_mmuMade:X_mmuMade→Prop:=fun ⟨n,raw,at_,w,many⟩=>let a0:=decide (256<(n:Int));let b0:=true=true;let c0:=0=0∧128=128;let d0:=n=n∧(∀e0:Nat,e0<n→True∧raw e0=raw e0);let g0:=(3:Int)=3∧True;let h0:=(0:Int)<3;let k0:=(2:Int)=2∧True;let l0:=pickF many 5;let o0:=Int.toNat l0;let q0:=(-9223372036854775808)≤many∧many≤9223372036854775807;let r0:=pickF at_ 800;let u0:Int:=r0/16;let v0:=r0=r0;let w0:=Ent4.mk 0 u0 5 false;let x0:=Ent4.mk 1 3 0 false;(n:Int)≤9223372036854775807→(a0=true→b0∧True)∧(a0=false→((0:Int)≤128∧(128:Int)≤128∧((8:Nat):Int)*128≤140737488355328)∧0=((0:Nat):Int)∧c0∧((Int.toNat 128=128∧(∀y0:Nat,y0<128→True∧(0:Int)=0))∧True)∧(0≤6∧(∀z0:Nat,(0:Int)≤0∧(0:Int)≤65535))∧(∀a1:Prod Nat (∀b1:Nat,Int),let c1:=((a1.fst:Nat):Int);let d1:=decide (c1<6);let e1:=rawF n raw c1;let g1:=0≤e1;let h1:Int:=e1/3;let k1:Int:=32769+pickF h1 3;let l1:=pickF e1 3;let o1:Int:=e1/9;let q1:Int:=1+pickF o1 3;let r1:Int:=q1*16;let u1:Int:=e1/27;let v1:Int:=r1+pickF u1 3;let w1:Int:=e1/81;let x1:Int:=pickF w1 2*16384;let y1:Int:=32768+x1;let z1:Int:=y1+4;let a2:Int:=e1/162;let b2:Int:=z1+pickF a2 4;let c2:Int:=c1+1;let d2:=(128=128∧(∀e2:Nat,e2<128→True∧a1.snd e2=a1.snd e2))∧True;let g2:=128=128∧(∀h2:Nat,h2<128→True∧a1.snd (0+h2)=a1.snd (0+h2));let k2:=True∧(∀l2:Nat,l2<128→(-9223372036854775808)≤a1.snd (0+l2)∧a1.snd (0+l2)≤9223372036854775807);a1.fst≤6∧(∀o2:Nat,0≤a1.snd o2∧a1.snd o2≤65535)→(d1=true→((d0∧c1=c1∧True)∧True∧(∀q2:Nat,q2<n→(-9223372036854775808)≤raw q2∧raw q2≤9223372036854775807)∧0≤c1∧c1≤1000∧n≤100000)∧((e1=e1∧g0)∧True∧
    ((-9223372036854775808)≤e1∧e1≤9223372036854775807)∧h0)∧(g1∧h0∧w64 h1=h1)∧((h1=h1∧g0)∧True∧((-9223372036854775808)≤h1∧h1≤9223372036854775807)∧h0)∧w64 k1=k1∧(0≤l1∧l1<((128:Nat):Int))∧(∀r2:Nat,false=false)∧(g1∧(0:Int)<9∧w64 o1=o1)∧((o1=o1∧g0)∧True∧((-9223372036854775808)≤o1∧o1≤9223372036854775807)∧h0)∧w64 q1=q1∧w64 r1=r1∧(g1∧(0:Int)<27∧w64 u1=u1)∧((u1=u1∧g0)∧True∧((-9223372036854775808)≤u1∧u1≤9223372036854775807)∧h0)∧w64 v1=v1∧(g1∧(0:Int)<81∧w64 w1=w1)∧((w1=w1∧k0)∧True∧((-9223372036854775808)≤w1∧w1≤9223372036854775807)∧(0:Int)<2)∧w64 x1=x1∧w64 y1=y1∧w64 z1=z1∧(g1∧(0:Int)<162∧w64 a2=a2)∧((a2=a2∧(4:Int)=4∧True)∧True∧((-9223372036854775808)≤a2∧a2≤9223372036854775807)∧(0:Int)<4)∧w64 b2=b2∧(0≤v1∧v1<((128:Nat):Int))∧(∀u2:Nat,false=false)∧w64 c2=c2∧(∃v2:Prod Nat (∀w2:Nat,Int),c2=((v2.fst:Nat):Int)∧c0∧((128=128∧(∀x2:Nat,x2<128→True∧cond (Nat.beq x2 (0+Int.toNat v1)) b2 (cond (Nat.beq x2 (0+Int.toNat l1)) k1 (a1.snd x2))=v2.snd x2))∧True)∧(v2.fst≤6∧(∀y2:Nat,0≤v2.snd y2∧v2.snd y2≤65535))∧6-v2.fst<6-a1.fst))∧(d1=false→((at_=at_∧(800:Int)=800∧True)∧True∧((-9223372036854775808)≤at_∧at_≤9223372036854775807)∧(0:Int)<800)∧0=((0:Nat):Int)∧c0∧0=0∧d2∧(0≤o0∧0≤4)∧(∀z2:TlSt,let a3:=((z2.i:Nat):Int);let b3:=decide (a3<l0);let c3:Int:=20+a3;let d3:=rawF n raw c3;let e3:=0≤d3;let g3:Int:=d3/40;let h3:Int:=d3/320;let k3:=z2.n=z2.n∧(∀l3:Nat,l3<z2.n→eEq (z2.t l3) (z2.t l3));let o3:=Ent4.mk 0 (pickF d3 40) (pickF g3 8) (pickF h3 2==1);let q3:Int:=a3+1;let r3:=flN z2.n z2.t o3;let u3:=r3-4;z2.i≤o0∧
    z2.n≤4→((many=many∧(5:Int)=5∧True)∧True∧q0∧(0:Int)<5)∧(b3=true→w64 c3=c3∧((d0∧c3=c3∧True)∧True∧(∀v3:Nat,v3<n→(-9223372036854775808)≤raw v3∧raw v3≤9223372036854775807)∧0≤c3∧c3≤1000∧n≤100000)∧((d3=d3∧(40:Int)=40∧True)∧True∧((-9223372036854775808)≤d3∧d3≤9223372036854775807)∧(0:Int)<40)∧(e3∧(0:Int)<40∧w64 g3=g3)∧((g3=g3∧(8:Int)=8∧True)∧True∧((-9223372036854775808)≤g3∧g3≤9223372036854775807)∧(0:Int)<8)∧(e3∧(0:Int)<320∧w64 h3=h3)∧((h3=h3∧k0)∧True∧((-9223372036854775808)≤h3∧h3≤9223372036854775807)∧(0:Int)<2)∧((k3∧eEq o3 o3∧True)∧True∧s_filledR.match_1 (fun w3:X_filledR=>Prop) (X_filledR.mk z2.n z2.t o3) (fun x3:Nat=>fun y3:∀z3:Nat,Ent4=>fun a4:Ent4=>x3≤100000))∧w64 q3=q3∧(∃b4:TlSt,q3=((b4.i:Nat):Int)∧c0∧(r3-u3=b4.n∧(∀c4:Nat,c4<b4.n→eEq (flT z2.n z2.t o3 (u3+c4)) (b4.t c4)))∧d2∧(b4.i≤o0∧b4.n≤4)∧o0-b4.i<o0-z2.i))∧(b3=false→(0≤r0∧(0:Int)<16∧w64 u0=u0)∧((g2∧k3∧(0:Int)=0∧v0∧w=w∧eEq w0 w0∧True)∧k2)∧(b0→(many=many∧(9:Int)=9∧True)∧True∧q0∧(0:Int)<9)∧(b0→(g2∧k3∧pickF many 9=pickF many 9∧v0∧w=w∧eEq x0 x0∧True)∧k2)∧cond true true false=true∧True)))))
set_option maxHeartbeats 1000000 in
theorem ok_mmuMade:FnOK Tryd.prog glE 4 c_mmuMade:=ok_of (.cons ok_mmuSays (.cons (ok_raw.up glN_glE) (.cons (ok_pick.up glN_glE) (.cons ok_filledR .nil)))) false Tryd.call4 Tryd.func4 (fun ⟨_,_,_,_,many⟩=> [.inv an_mk1,.inv (an_mk2 (pickF many 5))]) (V:=V_mmuMade) (fun _=>by kernel_rfl) fun ⟨n,raw,at_,w,many⟩ hp=>by
  dsimp only [s_mmuMade] at hp
  dsimp only [V_mmuMade,tn,w64,wEq,rEq,sEq,eEq]
  simp only [std,eq_self,implies_true,Bool.cond_self]
  obtain ⟨hr,ha,hm⟩:=hp
  have P: ∀c k:Int,0<k→0≤pickF c k∧pickF c k<k:=fun c k h=>by have:=pickF_range (c:=c) (n:=k) h;omega
  intro hn0 h256
  have hn:n≤256:=by have:=of_decide_eq_false h256;omega
  refine ⟨by decide,rfl,fun _=>⟨by decide,by decide⟩,fun a h1=>?_⟩
  obtain ⟨i,f⟩:=a
  obtain ⟨hi,hf⟩:=h1
  dsimp only at hi hf⊢
  refine ⟨fun h=>?_,fun _=>?_⟩
  · have hlt:=of_decide_eq_true h
    obtain ⟨g0,g1⟩:=rawF_range (n:=n) (l:=raw) (i:=(i:Int)) (by omega) (by omega)
    have p1:=P (rawF n raw i) 3 (by decide)
    have p2:=P (rawF n raw i/3) 3 (by decide)
    have p3:=P (rawF n raw i/9) 3 (by decide)
    have p4:=P (rawF n raw i/27) 3 (by decide)
    have p5:=P (rawF n raw i/81) 2 (by decide)
    have p6:=P (rawF n raw i/162) 4 (by decide)
    refine ⟨⟨hr,by omega,by omega⟩,?_⟩
    repeat (refine ⟨by first|omega|(simp only [IntKind.wrap_i64];omega),?_⟩)
    refine ⟨(i+1,_),by show (i:Int)+1=((i+1:Nat):Int);omega,fun x _=>rfl,⟨by show i+1≤6;omega,fun y=>?_⟩,by show 6 -(i+1)<6 -i;omega⟩
    have hy:=hf y
    dsimp only
    generalize Nat.beq y _=b1
    generalize Nat.beq y _=b2
    cases b1<;>cases b2<;>simp only [cond_true,cond_false]<;>omega
  · refine ⟨⟨ha,by decide⟩,fun z hz=>?_⟩
    obtain ⟨zi,zn,zt⟩:=z
    obtain ⟨hz1,hz2⟩:=hz
    dsimp only at hz1 hz2⊢
    have pm:=P many 5 (by decide)
    refine ⟨⟨hm,by decide⟩,fun h=>?_,fun _=>?_⟩
    · have hlt:=of_decide_eq_true h
      obtain ⟨g0,g1⟩:=rawF_range (n:=n) (l:=raw) (i:=20+(zi:Int)) (by omega) (by omega)
      generalize ({sp:=0,pg:=pickF (rawF n raw (20+(zi:Int))) 40,fr:=pickF (rawF n raw (20+(zi:Int))/40) 8,wr:=pickF (rawF n raw (20+(zi:Int))/320) 2==1}:Ent4)=E
      refine ⟨by simp only [IntKind.wrap_i64];omega,⟨hr,by omega,by omega,by omega⟩,?_⟩
      iterate 5 (refine ⟨by first|omega|(simp only [IntKind.wrap_i64];omega),?_⟩)
      refine ⟨by omega,by simp only [IntKind.wrap_i64];omega,⟨zi+1,flN zn zt E -(flN zn zt E -4),fun c=>flT zn zt E (flN zn zt E -4+c)⟩,by show (zi:Int)+1=((zi+1:Nat):Int);omega,⟨rfl,fun c _=>⟨⟨⟨rfl,rfl⟩,rfl⟩,rfl⟩⟩,⟨by show zi+1≤_;omega,by show flN zn zt E -(flN zn zt E -4)≤4;omega⟩,by show _ -(zi+1)<_ -zi;omega⟩
    · refine ⟨?_,fun l _=>?_,fun _=>⟨hm,by decide⟩,fun _ l _=>?_,rfl⟩
      · have:=P at_ 800 (by decide)
        exact ⟨by omega,by decide,by rw [IntKind.wrap_i64];omega⟩
      · have:=hf l
        omega
      · have:=hf l
        omega
end Go.Proofs.YtmieeldmfehpoaaDoor
namespace Go.Proofs.YtmieeldmfehpoaaDoor
open Go.ChangeShapes Go.WideShapes Go.RowKit Go.Sy
theorem K.own:ownKnob Tryd.prog.godebug=none:=by kernel_rfl
theorem K.et : Tryd.prog.globalNamed "errors.errorType" = some 0 := by kernel_rfl
theorem K.rt : (Tryd.prog.cutTypes.find? (·.1 == "internal/reflectlite.rtype")).map (·.2) = some 82 := by kernel_rfl
theorem K.oneRow:((List.range Tryd.prog.types.size).filter fun t=>Tryd.prog.rowNamed t [101,114,114,111,114])= [32]:=by kernel_rfl
theorem K.handle {laid : List (String × DataW Unit)} {W : World} (h : laidMetH Tryd.prog laid W) (hm : ("errors.errorType", Rows.laid_errors_errorType) ∈ laid) : W.cell? ⟨0, 0, none⟩ = some A.eTy := by
  have hf : ("errors.errorType", Rows.laid_errors_errorType) ∈ laid.filter fun x => x.2.handleName?.isSome := List.mem_filter.2 ⟨hm, by rfl⟩
  unfold laidMetH at h
  split at h
  · next e=>rw [e] at hf;cases hf
  next x r e=>
  rw [e] at hf
  obtain ⟨name,u,ty,e1,e2,e3,e4,e5⟩:=h.2 _ hf
  have en:name= [101,114,114,111,114]:=(Option.some.inj e1).symm
  subst en
  obtain rfl:=Option.some.inj (K.rt.symm.trans e2)
  have hm:ty∈(List.range Tryd.prog.types.size).filter fun t=>Tryd.prog.rowNamed t [101,114,114,111,114]:=List.mem_filter.2 ⟨List.mem_range.2 e3,e4⟩
  rw [K.oneRow] at hm
  obtain rfl:=List.mem_singleton.1 hm
  have hh:typeHandle Tryd.prog 32= .pointer (some ⟨1,32,none⟩):=by kernel_rfl
  rw [hh] at e5
  unfold A.eTy
  simpa using World.var?_cell K.et e5 0
noncomputable def K.world (os:Os):World:=
  let w0:=World.holding Tryd.prog os ⟨#[],#[],[]⟩
  {w0 with heap:=w0.heap.modify 0 fun
   | .cells _ t frozen=> .cells #[A.eTy] t frozen
   |o=>o}
theorem K.met (os : Os) (args : Array Value) : laidMetH Tryd.prog [("errors.errorType", Rows.laid_errors_errorType)] ((K.world os).forCall (fun _ _ => 0) ⟨#[], args, []⟩).memory :=
  laidMetH_of_parts (laidMet_nil _ _) (by kernel_rfl)
theorem K.laidOut:laidOutB Tryd.prog=true:=by kernel_rfl
theorem K.trodAll {H:Type} {enc:TypeId×Value→H} {P:Program} (hl:laidOutB P=true) {W W':World} (hb:Below W.heap.size W W'): ∀{ts:List TypeId} {vs:List Value} {ds:List (DataW H)} {ps:List MemPlace},
    (ts.all fun t=>P.readableRec t&&decide (t<P.types.size))=true→DataW.TrodAll enc P W 0 (fun _=>true) true ts vs ds ps→(∀x∈ps,x.block<W.heap.size)→DataW.TrodAll enc P W' 0 (fun b=>decide (b<W.heap.size)) true ts vs ds ps
  | [],[],[],_,_,h,_=>h
  |t::ts,v::vs,d::ds,ps,hr,⟨p,q,h1,h2,e⟩,hlt=>by
   subst e
   simp only [List.all_cons,Bool.and_eq_true,decide_eq_true_eq] at hr
   exact ⟨p,q,Below.trod hl hr.1.1 hr.1.2 h1 hb (fun x hx=>hlt x (List.mem_append_left _ hx)),K.trodAll hl hb hr.2 h2 (fun x hx=>hlt x (List.mem_append_right _ hx)),rfl⟩
theorem K.underlying4:Tryd.prog.underlying 4=some .bool:=by kernel_rfl
theorem K.len {H:Type} {enc:TypeId×Value→H} {P:Program} {w:World} {base:Nat} {spare:Nat→Bool} {held:Bool}: ∀{ts:List TypeId} {vs:List Value} {ds:List (DataW H)} {ps:List MemPlace},DataW.TrodAll enc P w base spare held ts vs ds ps→ds.length=ts.length
  | [],[],[],_,_=>rfl
  |_::_,_::_,_::_,_,⟨_,_,_,h,_⟩=>by simp [K.len h]
theorem K.noStand {ps:Array TypeId} (h:(ps.toList.all fun t=>!Tryd.prog.wantsStandIn t)=true) {j:Nat} {t:TypeId} (ht:ps[j]? =some t):Tryd.prog.wantsStandIn t=false:=by
  have:=List.all_eq_true.1 h t (by rw [Array.mem_toList_iff];exact Array.mem_of_getElem? ht)
  simpa using this
set_option maxRecDepth 100000 in
theorem K.lift {f:FuncId} {fn:Func} {s:ChangeSpec} {X:World→Prop} (hX: ∀(w w':World),w.heap=w'.heap→X w→X w') (os:Os) (started:os.Started) (H:Type) (enc:TypeId×Value→H)
    (noInit:Tryd.checked.prog.inits.idxOf? f=none) (hfn:Tryd.checked.prog.funcs[f]? =some fn)
    (hs: ∀ds:List (DataW H),ds.length=fn.params.toList.length→s.fn H (ds++ [])={results:= [.lit (.bool true)],args:=ds}) (hv:s.vars= []) (hr:fn.resultTypes= #[4])
    (hrow:(fn.params.toList.all fun t=>Tryd.prog.readableRec t&&decide (t<Tryd.prog.types.size))=true)
    (witness: ∃(w:World) (tape:Tape) (i:Input),w.os=os∧(w.forCall tape i).Shaped Tryd.prog∧i.vars= []∧Input.okWide Tryd.prog (w.forCall tape i) .any w.heap.size f i∧
      ((s.pre enc Tryd.prog fn [] false (w.forCall tape i).memory i.args∧X (w.forCall tape i).memory)∧sizedMet enc Tryd.prog fn (OpenSpec.ofChange s) false (w.forCall tape i).memory i.args)∧({}:Assume).holds Tryd.prog (lone (Frame.enter Tryd.prog f i.args .normal) [] (w.forCall tape i)))
    (contract: ∀(W:World) (base:Nat) (args:Array Value) (ds:List (DataW H)) (p:List MemPlace),
      (∀(j:Nat) t v,fn.params[j]? =some t→args[j]? =some v→Value.okWide Tryd.prog W .any base t v)→
      DataW.TrodAll enc Tryd.prog W 0 (fun _=>true) true fn.params.toList args.toList ds p→X W→(∀x∈p,x.block<W.heap.size)→
      Calls Tryd.prog f args W fun e W'=>e= .returned (.bool true)∧Below W.heap.size W W'):
    ReturnsInHanded {} Tryd.checked os f .any (fun w args=>(s.pre enc Tryd.prog fn [] false w args∧X w)∧sizedMet enc Tryd.prog fn (OpenSpec.ofChange s) false w args) (s.post enc Tryd.prog fn false true false false):=by
  refine returnsInHanded_of_change_and (C:=Tryd.checked) (X:=fun w _=>X w) (fun w w' _ hh h=>hX w w' hh h) K.own started noInit hfn witness ?_
  intro W base args ds gs before hval hW _ _ hL _
  have hW':=hW
  obtain ⟨p,q,hA,hV,rfl,hfz,_⟩:=hW
  have hlt: ∀x∈p,x.block<W.heap.size:=fun x hx=>by simpa using hW'.lt x (List.mem_append_left _ hx)
  obtain ⟨rfl,rfl⟩:gs= []∧q= []:=by
    rw [hv] at hV
    cases gs with
    |nil=>exact ⟨rfl,hV⟩
    |cons g r=>exact absurd hV (by intro h;cases h)
  refine (contract W base args ds p hval hA hL hlt).mono fun e W' ⟨he,hb⟩=>?_
  have e1:=hs ds (K.len hA)
  refine ⟨_,he,_,_,_,[],p,[],hW',?_,?_,?_,hb.frame _,fun h=>by cases h⟩
  · rw [e1,hr];exact trodAll_mk1 (shut_bool K.underlying4 true)
  · rw [e1];exact K.trodAll K.laidOut hb hrow hA hlt
  · rw [e1,hv];rfl
theorem K.eT {laid : List (String × DataW Unit)} {W : World} (h : laidMetH Tryd.prog laid W) (hm : ("errors.errorType", Rows.laid_errors_errorType) ∈ laid) : Den W o0.bare (.pt false 1 fun _ => .v A.eTy) (.pointer (some ⟨0, 0, none⟩)) :=
  ⟨_,rfl,fun j hj=>⟨_,by obtain rfl:j=0:=by omega
                         exact K.handle h hm,⟨id,fun _=>id⟩,rfl⟩⟩
theorem K.gE {laid : List (String × DataW Unit)} {W : World} (h : laidMetH Tryd.prog laid W) (hm : ("errors.errorType", Rows.laid_errors_errorType) ∈ laid) (g : Nat) : Den W o0.bare (glE g) (.pointer (some ⟨g, 0, none⟩)) := by
  unfold glE
  split
  · exact K.eT h hm
  · trivial
end Go.Proofs.YtmieeldmfehpoaaDoor
