/- Starting and ranking a task. -/
import Derived.Test.YtdjilaofmdhikaaGreatDoorYN
set_option linter.unusedVariables false
set_option linter.unusedSimpArgs false
set_option linter.unusedVariables false
set_option linter.unusedSimpArgs false
set_option maxRecDepth 100000
namespace Go.Proofs.YtdjilaofmdhikaaGreatDoor
open Go.RowKit Go.Sy
def tmE (W:Wd) (t:Int):Int:=bif decide (t<0)||decide ((W.nKinds:Int)≤t) then 2 else bif W.kinds t.toNat !=6 then 3 else 0
def tsaE (W:Wd) (t:Int):Int:=bif tmE W t==0 then bif (W.tasks t.toNat).st==0 then 0 else 7 else tmE W t
def tsaW_tasks (W:Wd) (t:Int) (i:Nat):Run:=bif tsaE W t==0 then (wokW W t.toNat).tasks i else (W).tasks i
def tsaW_readyN (W:Wd) (t:Int) (i:Nat):Nat:=bif tsaE W t==0 then (wokW W t.toNat).readyN i else (W).readyN i
def tsaW_ready (W:Wd) (t:Int) (i k:Nat):Int:=bif tsaE W t==0 then (wokW W t.toNat).ready i k else (W).ready i k
def tsaW (W:Wd) (t:Int):Wd:={W with tasks:=tsaW_tasks W t,readyN:=tsaW_readyN W t,ready:=tsaW_ready W t}
theorem tsaW_t {W:Wd} {t:Int} (h:(tsaE W t==0)=true):tsaW W t=wokW W t.toNat:=by
  have e_tasks:tsaW_tasks W t=(wokW W t.toNat).tasks:=by
    funext i
    unfold tsaW_tasks
    rw [h]
    rfl
  have e_readyN:tsaW_readyN W t=(wokW W t.toNat).readyN:=by
    funext i
    unfold tsaW_readyN
    rw [h]
    rfl
  have e_ready:tsaW_ready W t=(wokW W t.toNat).ready:=by
    funext i k
    unfold tsaW_ready
    rw [h]
    rfl
  show ({W with tasks:=tsaW_tasks W t,readyN:=tsaW_readyN W t,ready:=tsaW_ready W t}:Wd)=_
  rw [e_tasks,e_readyN,e_ready]<;>kernel_rfl
theorem tsaW_f {W:Wd} {t:Int} (h:(tsaE W t==0)=false):tsaW W t=W:=by
  have e_tasks:tsaW_tasks W t=(W).tasks:=by
    funext i
    unfold tsaW_tasks
    rw [h]
    rfl
  have e_readyN:tsaW_readyN W t=(W).readyN:=by
    funext i
    unfold tsaW_readyN
    rw [h]
    rfl
  have e_ready:tsaW_ready W t=(W).ready:=by
    funext i k
    unfold tsaW_ready
    rw [h]
    rfl
  show ({W with tasks:=tsaW_tasks W t,readyN:=tsaW_readyN W t,ready:=tsaW_ready W t}:Wd)=_
  rw [e_tasks,e_readyN,e_ready]<;>kernel_rfl
def trkK (W:Wd) (t:Nat):Nat:=rkOf (W.tasks t)
def trkI (W:Wd) (t:Nat):Nat:=fstB (W.readyN (trkK W t)) fun k=>(t:Int)==W.ready (trkK W t) k
def trkH (W:Wd) (t:Nat):Bool:=Nat.blt (trkI W t) (W.readyN (trkK W t))
def tprS (W:Wd) (t:Nat) (p:Int) (i:Nat):Run:=updF W.tasks t {W.tasks t with prio:=p} i
def tprW (W:Wd) (t:Nat) (p:Int):Wd:={W with tasks:=tprS W t p}
def trdN (W:Wd) (t i:Nat):Nat:=updF W.readyN (trkK W t) (W.readyN (trkK W t) -1) i
def trdL (W:Wd) (t i k:Nat):Int:=updF W.ready (trkK W t) (delF (W.ready (trkK W t)) (trkI W t)) i k
def trdW (W:Wd) (t:Nat):Wd:={W with readyN:=trdN W t,ready:=trdL W t}
def traE (W:Wd) (t p:Int):Int:=bif tmE W t==0 then bif farB p 3 then 2 else 0 else tmE W t
def trbW_tasks (W:Wd) (t p:Int) (i:Nat):Run:=bif trkH W t.toNat then (wokW (tprW (trdW W t.toNat) t.toNat p) t.toNat).tasks i else (tprW W t.toNat p).tasks i
def trbW_readyN (W:Wd) (t p:Int) (i:Nat):Nat:=bif trkH W t.toNat then (wokW (tprW (trdW W t.toNat) t.toNat p) t.toNat).readyN i else (tprW W t.toNat p).readyN i
def trbW_ready (W:Wd) (t p:Int) (i k:Nat):Int:=bif trkH W t.toNat then (wokW (tprW (trdW W t.toNat) t.toNat p) t.toNat).ready i k else (tprW W t.toNat p).ready i k
def trbW (W:Wd) (t p:Int):Wd:={W with tasks:=trbW_tasks W t p,readyN:=trbW_readyN W t p,ready:=trbW_ready W t p}
theorem trbW_t {W:Wd} {t p:Int} (h:(trkH W t.toNat)=true):trbW W t p=wokW (tprW (trdW W t.toNat) t.toNat p) t.toNat:=by
  have e_tasks:trbW_tasks W t p=(wokW (tprW (trdW W t.toNat) t.toNat p) t.toNat).tasks:=by
    funext i
    unfold trbW_tasks
    rw [h]
    rfl
  have e_readyN:trbW_readyN W t p=(wokW (tprW (trdW W t.toNat) t.toNat p) t.toNat).readyN:=by
    funext i
    unfold trbW_readyN
    rw [h]
    rfl
  have e_ready:trbW_ready W t p=(wokW (tprW (trdW W t.toNat) t.toNat p) t.toNat).ready:=by
    funext i k
    unfold trbW_ready
    rw [h]
    rfl
  show ({W with tasks:=trbW_tasks W t p,readyN:=trbW_readyN W t p,ready:=trbW_ready W t p}:Wd)=_
  rw [e_tasks,e_readyN,e_ready]<;>kernel_rfl
theorem trbW_f {W:Wd} {t p:Int} (h:(trkH W t.toNat)=false):trbW W t p=tprW W t.toNat p:=by
  have e_tasks:trbW_tasks W t p=(tprW W t.toNat p).tasks:=by
    funext i
    unfold trbW_tasks
    rw [h]
    rfl
  have e_readyN:trbW_readyN W t p=(tprW W t.toNat p).readyN:=by
    funext i
    unfold trbW_readyN
    rw [h]
    rfl
  have e_ready:trbW_ready W t p=(tprW W t.toNat p).ready:=by
    funext i k
    unfold trbW_ready
    rw [h]
    rfl
  show ({W with tasks:=trbW_tasks W t p,readyN:=trbW_readyN W t p,ready:=trbW_ready W t p}:Wd)=_
  rw [e_tasks,e_readyN,e_ready]<;>kernel_rfl
def traW_tasks (W:Wd) (t p:Int) (i:Nat):Run:=bif traE W t p==0 then (trbW W t p).tasks i else (W).tasks i
def traW_readyN (W:Wd) (t p:Int) (i:Nat):Nat:=bif traE W t p==0 then (trbW W t p).readyN i else (W).readyN i
def traW_ready (W:Wd) (t p:Int) (i k:Nat):Int:=bif traE W t p==0 then (trbW W t p).ready i k else (W).ready i k
def traW (W:Wd) (t p:Int):Wd:={W with tasks:=traW_tasks W t p,readyN:=traW_readyN W t p,ready:=traW_ready W t p}
theorem traW_t {W:Wd} {t p:Int} (h:(traE W t p==0)=true):traW W t p=trbW W t p:=by
  have e_tasks:traW_tasks W t p=(trbW W t p).tasks:=by
    funext i
    unfold traW_tasks
    rw [h]
    rfl
  have e_readyN:traW_readyN W t p=(trbW W t p).readyN:=by
    funext i
    unfold traW_readyN
    rw [h]
    rfl
  have e_ready:traW_ready W t p=(trbW W t p).ready:=by
    funext i k
    unfold traW_ready
    rw [h]
    rfl
  show ({W with tasks:=traW_tasks W t p,readyN:=traW_readyN W t p,ready:=traW_ready W t p}:Wd)=_
  rw [e_tasks,e_readyN,e_ready]<;>kernel_rfl
theorem traW_f {W:Wd} {t p:Int} (h:(traE W t p==0)=false):traW W t p=W:=by
  have e_tasks:traW_tasks W t p=(W).tasks:=by
    funext i
    unfold traW_tasks
    rw [h]
    rfl
  have e_readyN:traW_readyN W t p=(W).readyN:=by
    funext i
    unfold traW_readyN
    rw [h]
    rfl
  have e_ready:traW_ready W t p=(W).ready:=by
    funext i k
    unfold traW_ready
    rw [h]
    rfl
  show ({W with tasks:=traW_tasks W t p,readyN:=traW_readyN W t p,ready:=traW_ready W t p}:Wd)=_
  rw [e_tasks,e_readyN,e_ready]<;>kernel_rfl
theorem lit_prio {f:Nat→Run} {u:Nat} {v0:Int}:(fun x=>(⟨(f x).r0,(f x).r1,(f x).r2,(f x).r3,(f x).r4,(f x).r5,(f x).r6,(f x).r7,(f x).pc,(f x).st,bif x.beq u then v0 else (f x).prio,(f x).node,(f x).space,(f x).helper,(f x).loc,(f x).word,(f x).badge,(f x).owes,(f x).core,(f x).dom⟩:Run))=updF f u {f u with prio:=v0}:=by
  funext x
  rcases Decidable.em (x=u) with e|e
  · subst e;simp only [Nat.beq_refl,cond_true,updF_at]
  · simp only [beq_ne e,cond_false,updF_ne e]
theorem wok_congr {A B:Wd} {t:Nat} (e1:A.tasks=B.tasks) (e2:A.readyN=B.readyN) (e3: ∀i k,k<B.readyN i→A.ready i k=B.ready i k):wkS A t=wkS B t∧wkN A t=wkN B t∧ ∀i k,k<wkN B t i→wkL A t i k=wkL B t i k:=by
  refine ⟨?_,?_,fun i k hk=>?_⟩
  · funext i;unfold wkS;rw [e1]
  · funext i;unfold wkN;rw [e1,e2]
  · unfold wkL
    unfold wkN at hk
    rw [e1,e2]
    rcases Decidable.em (i=rkOf (B.tasks t)) with e|e
    · subst e
      rw [updF_at] at hk
      rw [updF_at,updF_at]
      unfold apF
      rcases Nat.lt_or_ge k (B.readyN (rkOf (B.tasks t))) with h|h
      · rw [blt_t h];exact e3 _ _ h
      · rw [blt_f h];rfl
    · rw [updF_ne e] at hk
      rw [updF_ne e,updF_ne e]
      exact e3 _ _ hk
theorem tr_idx {W:Wd} {t:Nat}:decide (0≤idxB (W.readyN (trkK W t)) fun u=>(t:Int)==W.ready (trkK W t) u)=trkH W t:=by
  unfold idxB trkH trkI
  cases Nat.blt (fstB (W.readyN (trkK W t)) fun u=>(t:Int)==W.ready (trkK W t) u) (W.readyN (trkK W t))
  · rfl
  · exact decide_eq_true (Int.natCast_nonneg _)
theorem tr_at {W:Wd} {t:Nat} (h:trkH W t=true):(idxB (W.readyN (trkK W t)) fun u=>(t:Int)==W.ready (trkK W t) u)=(trkI W t:Nat):=by
  unfold idxB;unfold trkH trkI at h;rw [h];rfl
def tstB (W:Wd) (t:Int) (i:Nat):Bool:=anyB i fun q=>inB' (W.readyN q) (W.ready q) t
def an_rk (W:Wd) (t:Int):Ann where
  σ:=Nat
  rt:= []
  sh i:= [(0,pt0 0),(8,.v (.bool (tstB W t i))),(9,.v (.int .i64 i))]
  mh i:= [(8,.row 1 W.nReady (fun q _=> .il 1 (lv2N W t i q) (iF (lv2L W t i q))))]
  inv i:=i≤W.nReady
  μ i:=W.nReady -i
  init:=0
structure TnP (W:Wd):Prop where
  i:Inv 500 W
theorem tm_0 {W:Wd} {t:Int} (h:tmE W t=0):0≤t∧t<W.nKinds∧W.kinds t.toNat=6:=by
  unfold tmE at h
  cases h1:(decide (t<0)||decide ((W.nKinds:Int)≤t)) with
  |true=>rw [h1] at h;exact absurd (show (2:Int)=0 from h) (by decide)
  |false=>
   cases h2:W.kinds t.toNat !=6 with
   |true=>rw [h1,h2] at h;exact absurd (show (3:Int)=0 from h) (by decide)
   |false=>
    simp only [Bool.or_eq_false_iff,decide_eq_false_iff_not,bne_eq_false_iff_eq] at h1 h2
    omega
structure X_taskMay where
  (W:Wd) (t:Int)
def s_taskMay:Sy.Spec:=⟨X_taskMay,fun ⟨W,t⟩=> [wPT W,.v (.int .i64 t)],fun _=> [],fun ⟨W,_⟩=>Szd W,fun ⟨W,t⟩=> .v (.int .i64 (tmE W t)),fun _=> [],
  fun args mem=>match args with| [a0,a1]=>some ⟨wPTD a0,intD (a1)⟩|_=>none⟩
def c_taskMay:Con:=⟨[],s_taskMay.g,none⟩
def V_taskMay:X_taskMay→Prop:=fun ⟨W,t⟩=>let a0:=cond (decide (t<0)) true (decide (((W.nKinds:Nat):Int)≤t));let b0:=tmE W t;let c0:=W.kinds (Int.toNat t) !=6;(a0=true→2=b0∧True)∧(a0=false→(0≤t∧t<((W.nKinds:Nat):Int))∧(c0=true→3=b0∧True)∧(c0=false→0=b0∧True))
theorem ok_taskMay:FnOK Tryz.prog glN 120 c_taskMay:=ok_of .nil false Tryz.call120 Tryz.func120 (fun _=> []) (V:=V_taskMay) (fun _=>by kernel_rfl) fun ⟨W,t⟩ hp=>by
  dsimp only [s_taskMay] at hp
  dsimp only [V_taskMay,tn,w64]
  simp only [std,stb,eq_self,implies_true,Bool.cond_self]
  try simp only [wd_eta]
  unfold tmE
  refine ⟨fun h=>by rw [h];rfl,fun h=>?_⟩
  simp only [h,cond_false]
  simp only [Bool.or_eq_false_iff,decide_eq_false_iff_not] at h
  refine ⟨by omega,fun h2=>by rw [h2];rfl,fun h2=>by rw [h2];rfl⟩
structure X_task_ where
  (W:Wd) (t:Int)
def s_task_:Sy.Spec:=⟨X_task_,fun ⟨W,t⟩=> [wPT W,.v (.int .i64 t)],fun _=> [],fun ⟨W,_⟩=>Szd W,fun ⟨W,t⟩=> .er 35 116 (tmE W t) (-1),fun _=> [],
  fun args mem=>match args with| [a0,a1]=>some ⟨wPTD a0,intD (a1)⟩|_=>none⟩
def c_task_:Con:=⟨[],s_task_.g,none⟩
def V_task_:X_task_→Prop:=fun ⟨W,t⟩=>let a0:=cond (decide (t<0)) true (decide (((W.nKinds:Nat):Int)≤t));let b0:=tmE W t;let c0:=((-1):Int)=(-1);let d0:=W.kinds (Int.toNat t) !=6;(a0=true→((2:Int)≠0∧b0=2∧c0)∧True)∧(a0=false→(0≤t∧t<((W.nKinds:Nat):Int))∧(d0=true→((3:Int)≠0∧b0=3∧c0)∧True)∧(d0=false→(b0=0∧c0)∧True))
theorem ok_task_:FnOK Tryz.prog glN 155 c_task_:=ok_of .nil false Tryz.call155 Tryz.func155 (fun _=> []) (V:=V_task_) (fun _=>by kernel_rfl) fun ⟨W,t⟩ hp=>by
  dsimp only [s_task_] at hp
  dsimp only [V_task_,tn,w64]
  simp only [std,stb,eq_self,implies_true,Bool.cond_self]
  try simp only [wd_eta]
  unfold tmE
  refine ⟨fun h=>⟨by decide,by rw [h];rfl⟩,fun h=>?_⟩
  simp only [h,cond_false]
  simp only [Bool.or_eq_false_iff,decide_eq_false_iff_not] at h
  refine ⟨by omega,fun h2=>⟨by decide,by rw [h2];rfl⟩,fun h2=>by rw [h2];rfl⟩
structure X_startedR where
  (t:Int) (W:Wd)
def s_startedR:Sy.Spec:=⟨X_startedR,fun ⟨t,_⟩=> [.ptr 0 0 none 0 0,.v (.int .i64 t)],fun ⟨_,W⟩=>wMem W,fun ⟨_,W⟩=>TnP W,fun ⟨t,W⟩=> .v (.int .i64 (tsaE W t)),fun ⟨t,W⟩=>wMem (tsaW W t),
  fun args mem=>match args with| [a0,a1]=>some ⟨intD (a1),wMJD mem 0⟩|_=>none⟩
def c_startedR:Con:=⟨[true],s_startedR.g,none⟩
def V_startedR:X_startedR→Prop:=fun ⟨t,W⟩=>let a0:=W.nRam;let b0:=a0=a0;let c0:=W.nKinds;let d0:=c0=c0;let e0:=W.nSlots;let g0:=e0=e0;let h0:=W.nTasks;let k0:=h0=h0;let l0:=W.nLines;let o0:=l0=l0;let q0:=W.nBits;let u0:=q0=q0;let v0:=W.nCores;let w0:=v0=v0;let x0:=W.nReady;let y0:=x0=x0;let z0:=W.nTlbs;let a1:=z0=z0;let b1:=W.nDoms;let c1:=b1=b1;let d1:=W.time=W.time;let e1:=Wd.mk a0 (fun g1:Nat=>W.ram (0+g1)) c0 (fun h1:Nat=>W.kinds (0+h1)) e0 (fun k1:Nat=>W.slots (0+k1)) h0 (fun l1:Nat=>W.tasks (0+l1)) l0 (fun o1:Nat=>W.linesN (0+o1)) (fun q1:Nat=>fun u1:Nat=>W.lines (0+q1) (0+u1)) q0 (fun v1:Nat=>W.bits (0+v1)) v0 (fun w1:Nat=>W.cores (0+w1)) x0 (fun x1:Nat=>W.readyN (0+x1)) (fun y1:Nat=>fun z1:Nat=>W.ready (0+y1) (0+z1)) z0 (fun a2:Nat=>W.tlbsN (0+a2)) (fun b2:Nat=>fun c2:Nat=>W.tlbs (0+b2) (0+c2)) b1 (fun d2:Nat=>W.doms (0+d2)) W.time;let e2:=tmE e1 t;let g2:=e2 !=0;let h2:=tsaE W t;let k2:=0=0;let l2:=((((((((((True∧k2∧b0)∧k2∧d0)∧k2∧g0)∧k2∧k0)∧k2∧o0)∧k2∧u0)∧k2∧w0)∧k2∧y0)∧k2∧a1)∧k2∧c1)∧d1;let o2:=b0∧(∀q2:Nat,q2<a0→True∧W.ram q2=W.ram q2);let u2:=d0∧(∀v2:Nat,v2<c0→True∧W.kinds v2=W.kinds v2);let w2:=g0∧(∀x2:Nat,let y2:=W.slots x2;let z2:=y2.kind;let a3:=y2.base;let b3:=y2.len;let c3:=y2.mark;let d3:=y2.rights;let e3:=y2.badge;let g3:=y2.from_;x2<e0→((((((True∧z2=z2)∧a3=a3)∧b3=b3)∧c3=c3)∧d3=d3)∧e3=e3)∧g3=g3);let h3:=o0∧(∀k3:Nat,let l3:=W.linesN k3;k3<l0→True∧l3=l3∧(∀o3:Nat,o3<l3→True∧W.lines k3 o3=W.lines k3 o3));let q3:=u0∧(∀u3:Nat,u3<q0→True∧W.bits u3=W.bits u3);
    let v3:=w0∧(∀w3:Nat,w3<v0→True∧W.cores w3=W.cores w3);let x3:=(a1∧(∀y3:Nat,let z3:=W.tlbsN y3;y3<z0→True∧z3=z3∧(∀a4:Nat,let b4:=W.tlbs y3 a4;let c4:=b4.sp;let d4:=b4.pg;let e4:=b4.fr;let g4:=b4.wr;a4<z3→(((True∧c4=c4)∧d4=d4)∧e4=e4)∧g4=g4)))∧(c1∧(∀h4:Nat,h4<b1→True∧W.doms h4=W.doms h4))∧True;let k4:=l2∧o2∧u2∧w2∧(k0∧(∀l4:Nat,let o4:=W.tasks l4;let q4:=tsaW_tasks W t l4;l4<h0→(((((((((((((((((((True∧o4.r0=q4.r0)∧o4.r1=q4.r1)∧o4.r2=q4.r2)∧o4.r3=q4.r3)∧o4.r4=q4.r4)∧o4.r5=q4.r5)∧o4.r6=q4.r6)∧o4.r7=q4.r7)∧o4.pc=q4.pc)∧o4.st=q4.st)∧o4.prio=q4.prio)∧o4.node=q4.node)∧o4.space=q4.space)∧o4.helper=q4.helper)∧o4.loc=q4.loc)∧o4.word=q4.word)∧o4.badge=q4.badge)∧o4.owes=q4.owes)∧o4.core=q4.core)∧o4.dom=q4.dom))∧h3∧q3∧v3∧(y0∧(∀u4:Nat,let v4:=tsaW_readyN W t u4;u4<x0→True∧W.readyN u4=v4∧(∀w4:Nat,w4<v4→True∧W.ready u4 w4=tsaW_ready W t u4 w4)))∧x3;let x4:=Int.toNat t;let y4:=(W.tasks (0+x4)).st !=0;(((((((((((((True∧b0∧(∀z4:Nat,z4<a0→True∧W.ram (0+z4)=W.ram (0+z4)))∧d0∧(∀a5:Nat,let b5:=W.kinds (0+a5);a5<c0→True∧b5=b5))∧g0∧(∀c5:Nat,let d5:=W.slots (0+c5);let e5:=d5.kind;let g5:=d5.base;let h5:=d5.len;let k5:=d5.mark;let l5:=d5.rights;let o5:=d5.badge;let q5:=d5.from_;c5<e0→((((((True∧e5=e5)∧g5=g5)∧h5=h5)∧k5=k5)∧l5=l5)∧o5=o5)∧q5=q5))∧k0∧(∀u5:Nat,let v5:=W.tasks (0+u5);let w5:=v5.r0;let x5:=v5.r1;let y5:=v5.r2;let z5:=v5.r3;let a6:=v5.r4;let b6:=v5.r5;let c6:=v5.r6;let d6:=v5.r7;let e6:=v5.pc;let g6:=v5.st;let h6:=v5.prio;let k6:=v5.node;let l6:=v5.space;let o6:=v5.helper;let q6:=v5.loc;
    let u6:=v5.word;let v6:=v5.badge;let w6:=v5.owes;let x6:=v5.core;let y6:=v5.dom;u5<h0→(((((((((((((((((((True∧w5=w5)∧x5=x5)∧y5=y5)∧z5=z5)∧a6=a6)∧b6=b6)∧c6=c6)∧d6=d6)∧e6=e6)∧g6=g6)∧h6=h6)∧k6=k6)∧l6=l6)∧o6=o6)∧q6=q6)∧u6=u6)∧v6=v6)∧w6=w6)∧x6=x6)∧y6=y6))∧o0∧(∀z6:Nat,let a7:=W.linesN (0+z6);z6<l0→True∧a7=a7∧(∀b7:Nat,let c7:=W.lines (0+z6) (0+b7);b7<a7→True∧c7=c7)))∧u0∧(∀d7:Nat,d7<q0→True∧W.bits (0+d7)=W.bits (0+d7)))∧w0∧(∀e7:Nat,let g7:=W.cores (0+e7);e7<v0→True∧g7=g7))∧y0∧(∀h7:Nat,let k7:=W.readyN (0+h7);h7<x0→True∧k7=k7∧(∀l7:Nat,let o7:=W.ready (0+h7) (0+l7);l7<k7→True∧o7=o7)))∧a1∧(∀q7:Nat,let u7:=0+q7;let v7:=W.tlbsN u7;q7<z0→True∧v7=v7∧(∀w7:Nat,let x7:=W.tlbs u7 (0+w7);let y7:=x7.sp;let z7:=x7.pg;let a8:=x7.fr;let b8:=x7.wr;w7<v7→(((True∧y7=y7)∧z7=z7)∧a8=a8)∧b8=b8)))∧c1∧(∀c8:Nat,c8<b1→True∧W.doms (0+c8)=W.doms (0+c8)))∧d1)∧t=t∧True)∧True∧s_taskMay.match_1 (fun d8:X_taskMay=>Prop) (X_taskMay.mk e1 t) (fun e8:Wd=>fun g8:Int=>Szd e8))∧(g2=true→e2=h2∧k4)∧(g2=false→(0≤t∧t<(h0:Int))∧(y4=true→7=h2∧k4)∧(y4=false→((SV.ptr 0 0 none 0 0=SV.ptr 0 0 none 0 0∧t=t∧True)∧(l2∧o2∧u2∧w2∧(k0∧(∀h8:Nat,let k8:=W.tasks h8;let l8:=k8.prio;let o8:=k8.node;let q8:=k8.space;let r8:=k8.helper;let u8:=k8.loc;let v8:=k8.word;let w8:=k8.badge;let x8:=k8.owes;let y8:=k8.core;let z8:=k8.dom;h8<h0→(((((((((((((((((((True∧k8.r0=k8.r0)∧k8.r1=k8.r1)∧k8.r2=k8.r2)∧k8.r3=k8.r3)∧k8.r4=k8.r4)∧k8.r5=k8.r5)∧k8.r6=k8.r6)∧k8.r7=k8.r7)∧k8.pc=k8.pc)∧k8.st=k8.st)∧l8=l8)∧o8=o8)∧q8=q8)∧r8=r8)∧u8=u8)∧v8=v8)∧w8=w8)∧x8=x8)∧
    y8=y8)∧z8=z8))∧h3∧q3∧v3∧(y0∧(∀a9:Nat,let b9:=W.readyN a9;a9<x0→True∧b9=b9∧(∀c9:Nat,c9<b9→True∧W.ready a9 c9=W.ready a9 c9)))∧x3)∧s_woken.match_1 (fun d9:X_woken=>Prop) (X_woken.mk t W) (fun e9:Int=>fun g9:Wd=>WkP g9 e9))∧0=h2∧l2∧o2∧u2∧w2∧(k0∧(∀h9:Nat,let k9:=wkS W x4 h9;let l9:=tsaW_tasks W t h9;h9<h0→(((((((((((((((((((True∧k9.r0=l9.r0)∧k9.r1=l9.r1)∧k9.r2=l9.r2)∧k9.r3=l9.r3)∧k9.r4=l9.r4)∧k9.r5=l9.r5)∧k9.r6=l9.r6)∧k9.r7=l9.r7)∧k9.pc=l9.pc)∧k9.st=l9.st)∧k9.prio=l9.prio)∧k9.node=l9.node)∧k9.space=l9.space)∧k9.helper=l9.helper)∧k9.loc=l9.loc)∧k9.word=l9.word)∧k9.badge=l9.badge)∧k9.owes=l9.owes)∧k9.core=l9.core)∧k9.dom=l9.dom))∧h3∧q3∧v3∧(y0∧(∀o9:Nat,let q9:=tsaW_readyN W t o9;o9<x0→True∧wkN W x4 o9=q9∧(∀r9:Nat,r9<q9→True∧wkL W x4 o9 r9=tsaW_ready W t o9 r9)))∧x3))
set_option maxHeartbeats 1000000 in
theorem ok_startedR:FnOK Tryz.prog glN 58 c_startedR:=ok_of (.cons ok_woken (.cons ok_taskMay .nil)) false Tryz.call58 Tryz.func58 (fun _=> []) (V:=V_startedR) (fun _=>by kernel_rfl) fun ⟨t,W⟩ hp=>by
  dsimp only [s_startedR] at hp
  dsimp only [V_startedR,tn,w64]
  simp only [std,stb,eq_self,implies_true,Bool.cond_self]
  try simp only [wd_eta]
  have hI:=hp.i
  have z1:=hI.z.tasks
  refine ⟨hI.z,fun h=>?_,fun h=>?_⟩
  · have hq:(tmE W t==0)=false:=by simpa using h
    have e:tsaE W t=tmE W t:=by unfold tsaE;rw [hq];rfl
    have hc:(tsaE W t==0)=false:=by rw [e];exact hq
    refine ⟨e.symm,?_⟩
    have e_:=tsaW_f hc
    have e_tasks:tsaW_tasks W t=_:=congrArg Wd.tasks e_
    have e_readyN:tsaW_readyN W t=_:=congrArg Wd.readyN e_
    have e_ready:tsaW_ready W t=_:=congrArg Wd.ready e_
    simp only [e_tasks,e_readyN,e_ready]
    clear e_ e_tasks e_readyN e_ready
    repeat' (first|exact trivial|exact run20 rfl|rfl|refine And.intro ?_ ?_|intro _|fail)
  have hq:(tmE W t==0)=true:=by simpa using h
  obtain ⟨t0,t1,hk⟩:=tm_0 (eq_of_beq hq)
  refine ⟨⟨t0,by omega⟩,fun h2=>?_,fun h2=>?_⟩
  · have h2:((W.tasks t.toNat).st==0)=false:=by simpa using h2
    have e:tsaE W t=7:=by unfold tsaE;rw [hq,h2];rfl
    have hc:(tsaE W t==0)=false:=by rw [e];rfl
    refine ⟨e.symm,?_⟩
    have e_:=tsaW_f hc
    have e_tasks:tsaW_tasks W t=_:=congrArg Wd.tasks e_
    have e_readyN:tsaW_readyN W t=_:=congrArg Wd.readyN e_
    have e_ready:tsaW_ready W t=_:=congrArg Wd.ready e_
    simp only [e_tasks,e_readyN,e_ready]
    clear e_ e_tasks e_readyN e_ready
    repeat' (first|exact trivial|exact run20 rfl|rfl|refine And.intro ?_ ?_|intro _|fail)
  · have h2:((W.tasks t.toNat).st==0)=true:=by simpa using h2
    have e:tsaE W t=0:=by unfold tsaE;rw [hq,h2];rfl
    have hc:(tsaE W t==0)=true:=by rw [e];rfl
    refine ⟨inv_wkp hI (by decide) t0 (by omega),e.symm,?_⟩
    have e_:=tsaW_t hc
    have e_tasks:tsaW_tasks W t=_:=congrArg Wd.tasks e_
    have e_readyN:tsaW_readyN W t=_:=congrArg Wd.readyN e_
    have e_ready:tsaW_ready W t=_:=congrArg Wd.ready e_
    simp only [e_tasks,e_readyN,e_ready]
    clear e_ e_tasks e_readyN e_ready
    repeat' (first|exact trivial|exact run20 rfl|rfl|refine And.intro ?_ ?_|intro _|fail)
structure X_startP where
  (t:Int) (W:Wd)
def s_startP:Sy.Spec:=⟨X_startP,fun ⟨t,_⟩=> [.ptr 0 0 none 0 0,.v (.int .i64 t)],fun ⟨_,W⟩=>wMem W,fun ⟨_,W⟩=>TnP W,fun ⟨t,W⟩=> .er 35 116 (tsaE W t) (-1),fun ⟨t,W⟩=>wMem (tsaW W t),
  fun args mem=>match args with| [a0,a1]=>some ⟨intD (a1),wMJD mem 0⟩|_=>none⟩
def c_startP:Con:=⟨[true],s_startP.g,none⟩
def V_startP:X_startP→Prop:=fun ⟨t,W⟩=>let a0:=W.nRam;let b0:=a0=a0;let c0:=W.nKinds;let d0:=c0=c0;let e0:=W.nSlots;let g0:=e0=e0;let h0:=W.nTasks;let k0:=h0=h0;let l0:=W.nLines;let o0:=l0=l0;let q0:=W.nBits;let u0:=q0=q0;let v0:=W.nCores;let w0:=v0=v0;let x0:=W.nReady;let y0:=x0=x0;let z0:=W.nTlbs;let a1:=z0=z0;let b1:=W.nDoms;let c1:=b1=b1;let d1:=W.time=W.time;let e1:=Wd.mk a0 (fun g1:Nat=>W.ram (0+g1)) c0 (fun h1:Nat=>W.kinds (0+h1)) e0 (fun k1:Nat=>W.slots (0+k1)) h0 (fun l1:Nat=>W.tasks (0+l1)) l0 (fun o1:Nat=>W.linesN (0+o1)) (fun q1:Nat=>fun u1:Nat=>W.lines (0+q1) (0+u1)) q0 (fun v1:Nat=>W.bits (0+v1)) v0 (fun w1:Nat=>W.cores (0+w1)) x0 (fun x1:Nat=>W.readyN (0+x1)) (fun y1:Nat=>fun z1:Nat=>W.ready (0+y1) (0+z1)) z0 (fun a2:Nat=>W.tlbsN (0+a2)) (fun b2:Nat=>fun c2:Nat=>W.tlbs (0+b2) (0+c2)) b1 (fun d2:Nat=>W.doms (0+d2)) W.time;let e2:=tmE e1 t;let g2:=e2 !=0;let h2:=tsaE W t;let k2:=((-1):Int)=(-1);let l2:=0=0;let o2:=((((((((((True∧l2∧b0)∧l2∧d0)∧l2∧g0)∧l2∧k0)∧l2∧o0)∧l2∧u0)∧l2∧w0)∧l2∧y0)∧l2∧a1)∧l2∧c1)∧d1;let q2:=b0∧(∀u2:Nat,u2<a0→True∧W.ram u2=W.ram u2);let v2:=d0∧(∀w2:Nat,w2<c0→True∧W.kinds w2=W.kinds w2);let x2:=g0∧(∀y2:Nat,let z2:=W.slots y2;let a3:=z2.kind;let b3:=z2.base;let c3:=z2.len;let d3:=z2.mark;let e3:=z2.rights;let g3:=z2.badge;let h3:=z2.from_;y2<e0→((((((True∧a3=a3)∧b3=b3)∧c3=c3)∧d3=d3)∧e3=e3)∧g3=g3)∧h3=h3);let k3:=o0∧(∀l3:Nat,let o3:=W.linesN l3;l3<l0→True∧o3=o3∧(∀q3:Nat,q3<o3→True∧W.lines l3 q3=W.lines l3 q3));let u3:=u0∧(∀v3:Nat,v3<q0→True∧W.bits v3=W.bits v3);
    let w3:=w0∧(∀x3:Nat,x3<v0→True∧W.cores x3=W.cores x3);let y3:=(a1∧(∀z3:Nat,let a4:=W.tlbsN z3;z3<z0→True∧a4=a4∧(∀b4:Nat,let c4:=W.tlbs z3 b4;let d4:=c4.sp;let e4:=c4.pg;let g4:=c4.fr;let h4:=c4.wr;b4<a4→(((True∧d4=d4)∧e4=e4)∧g4=g4)∧h4=h4)))∧(c1∧(∀k4:Nat,k4<b1→True∧W.doms k4=W.doms k4))∧True;let l4:=o2∧q2∧v2∧x2∧(k0∧(∀o4:Nat,let q4:=W.tasks o4;let u4:=tsaW_tasks W t o4;o4<h0→(((((((((((((((((((True∧q4.r0=u4.r0)∧q4.r1=u4.r1)∧q4.r2=u4.r2)∧q4.r3=u4.r3)∧q4.r4=u4.r4)∧q4.r5=u4.r5)∧q4.r6=u4.r6)∧q4.r7=u4.r7)∧q4.pc=u4.pc)∧q4.st=u4.st)∧q4.prio=u4.prio)∧q4.node=u4.node)∧q4.space=u4.space)∧q4.helper=u4.helper)∧q4.loc=u4.loc)∧q4.word=u4.word)∧q4.badge=u4.badge)∧q4.owes=u4.owes)∧q4.core=u4.core)∧q4.dom=u4.dom))∧k3∧u3∧w3∧(y0∧(∀v4:Nat,let w4:=tsaW_readyN W t v4;v4<x0→True∧W.readyN v4=w4∧(∀x4:Nat,x4<w4→True∧W.ready v4 x4=tsaW_ready W t v4 x4)))∧y3;let y4:=Int.toNat t;let z4:=(W.tasks (0+y4)).st !=0;(((((((((((((True∧b0∧(∀a5:Nat,a5<a0→True∧W.ram (0+a5)=W.ram (0+a5)))∧d0∧(∀b5:Nat,let c5:=W.kinds (0+b5);b5<c0→True∧c5=c5))∧g0∧(∀d5:Nat,let e5:=W.slots (0+d5);let g5:=e5.kind;let h5:=e5.base;let k5:=e5.len;let l5:=e5.mark;let o5:=e5.rights;let q5:=e5.badge;let u5:=e5.from_;d5<e0→((((((True∧g5=g5)∧h5=h5)∧k5=k5)∧l5=l5)∧o5=o5)∧q5=q5)∧u5=u5))∧k0∧(∀v5:Nat,let w5:=W.tasks (0+v5);let x5:=w5.r0;let y5:=w5.r1;let z5:=w5.r2;let a6:=w5.r3;let b6:=w5.r4;let c6:=w5.r5;let d6:=w5.r6;let e6:=w5.r7;let g6:=w5.pc;let h6:=w5.st;let k6:=w5.prio;let l6:=w5.node;let o6:=w5.space;let q6:=w5.helper;let u6:=w5.loc;
    let v6:=w5.word;let w6:=w5.badge;let x6:=w5.owes;let y6:=w5.core;let z6:=w5.dom;v5<h0→(((((((((((((((((((True∧x5=x5)∧y5=y5)∧z5=z5)∧a6=a6)∧b6=b6)∧c6=c6)∧d6=d6)∧e6=e6)∧g6=g6)∧h6=h6)∧k6=k6)∧l6=l6)∧o6=o6)∧q6=q6)∧u6=u6)∧v6=v6)∧w6=w6)∧x6=x6)∧y6=y6)∧z6=z6))∧o0∧(∀a7:Nat,let b7:=W.linesN (0+a7);a7<l0→True∧b7=b7∧(∀c7:Nat,let d7:=W.lines (0+a7) (0+c7);c7<b7→True∧d7=d7)))∧u0∧(∀e7:Nat,e7<q0→True∧W.bits (0+e7)=W.bits (0+e7)))∧w0∧(∀g7:Nat,let h7:=W.cores (0+g7);g7<v0→True∧h7=h7))∧y0∧(∀k7:Nat,let l7:=W.readyN (0+k7);k7<x0→True∧l7=l7∧(∀o7:Nat,let q7:=W.ready (0+k7) (0+o7);o7<l7→True∧q7=q7)))∧a1∧(∀u7:Nat,let v7:=0+u7;let w7:=W.tlbsN v7;u7<z0→True∧w7=w7∧(∀x7:Nat,let y7:=W.tlbs v7 (0+x7);let z7:=y7.sp;let a8:=y7.pg;let b8:=y7.fr;let c8:=y7.wr;x7<w7→(((True∧z7=z7)∧a8=a8)∧b8=b8)∧c8=c8)))∧c1∧(∀d8:Nat,d8<b1→True∧W.doms (0+d8)=W.doms (0+d8)))∧d1)∧t=t∧True)∧True∧s_task_.match_1 (fun e8:X_task_=>Prop) (X_task_.mk e1 t) (fun g8:Wd=>fun h8:Int=>Szd g8))∧(g2=true→(e2=h2∧k2)∧l4)∧(g2=false→(0≤t∧t<(h0:Int))∧(z4=true→((7:Int)≠0∧h2=7∧k2)∧l4)∧(z4=false→((SV.ptr 0 0 none 0 0=SV.ptr 0 0 none 0 0∧t=t∧True)∧(o2∧q2∧v2∧x2∧(k0∧(∀k8:Nat,let l8:=W.tasks k8;let o8:=l8.prio;let q8:=l8.node;let r8:=l8.space;let u8:=l8.helper;let v8:=l8.loc;let w8:=l8.word;let x8:=l8.badge;let y8:=l8.owes;let z8:=l8.core;let a9:=l8.dom;k8<h0→(((((((((((((((((((True∧l8.r0=l8.r0)∧l8.r1=l8.r1)∧l8.r2=l8.r2)∧l8.r3=l8.r3)∧l8.r4=l8.r4)∧l8.r5=l8.r5)∧l8.r6=l8.r6)∧l8.r7=l8.r7)∧l8.pc=l8.pc)∧l8.st=l8.st)∧o8=o8)∧q8=q8)∧r8=r8)∧u8=u8)∧v8=v8)∧w8=w8)∧
    x8=x8)∧y8=y8)∧z8=z8)∧a9=a9))∧k3∧u3∧w3∧(y0∧(∀b9:Nat,let c9:=W.readyN b9;b9<x0→True∧c9=c9∧(∀d9:Nat,d9<c9→True∧W.ready b9 d9=W.ready b9 d9)))∧y3)∧s_wake.match_1 (fun e9:X_wake=>Prop) (X_wake.mk t W) (fun g9:Int=>fun h9:Wd=>WkP h9 g9))∧(h2=0∧k2)∧o2∧q2∧v2∧x2∧(k0∧(∀k9:Nat,let l9:=wkS W y4 k9;let o9:=tsaW_tasks W t k9;k9<h0→(((((((((((((((((((True∧l9.r0=o9.r0)∧l9.r1=o9.r1)∧l9.r2=o9.r2)∧l9.r3=o9.r3)∧l9.r4=o9.r4)∧l9.r5=o9.r5)∧l9.r6=o9.r6)∧l9.r7=o9.r7)∧l9.pc=o9.pc)∧l9.st=o9.st)∧l9.prio=o9.prio)∧l9.node=o9.node)∧l9.space=o9.space)∧l9.helper=o9.helper)∧l9.loc=o9.loc)∧l9.word=o9.word)∧l9.badge=o9.badge)∧l9.owes=o9.owes)∧l9.core=o9.core)∧l9.dom=o9.dom))∧k3∧u3∧w3∧(y0∧(∀q9:Nat,let r9:=tsaW_readyN W t q9;q9<x0→True∧wkN W y4 q9=r9∧(∀u9:Nat,u9<r9→True∧wkL W y4 q9 u9=tsaW_ready W t q9 u9)))∧y3))
set_option maxHeartbeats 1000000 in
theorem ok_startP:FnOK Tryz.prog glN 115 c_startP:=ok_of (.cons ok_wake (.cons ok_task_ .nil)) false Tryz.call115 Tryz.func115 (fun _=> []) (V:=V_startP) (fun _=>by kernel_rfl) fun ⟨t,W⟩ hp=>by
  dsimp only [s_startP] at hp
  dsimp only [V_startP,tn,w64]
  simp only [std,stb,eq_self,implies_true,Bool.cond_self]
  try simp only [wd_eta]
  have hI:=hp.i
  have z1:=hI.z.tasks
  refine ⟨hI.z,fun h=>?_,fun h=>?_⟩
  · have hq:(tmE W t==0)=false:=by simpa using h
    have e:tsaE W t=tmE W t:=by unfold tsaE;rw [hq];rfl
    have hc:(tsaE W t==0)=false:=by rw [e];exact hq
    refine ⟨e.symm,?_⟩
    have e_:=tsaW_f hc
    have e_tasks:tsaW_tasks W t=_:=congrArg Wd.tasks e_
    have e_readyN:tsaW_readyN W t=_:=congrArg Wd.readyN e_
    have e_ready:tsaW_ready W t=_:=congrArg Wd.ready e_
    simp only [e_tasks,e_readyN,e_ready]
    clear e_ e_tasks e_readyN e_ready
    repeat' (first|exact trivial|exact run20 rfl|rfl|refine And.intro ?_ ?_|intro _|fail)
  have hq:(tmE W t==0)=true:=by simpa using h
  obtain ⟨t0,t1,hk⟩:=tm_0 (eq_of_beq hq)
  refine ⟨⟨t0,by omega⟩,fun h2=>?_,fun h2=>?_⟩
  · have h2:((W.tasks t.toNat).st==0)=false:=by simpa using h2
    have e:tsaE W t=7:=by unfold tsaE;rw [hq,h2];rfl
    have hc:(tsaE W t==0)=false:=by rw [e];rfl
    refine ⟨⟨by decide,e⟩,?_⟩
    have e_:=tsaW_f hc
    have e_tasks:tsaW_tasks W t=_:=congrArg Wd.tasks e_
    have e_readyN:tsaW_readyN W t=_:=congrArg Wd.readyN e_
    have e_ready:tsaW_ready W t=_:=congrArg Wd.ready e_
    simp only [e_tasks,e_readyN,e_ready]
    clear e_ e_tasks e_readyN e_ready
    repeat' (first|exact trivial|exact run20 rfl|rfl|refine And.intro ?_ ?_|intro _|fail)
  · have h2:((W.tasks t.toNat).st==0)=true:=by simpa using h2
    have e:tsaE W t=0:=by unfold tsaE;rw [hq,h2];rfl
    have hc:(tsaE W t==0)=true:=by rw [e];rfl
    refine ⟨inv_wkp hI (by decide) t0 (by omega),e,?_⟩
    have e_:=tsaW_t hc
    have e_tasks:tsaW_tasks W t=_:=congrArg Wd.tasks e_
    have e_readyN:tsaW_readyN W t=_:=congrArg Wd.readyN e_
    have e_ready:tsaW_ready W t=_:=congrArg Wd.ready e_
    simp only [e_tasks,e_readyN,e_ready]
    clear e_ e_tasks e_readyN e_ready
    repeat' (first|exact trivial|exact run20 rfl|rfl|refine And.intro ?_ ?_|intro _|fail)
structure X_rankP where
  (t p:Int) (W:Wd)
def s_rankP:Sy.Spec:=⟨X_rankP,fun ⟨t,p,_⟩=> [.ptr 0 0 none 0 0,.v (.int .i64 t),.v (.int .i64 p)],fun ⟨_,_,W⟩=>wMem W,fun ⟨_,_,W⟩=>TnP W,fun ⟨t,p,W⟩=> .er 35 116 (traE W t p) (-1),fun ⟨t,p,W⟩=>wMem (traW W t p),
  fun args mem=>match args with| [a0,a1,a2]=>some ⟨intD (a1),intD (a2),wMJD mem 0⟩|_=>none⟩
def c_rankP:Con:=⟨[true],s_rankP.g,none⟩
def V_rankP:X_rankP→Prop:=fun ⟨t,p,W⟩=>let a0:=W.nRam;let b0:=a0=a0;let c0:=W.nKinds;let d0:=c0=c0;let e0:=W.nSlots;let g0:=e0=e0;let h0:=W.nTasks;let k0:=h0=h0;let l0:=W.nLines;let o0:=l0=l0;let q0:=W.nBits;let u0:=q0=q0;let v0:=W.nCores;let w0:=v0=v0;let x0:=W.nReady;let y0:=x0=x0;let z0:=W.nTlbs;let a1:=z0=z0;let b1:=W.nDoms;let c1:=b1=b1;let d1:=W.time;let e1:=d1=d1;let g1:=t=t∧True;let h1:=Wd.mk a0 (fun k1:Nat=>W.ram (0+k1)) c0 (fun l1:Nat=>W.kinds (0+l1)) e0 (fun o1:Nat=>W.slots (0+o1)) h0 (fun q1:Nat=>W.tasks (0+q1)) l0 (fun u1:Nat=>W.linesN (0+u1)) (fun v1:Nat=>fun w1:Nat=>W.lines (0+v1) (0+w1)) q0 (fun x1:Nat=>W.bits (0+x1)) v0 (fun y1:Nat=>W.cores (0+y1)) x0 (fun z1:Nat=>W.readyN (0+z1)) (fun a2:Nat=>fun b2:Nat=>W.ready (0+a2) (0+b2)) z0 (fun c2:Nat=>W.tlbsN (0+c2)) (fun d2:Nat=>fun e2:Nat=>W.tlbs (0+d2) (0+e2)) b1 (fun g2:Nat=>W.doms (0+g2)) d1;let h2:=tmE h1 t;let k2:=h2 !=0;let l2:=traE W t p;let o2:=((-1):Int)=(-1);let q2:=0=0;let u2:=((((((((((True∧q2∧b0)∧q2∧d0)∧q2∧g0)∧q2∧k0)∧q2∧o0)∧q2∧u0)∧q2∧w0)∧q2∧y0)∧q2∧a1)∧q2∧c1)∧e1;let v2:=b0∧(∀w2:Nat,w2<a0→True∧W.ram w2=W.ram w2);let x2:=d0∧(∀y2:Nat,y2<c0→True∧W.kinds y2=W.kinds y2);let z2:=g0∧(∀a3:Nat,let b3:=W.slots a3;let c3:=b3.kind;let d3:=b3.base;let e3:=b3.len;let g3:=b3.mark;let h3:=b3.rights;let k3:=b3.badge;let l3:=b3.from_;a3<e0→((((((True∧c3=c3)∧d3=d3)∧e3=e3)∧g3=g3)∧h3=h3)∧k3=k3)∧l3=l3);let o3:=o0∧(∀q3:Nat,let u3:=W.linesN q3;q3<l0→True∧u3=u3∧(∀v3:Nat,v3<u3→True∧W.lines q3 v3=W.lines q3 v3));let w3:=u0∧(∀x3:Nat,x3<q0→True∧W.bits x3=W.bits x3);
    let y3:=w0∧(∀z3:Nat,z3<v0→True∧W.cores z3=W.cores z3);let a4:=(a1∧(∀b4:Nat,let c4:=W.tlbsN b4;b4<z0→True∧c4=c4∧(∀d4:Nat,let e4:=W.tlbs b4 d4;let g4:=e4.sp;let h4:=e4.pg;let k4:=e4.fr;let l4:=e4.wr;d4<c4→(((True∧g4=g4)∧h4=h4)∧k4=k4)∧l4=l4)))∧(c1∧(∀o4:Nat,o4<b1→True∧W.doms o4=W.doms o4))∧True;let q4:=o3∧w3∧y3∧(y0∧(∀u4:Nat,let v4:=traW_readyN W t p u4;u4<x0→True∧W.readyN u4=v4∧(∀w4:Nat,w4<v4→True∧W.ready u4 w4=traW_ready W t p u4 w4)))∧a4;let x4:=u2∧v2∧x2∧z2∧(k0∧(∀y4:Nat,let z4:=W.tasks y4;let a5:=traW_tasks W t p y4;y4<h0→(((((((((((((((((((True∧z4.r0=a5.r0)∧z4.r1=a5.r1)∧z4.r2=a5.r2)∧z4.r3=a5.r3)∧z4.r4=a5.r4)∧z4.r5=a5.r5)∧z4.r6=a5.r6)∧z4.r7=a5.r7)∧z4.pc=a5.pc)∧z4.st=a5.st)∧z4.prio=a5.prio)∧z4.node=a5.node)∧z4.space=a5.space)∧z4.helper=a5.helper)∧z4.loc=a5.loc)∧z4.word=a5.word)∧z4.badge=a5.badge)∧z4.owes=a5.owes)∧z4.core=a5.core)∧z4.dom=a5.dom))∧q4;let b5:=cond (decide (p<0)) true (decide (4≤p));let c5:=Int.toNat t;let d5:=0+c5;let e5:=W.tasks d5;let g5:Int:=e5.core*4;let h5:Int:=g5+e5.prio;let k5:=0+Int.toNat h5;let l5:=W.readyN k5;let o5:=l5=l5;let q5:=idxB l5 (fun u5:Nat=>t==W.ready k5 (0+u5));let v5:=decide (0≤q5);let w5:=v5=true;let x5:Int:=q5+1;let y5:=Int.toNat q5;let z5:=(y5:Int);let a6:=W.ready k5;let b6:=SV.ptr 0 0 none 0 0=SV.ptr 0 0 none 0 0∧g1;
    let c6:=k0∧(∀d6:Nat,let e6:=W.tasks d6;let g6:Int:=cond (Nat.beq d6 d5) p e6.prio;let h6:=e6.node;let k6:=e6.space;let l6:=e6.helper;let o6:=e6.loc;let q6:=e6.word;let u6:=e6.badge;let v6:=e6.owes;let w6:=e6.core;let x6:=e6.dom;d6<h0→(((((((((((((((((((True∧e6.r0=e6.r0)∧e6.r1=e6.r1)∧e6.r2=e6.r2)∧e6.r3=e6.r3)∧e6.r4=e6.r4)∧e6.r5=e6.r5)∧e6.r6=e6.r6)∧e6.r7=e6.r7)∧e6.pc=e6.pc)∧e6.st=e6.st)∧g6=g6)∧h6=h6)∧k6=k6)∧l6=l6)∧o6=o6)∧q6=q6)∧u6=u6)∧v6=v6)∧w6=w6)∧x6=x6);let y6:=l5-1;let z6:=Wd.mk a0 W.ram c0 W.kinds e0 W.slots h0 (fun a7:Nat=>let b7:=W.tasks a7;Run.mk b7.r0 b7.r1 b7.r2 b7.r3 b7.r4 b7.r5 b7.r6 b7.r7 b7.pc b7.st (cond (Nat.beq a7 d5) p b7.prio) b7.node b7.space b7.helper b7.loc b7.word b7.badge b7.owes b7.core b7.dom) l0 W.linesN W.lines q0 W.bits v0 W.cores x0 (fun c7:Nat=>cond (Nat.beq c7 k5) y6 (W.readyN c7)) (fun d7:Nat=>fun e7:Nat=>cond (Nat.beq d7 k5) (dlF l5 a6 y5 e7) (W.ready d7 e7)) z0 W.tlbsN W.tlbs b1 W.doms d1;let g7:=l2=0∧o2;let h7:=v5=false;let k7:=k0∧(∀l7:Nat,let o7:=W.tasks l7;let q7:=traW_tasks W t p l7;l7<h0→(((((((((((((((((((True∧o7.r0=q7.r0)∧o7.r1=q7.r1)∧o7.r2=q7.r2)∧o7.r3=q7.r3)∧o7.r4=q7.r4)∧o7.r5=q7.r5)∧o7.r6=q7.r6)∧o7.r7=q7.r7)∧o7.pc=q7.pc)∧o7.st=q7.st)∧cond (Nat.beq l7 d5) p o7.prio=q7.prio)∧o7.node=q7.node)∧o7.space=q7.space)∧o7.helper=q7.helper)∧o7.loc=q7.loc)∧o7.word=q7.word)∧o7.badge=q7.badge)∧o7.owes=q7.owes)∧o7.core=q7.core)∧o7.dom=q7.dom);
    let u7:=Wd.mk a0 W.ram c0 W.kinds e0 W.slots h0 (fun v7:Nat=>let w7:=W.tasks v7;Run.mk w7.r0 w7.r1 w7.r2 w7.r3 w7.r4 w7.r5 w7.r6 w7.r7 w7.pc w7.st (cond (Nat.beq v7 d5) p w7.prio) w7.node w7.space w7.helper w7.loc w7.word w7.badge w7.owes w7.core w7.dom) l0 W.linesN W.lines q0 W.bits v0 W.cores x0 W.readyN W.ready z0 W.tlbsN W.tlbs b1 W.doms d1;(((((((((((((True∧b0∧(∀x7:Nat,x7<a0→True∧W.ram (0+x7)=W.ram (0+x7)))∧d0∧(∀y7:Nat,let z7:=W.kinds (0+y7);y7<c0→True∧z7=z7))∧g0∧(∀a8:Nat,let b8:=W.slots (0+a8);let c8:=b8.kind;let d8:=b8.base;let e8:=b8.len;let g8:=b8.mark;let h8:=b8.rights;let k8:=b8.badge;let l8:=b8.from_;a8<e0→((((((True∧c8=c8)∧d8=d8)∧e8=e8)∧g8=g8)∧h8=h8)∧k8=k8)∧l8=l8))∧k0∧(∀o8:Nat,let q8:=W.tasks (0+o8);let r8:=q8.r0;let u8:=q8.r1;let v8:=q8.r2;let w8:=q8.r3;let x8:=q8.r4;let y8:=q8.r5;let z8:=q8.r6;let a9:=q8.r7;let b9:=q8.pc;let c9:=q8.st;let d9:=q8.prio;let e9:=q8.node;let g9:=q8.space;let h9:=q8.helper;let k9:=q8.loc;let l9:=q8.word;let o9:=q8.badge;let q9:=q8.owes;let r9:=q8.core;let u9:=q8.dom;o8<h0→(((((((((((((((((((True∧r8=r8)∧u8=u8)∧v8=v8)∧w8=w8)∧x8=x8)∧y8=y8)∧z8=z8)∧a9=a9)∧b9=b9)∧c9=c9)∧d9=d9)∧e9=e9)∧g9=g9)∧h9=h9)∧k9=k9)∧l9=l9)∧o9=o9)∧q9=q9)∧r9=r9)∧u9=u9))∧o0∧(∀v9:Nat,let w9:=W.linesN (0+v9);v9<l0→True∧w9=w9∧(∀x9:Nat,let y9:=W.lines (0+v9) (0+x9);x9<w9→True∧y9=y9)))∧u0∧(∀z9:Nat,z9<q0→True∧W.bits (0+z9)=W.bits (0+z9)))∧w0∧(∀a10:Nat,let b10:=W.cores (0+a10);a10<v0→True∧b10=b10))∧y0∧(∀c10:Nat,let d10:=W.readyN (0+c10);c10<x0→True∧d10=d10∧(∀e10:Nat,
    let g10:=W.ready (0+c10) (0+e10);e10<d10→True∧g10=g10)))∧a1∧(∀h10:Nat,let k10:=0+h10;let l10:=W.tlbsN k10;h10<z0→True∧l10=l10∧(∀o10:Nat,let q10:=W.tlbs k10 (0+o10);let r10:=q10.sp;let u10:=q10.pg;let v10:=q10.fr;let w10:=q10.wr;o10<l10→(((True∧r10=r10)∧u10=u10)∧v10=v10)∧w10=w10)))∧c1∧(∀x10:Nat,x10<b1→True∧W.doms (0+x10)=W.doms (0+x10)))∧e1)∧g1)∧True∧s_task_.match_1 (fun y10:X_task_=>Prop) (X_task_.mk h1 t) (fun z10:Wd=>fun a11:Int=>Szd z10))∧(k2=true→(h2=l2∧o2)∧x4)∧(k2=false→(b5=true→((2:Int)≠0∧l2=2∧o2)∧x4)∧(b5=false→(0≤t∧t<(h0:Int))∧tn 8 (w64 g5=g5∧tn 4 (w64 h5=h5∧(0≤h5∧h5<(x0:Int))∧(((o5∧(∀b11:Nat,b11<l5→True∧a6 (0+b11)=a6 (0+b11)))∧g1)∧True∧s_indexI.match_1 (fun c11:X_indexI=>Prop) (X_indexI.mk l5 (fun d11:Nat=>a6 (0+d11)) t) (fun e11:Nat=>fun g11:∀h11:Nat,Int=>fun k11:Int=>e11≤100000))∧(w5→w64 x5=x5∧(((q2∧o5)∧q5=z5∧x5=z5+1∧True)∧((o5∧(∀l11:Nat,l11<l5→True∧a6 l11=a6 l11))∧True)∧s_delI.match_1 (fun o11:X_delI=>Prop) (X_delI.mk l5 y5 a6) (fun q11:Nat=>fun r11:Nat=>fun u11:∀v11:Nat,Int=>r11<q11))∧(k5=k5∧(∀w11:Nat,Nat.beq 1 1=true))∧(∀x11:Nat,false=false)∧(w5→(b6∧(u2∧v2∧x2∧z2∧c6∧o3∧w3∧y3∧(y0∧(∀y11:Nat,let z11:=Nat.beq y11 k5;let a12:=cond z11 y6 (W.readyN y11);y11<x0→True∧a12=a12∧(∀b12:Nat,let c12:Int:=cond z11 (dlF l5 a6 y5 b12) (W.ready y11 b12);b12<a12→True∧c12=c12)))∧a4)∧s_wake.match_1 (fun d12:X_wake=>Prop) (X_wake.mk t z6) (fun e12:Int=>fun g12:Wd=>WkP g12 e12))∧g7∧u2∧v2∧x2∧z2∧(k0∧(∀h12:Nat,let k12:=wkS z6 c5 h12;let l12:=traW_tasks W t p h12;h12<h0→
    (((((((((((((((((((True∧k12.r0=l12.r0)∧k12.r1=l12.r1)∧k12.r2=l12.r2)∧k12.r3=l12.r3)∧k12.r4=l12.r4)∧k12.r5=l12.r5)∧k12.r6=l12.r6)∧k12.r7=l12.r7)∧k12.pc=l12.pc)∧k12.st=l12.st)∧k12.prio=l12.prio)∧k12.node=l12.node)∧k12.space=l12.space)∧k12.helper=l12.helper)∧k12.loc=l12.loc)∧k12.word=l12.word)∧k12.badge=l12.badge)∧k12.owes=l12.owes)∧k12.core=l12.core)∧k12.dom=l12.dom))∧o3∧w3∧y3∧(y0∧(∀o12:Nat,let q12:=traW_readyN W t p o12;o12<x0→True∧wkN z6 c5 o12=q12∧(∀r12:Nat,r12<q12→True∧wkL z6 c5 o12 r12=traW_ready W t p o12 r12)))∧a4)∧(h7→g7∧u2∧v2∧x2∧z2∧k7∧o3∧w3∧y3∧(y0∧(∀u12:Nat,let v12:=traW_readyN W t p u12;u12<x0→True∧cond (Nat.beq u12 k5) y6 (W.readyN u12)=v12∧(∀w12:Nat,w12<v12→True∧cond (Nat.beq u12 k5) (dlF l5 a6 y5 w12) (W.ready u12 w12)=traW_ready W t p u12 w12)))∧a4))∧(h7→(∀x12:Nat,false=false)∧(w5→(b6∧(u2∧v2∧x2∧z2∧c6∧o3∧w3∧y3∧(y0∧(∀y12:Nat,let z12:=W.readyN y12;y12<x0→True∧z12=z12∧(∀a13:Nat,a13<z12→True∧W.ready y12 a13=W.ready y12 a13)))∧a4)∧s_wake.match_1 (fun b13:X_wake=>Prop) (X_wake.mk t u7) (fun c13:Int=>fun d13:Wd=>WkP d13 c13))∧g7∧u2∧v2∧x2∧z2∧(k0∧(∀e13:Nat,let g13:=wkS u7 c5 e13;let h13:=traW_tasks W t p e13;e13<h0→(((((((((((((((((((True∧g13.r0=h13.r0)∧g13.r1=h13.r1)∧g13.r2=h13.r2)∧g13.r3=h13.r3)∧g13.r4=h13.r4)∧g13.r5=h13.r5)∧g13.r6=h13.r6)∧g13.r7=h13.r7)∧g13.pc=h13.pc)∧g13.st=h13.st)∧g13.prio=h13.prio)∧g13.node=h13.node)∧g13.space=h13.space)∧g13.helper=h13.helper)∧g13.loc=h13.loc)∧g13.word=h13.word)∧g13.badge=h13.badge)∧g13.owes=h13.owes)∧g13.core=h13.core)∧
    g13.dom=h13.dom))∧o3∧w3∧y3∧(y0∧(∀k13:Nat,let l13:=traW_readyN W t p k13;k13<x0→True∧wkN u7 c5 k13=l13∧(∀o13:Nat,o13<l13→True∧wkL u7 c5 k13 o13=traW_ready W t p k13 o13)))∧a4)∧(h7→g7∧u2∧v2∧x2∧z2∧k7∧q4))))))
set_option maxHeartbeats 2000000 in
theorem ok_rankP:FnOK Tryz.prog glN 119 c_rankP:=ok_of (.cons ok_wake (.cons ok_task_ (.cons ok_indexI (.cons ok_delI .nil)))) false Tryz.call119 Tryz.func119 (fun _=> []) (V:=V_rankP) (fun _=>by kernel_rfl) fun ⟨t,p,W⟩ hp=>by
  dsimp only [s_rankP] at hp
  dsimp only [V_rankP,tn,w64]
  simp only [std,stb,eq_self,implies_true,Bool.cond_self]
  try simp only [wd_eta]
  simp only [lit_prio]
  have hI:=hp.i
  have z1:=hI.z.tasks
  have z2:=hI.z.ready
  have z5:=hI.z.c1
  have q4:decide (4≤p)=decide (3<p):=decide_eq_decide.2 (by omega)
  refine ⟨hI.z,fun h=>?_,fun h=>?_⟩
  · have hq:(tmE W t==0)=false:=by simpa using h
    have e:traE W t p=tmE W t:=by unfold traE;rw [hq];rfl
    have hc:(traE W t p==0)=false:=by rw [e];exact hq
    refine ⟨e.symm,?_⟩
    have e_:=traW_f hc
    have e_tasks:traW_tasks W t p=_:=congrArg Wd.tasks e_
    have e_readyN:traW_readyN W t p=_:=congrArg Wd.readyN e_
    have e_ready:traW_ready W t p=_:=congrArg Wd.ready e_
    simp only [e_tasks,e_readyN,e_ready]
    clear e_ e_tasks e_readyN e_ready
    repeat' (first|exact trivial|exact run20 rfl|rfl|refine And.intro ?_ ?_|intro _|fail)
  have hq:(tmE W t==0)=true:=by simpa using h
  obtain ⟨t0,t1,hk⟩:=tm_0 (eq_of_beq hq)
  rw [q4]
  refine ⟨fun h2=>?_,fun h2=>?_⟩
  · have h2:farB p 3=true:=h2
    have e:traE W t p=2:=by unfold traE;rw [hq,h2];rfl
    have hc:(traE W t p==0)=false:=by rw [e];rfl
    refine ⟨⟨by decide,e⟩,?_⟩
    have e_:=traW_f hc
    have e_tasks:traW_tasks W t p=_:=congrArg Wd.tasks e_
    have e_readyN:traW_readyN W t p=_:=congrArg Wd.readyN e_
    have e_ready:traW_ready W t p=_:=congrArg Wd.ready e_
    simp only [e_tasks,e_readyN,e_ready]
    clear e_ e_tasks e_readyN e_ready
    repeat' (first|exact trivial|exact run20 rfl|rfl|refine And.intro ?_ ?_|intro _|fail)
  have h2:farB p 3=false:=h2
  have hpr:=farB_in h2
  have e:traE W t p=0:=by unfold traE;rw [hq,h2];rfl
  have hc:(traE W t p==0)=true:=by rw [e];rfl
  obtain ⟨T,rfl⟩: ∃T:Nat,t=T:=⟨t.toNat,by omega⟩
  simp only [Int.toNat_natCast] at*
  have hk1:=hI.tk T (by omega)
  have hcr:=hk1.core
  have hpi:=hk1.prio
  have eK:((W.tasks T).core*4+(W.tasks T).prio).toNat=trkK W T:=rfl
  have hrd:=(hI.rd (trkK W T) (by rw [←eK];omega)).1
  simp only [eK]
  rw [tr_idx]
  refine ⟨⟨t0,by omega⟩,wr_in (by omega) (by omega),wr_in (by omega) (by omega),⟨by omega,by omega⟩,by omega,fun h3=>?_,fun h3=>?_⟩
  · have hlt:trkI W T<W.readyN (trkK W T):=Nat.le_of_ble_eq_true h3
    simp only [tr_at h3,Int.toNat_natCast]
    have hT:tprS W T p T={W.tasks T with prio:=p}:=updF_at
    obtain ⟨A,hA⟩: ∃A:Wd,A={W with tasks:=tprS W T p,readyN:=trdN W T,ready:=fun d e=>bif Nat.beq d (trkK W T) then dlF (W.readyN (trkK W T)) (W.ready (trkK W T)) (trkI W T) e else W.ready d e}:=⟨_,rfl⟩
    have cg:=wok_congr (A:=A) (B:=tprW (trdW W T) T p) (t:=T) (by rw [hA];rfl) (by rw [hA];rfl) (fun i k hk=>by
      rw [hA]
      show (bif Nat.beq i (trkK W T) then dlF (W.readyN (trkK W T)) (W.ready (trkK W T)) (trkI W T) k else W.ready i k)=trdL W T i k
      have hk:k<trdN W T i:=hk
      unfold trdL
      unfold trdN at hk
      rcases Decidable.em (i=trkK W T) with e|e
      · subst e
        rw [updF_at] at hk
        rw [Nat.beq_refl,updF_at]
        unfold dlF
        rw [blt_t hk];rfl
      · rw [beq_ne e,updF_ne e];rfl)
    have hZ:rkZ (A.tasks T)=(W.tasks T).core*4+p:=by rw [hA];show rkZ (tprS W T p T)=_;rw [hT];rfl
    have hwk:WkP A (T:Int):=by
      refine ⟨t0,by rw [hA];show (T:Int)<W.nTasks;omega,by show 0≤rkZ (A.tasks T);rw [hZ];omega,by show rkZ (A.tasks T)<A.nReady;rw [hZ,hA];show (W.tasks T).core*4+p<W.nReady;omega,?_,?_,?_,?_,?_⟩
      · show 0≤(A.tasks T).core;rw [hA];show 0≤(tprS W T p T).core;rw [hT];exact hcr.1
      · show (A.tasks T).core≤100;rw [hA];show (tprS W T p T).core≤100;rw [hT];show (W.tasks T).core≤100;omega
      · show 0≤(A.tasks T).prio;rw [hA];show 0≤(tprS W T p T).prio;rw [hT];exact hpr.1
      · show (A.tasks T).prio≤100;rw [hA];show (tprS W T p T).prio≤100;rw [hT];show p≤100;omega
      · show A.readyN (rkOf (A.tasks T))≤100000
        have hi:rkOf (A.tasks T)<W.nReady:=by unfold rkOf;rw [hZ];omega
        have h5:=(hI.rd _ hi).1
        have h6:A.readyN (rkOf (A.tasks T))≤W.readyN (rkOf (A.tasks T)):=by
          generalize rkOf (A.tasks T)=q
          rw [hA];show trdN W T q≤W.readyN q
          unfold trdN
          rcases Decidable.em (q=trkK W T) with e|e
          · subst e;rw [updF_at];omega
          · rw [updF_ne e];exact Nat.le_refl _
        omega
    rw [hA] at hwk cg
    refine ⟨wr_in (by omega) (by omega),⟨⟨trivial,trivial⟩,hlt⟩,fun _=>rfl,fun _=>⟨hwk,e,?_⟩,fun h=>by rw [h3] at h;cases h⟩
    have e_tasks:traW_tasks W T p=_:=congrArg Wd.tasks ((traW_t (t:=(T:Int)) hc).trans (trbW_t (t:=(T:Int)) (p:=p) h3))
    have e_readyN:traW_readyN W T p=_:=congrArg Wd.readyN ((traW_t (t:=(T:Int)) hc).trans (trbW_t (t:=(T:Int)) (p:=p) h3))
    have e_ready:traW_ready W T p=_:=congrArg Wd.ready ((traW_t (t:=(T:Int)) hc).trans (trbW_t (t:=(T:Int)) (p:=p) h3))
    simp only [e_tasks,e_readyN,e_ready]
    clear e_tasks e_readyN e_ready
    exact ⟨fun j _=>run20 (congrFun cg.1 j),fun j _=>⟨congrFun cg.2.1 j,fun k hk=>cg.2.2 j k hk⟩⟩
  · refine ⟨fun h=>(by rw [h3] at h;cases h),fun _=>⟨e,?_⟩⟩
    have e_tasks:traW_tasks W T p=_:=congrArg Wd.tasks ((traW_t (t:=(T:Int)) hc).trans (trbW_f (t:=(T:Int)) (p:=p) h3))
    have e_readyN:traW_readyN W T p=_:=congrArg Wd.readyN ((traW_t (t:=(T:Int)) hc).trans (trbW_f (t:=(T:Int)) (p:=p) h3))
    have e_ready:traW_ready W T p=_:=congrArg Wd.ready ((traW_t (t:=(T:Int)) hc).trans (trbW_f (t:=(T:Int)) (p:=p) h3))
    simp only [e_tasks,e_readyN,e_ready]
    clear e_tasks e_readyN e_ready
    refine ⟨fun j _=>?_,fun j _=>⟨rfl,fun _ _=>rfl⟩⟩
    rcases Decidable.em (j=T) with e|e
    · subst e
      simp only [Nat.beq_refl,cond_true]
      show _∧_
      rw [show (tprW W ((j:Nat):Int).toNat p).tasks j={W.tasks j with prio:=p} from updF_at]
      repeat' (first|exact trivial|rfl|refine And.intro ?_ ?_)
    · simp only [beq_ne e,cond_false]
      rw [show (tprW W ((T:Nat):Int).toNat p).tasks j=W.tasks j from updF_ne e]
      exact run20 rfl
end Go.Proofs.YtdjilaofmdhikaaGreatDoor
set_option linter.unusedVariables false
set_option linter.unusedSimpArgs false
set_option maxRecDepth 100000
namespace Go.Proofs.YtdjilaofmdhikaaGreatDoor
open Go.RowKit Go.Sy
theorem cnt_mono {p:Nat→Bool} {i:Nat}: ∀{n:Nat},i<n→p i=true→cntB i p+1≤cntB n p
  |0,h,_=>absurd h (Nat.not_lt_zero _)
  |n+1,h,hp=>by
   rcases Nat.lt_or_ge i n with h1|h1
   · have:=cnt_mono h1 hp
     show _≤cntB n p+_
     omega
   · obtain rfl:i=n:=by omega
     show _≤cntB i p+_
     rw [hp];exact Nat.le_refl _
theorem cnt_two {p:Nat→Bool} {n i j:Nat} (hij:i<j) (hj:j<n) (hi:p i=true) (hp:p j=true):2≤cntB n p:=by
  have h1:=cnt_mono hj hp
  have h2:=cntB_pos hij hi
  omega
theorem sum_ge {f:Nat→Nat} {i:Nat}: ∀{n:Nat},i<n→f i≤sumN n f
  |0,h=>absurd h (Nat.not_lt_zero _)
  |n+1,h=>by
   rcases Nat.lt_or_ge i n with h1|h1
   · have:=sum_ge (f:=f) h1
     show _≤sumN n f+f n
     omega
   · obtain rfl:i=n:=by omega
     show _≤sumN i f+f i
     omega
theorem kp_one {p:Nat→Bool} {I:Nat} (hI:p I=true): ∀{n:Nat},I<n→(∀j,j<n→j≠I→p j=false)→kpN p n=n -1
  |0,h,_=>absurd h (Nat.not_lt_zero _)
  |n+1,h,ho=>by
   rcases Nat.lt_or_ge I n with h1|h1
   · have e:=kp_one hI h1 fun j hj hne=>ho j (by omega) hne
     rw [kpN,ho n (by omega) (by omega),e]
     show n -1+1=n+1 -1
     omega
   · obtain rfl:I=n:=by omega
     rw [kpN,hI,kpN_pre fun j hj=>ho j (by omega) (by omega)]
     rfl
theorem kt_one {p:Nat→Bool} {t:Nat→Int} {I:Nat} (hI:p I=true): ∀{n a:Nat},I<n→(∀j,j<n→j≠I→p j=false)→a<n -1→kpT 0 p t n a=delF t I a
  |0,a,h,_,_=>absurd h (Nat.not_lt_zero _)
  |n+1,a,h,ho,ha=>by
   rcases Nat.lt_or_ge I n with h1|h1
   · have ho': ∀j,j<n→j≠I→p j=false:=fun j hj hne=>ho j (by omega) hne
     have e:=kp_one hI h1 ho'
     rw [kpT,ho n (by omega) (by omega),e]
     rcases Decidable.em (a=n -1) with h2|h2
     · rw [h2,Nat.beq_refl]
       show t n=delF t I (n -1)
       unfold delF
       rw [blt_f (by omega),show n -1+1=n by omega];rfl
     · rw [beq_ne h2]
       show kpT 0 p t n a=_
       exact kt_one hI h1 ho' (by omega)
   · obtain rfl:I=n:=by omega
     rw [kpT,hI]
     show kpT 0 p t I a=_
     rw [kpT_pre (fun j hj=>ho j (by omega) (by omega)) (by omega)]
     unfold delF
     rw [blt_t (by omega)];rfl
theorem rd_where {W:Wd} (h:Snd W) {i k T:Nat} (hi:i<W.nReady) (hk:k<W.readyN i) (he:W.ready i k=(T:Int)):i=trkK W T∧kof W (T:Int)=6:=by
  have hr:=allB_iff.1 (h.rl i hi) k hk
  rw [he] at hr
  obtain ⟨_,h1,_,h3,h4⟩:=rdB_in hr
  have h3:(W.tasks T).core=((i/4:Nat):Int):=h3
  have h4:(W.tasks T).prio=((i%4:Nat):Int):=h4 (by omega)
  refine ⟨?_,h1⟩
  unfold trkK rkOf rkZ
  omega
theorem turns_le {W:Wd} (h:Snd W) {T:Nat} (hk:kof W (T:Int)=6):turnsN W T≤1:=by
  have hi:=kof_in (W:=W) (f:=(T:Int)) (by rw [hk];decide)
  rw [kof_eq hi] at hk
  have hT:=h.tk T (by omega)
  unfold tkB at hT
  simp only [show (W.kinds T !=6)=false by rw [show W.kinds T=6 from hk];decide,cond_false,Bool.and_eq_true] at hT
  have hT:=hT.2
  unfold stOK standOK at hT
  dsimp only at hT
  generalize ((W.tasks T).st==2||(W.tasks T).st==3||(W.tasks T).st==4)=a at hT
  generalize ((W.tasks T).st==6)=b at hT
  generalize ((W.tasks T).st==1)=c at hT
  cases a<;>cases b<;>cases c<;>simp only [cond_true,cond_false,Bool.and_eq_true,beq_iff_eq] at hT<;>omega
theorem rd_uni {W:Wd} (h:Snd W) {i j k T:Nat} (hi:i<W.nReady) (hj:j<W.readyN i) (hk:k<W.readyN i) (ej:W.ready i j=(T:Int)) (ek:W.ready i k=(T:Int)):j=k:=by
  have h6:=(rd_where h hi hj ej).2
  have h1:=turns_le h h6
  have hc: ∀{x y:Nat},x<y→y<W.readyN i→W.ready i x=(T:Int)→W.ready i y=(T:Int)→False:=fun {x y} hxy hy ex ey=>by
    have h2:2≤cntL (W.readyN i) (W.ready i) T:=cnt_two (p:=fun q=>W.ready i q==(T:Int)) hxy hy (by show (W.ready i x==(T:Int))=true;rw [ex];exact beq_self_eq_true _) (by show (W.ready i y==(T:Int))=true;rw [ey];exact beq_self_eq_true _)
    have h3:cntL (W.readyN i) (W.ready i) T≤cntLL W.nReady W.readyN W.ready T:=sum_ge (f:=fun q=>cntL (W.readyN q) (W.ready q) T) hi
    unfold turnsN at h1
    omega
  rcases Nat.lt_trichotomy j k with e|e|e
  · exact (hc e hk ej ek).elim
  · exact e
  · exact (hc e hj ek ej).elim
theorem trk_lt {W:Wd} (h:Snd W) (hs:Sm W) {T:Nat} (hT:T<W.nTasks):trkK W T<W.nReady:=by
  have hk:=(inv_of h hs).tk T hT
  have z:=h.z.ready
  have h1:=hk.core
  have h2:=hk.prio
  unfold trkK rkOf rkZ
  omega
theorem trH_at {W:Wd} {T:Nat} (h:trkH W T=true):trkI W T<W.readyN (trkK W T)∧W.ready (trkK W T) (trkI W T)=(T:Int):=by
  have h1:trkI W T<W.readyN (trkK W T):=Nat.le_of_ble_eq_true h
  refine ⟨h1,?_⟩
  have:=(fst_sp (fun k=>(T:Int)==W.ready (trkK W T) k) (W.readyN (trkK W T))).2 h1
  exact (eq_of_beq this).symm
theorem trH_of {W:Wd} {T k:Nat} (hk:k<W.readyN (trkK W T)) (he:W.ready (trkK W T) k=(T:Int)):trkH W T=true:=by
  have:=fstB_lt (p:=fun k=>(T:Int)==W.ready (trkK W T) k) hk (by show ((T:Int)==W.ready (trkK W T) k)=true;rw [he];exact beq_self_eq_true _)
  exact blt_t this
theorem tst_trk {W:Wd} (h:Snd W) (hs:Sm W) {T:Nat} (hT:T<W.nTasks):tstB W T W.nReady=trkH W T:=by
  rw [Bool.eq_iff_iff]
  unfold tstB
  rw [anyB_iff]
  constructor
  · rintro ⟨q,hq,hi⟩
    unfold inB' at hi
    obtain ⟨k,hk,he⟩:=anyB_iff.1 hi
    have he:=eq_of_beq he
    obtain rfl:=(rd_where h hq hk he).1
    exact trH_of hk he
  · intro hh
    obtain ⟨h1,h2⟩:=trH_at hh
    exact ⟨trkK W T,trk_lt h hs hT,anyB_iff.2 ⟨_,h1,by rw [h2];exact beq_self_eq_true _⟩⟩
theorem wo_no {W:Wd} {T i:Nat} (hn: ∀k,k<W.readyN i→W.ready i k≠(T:Int)):lvRN W T i=W.readyN i∧ ∀a,a<W.readyN i→lvR W T i a=W.ready i a:=by
  have hp: ∀j,j<W.readyN i→isX (W.ready i) (T:Int) j=false:=fun j hj=>by
    show (W.ready i j==(T:Int))=false
    simpa using hn j hj
  exact ⟨kpN_pre hp,fun a ha=>kpT_pre hp ha⟩
theorem wo_one {W:Wd} (h:Snd W) (hs:Sm W) {T:Nat} (hT:T<W.nTasks) (hh:trkH W T=true):lvRN W T (trkK W T)=W.readyN (trkK W T) -1∧ ∀a,a<W.readyN (trkK W T) -1→lvR W T (trkK W T) a=delF (W.ready (trkK W T)) (trkI W T) a:=by
  obtain ⟨h1,h2⟩:=trH_at hh
  have hI:isX (W.ready (trkK W T)) (T:Int) (trkI W T)=true:=by show (W.ready (trkK W T) (trkI W T)==(T:Int))=true;rw [h2];exact beq_self_eq_true _
  have ho: ∀j,j<W.readyN (trkK W T)→j≠trkI W T→isX (W.ready (trkK W T)) (T:Int) j=false:=fun j hj hne=>by
    cases hb:isX (W.ready (trkK W T)) (T:Int) j with
    |false=>rfl
    |true=>exact absurd (rd_uni h (trk_lt h hs hT) hj h1 (eq_of_beq hb) h2) hne
  exact ⟨kp_one hI h1 ho,fun a ha=>kt_one hI h1 ho ha⟩
end Go.Proofs.YtdjilaofmdhikaaGreatDoor
set_option linter.unusedVariables false
set_option linter.unusedSimpArgs false
set_option maxRecDepth 100000
namespace Go.Proofs.YtdjilaofmdhikaaGreatDoor
open Go.RowKit Go.Sy
theorem anyB_s {n:Nat} {p:Nat→Bool}:anyB (n+1) p=(anyB n p||p n):=by
  rw [Bool.eq_iff_iff,Bool.or_eq_true,anyB_iff,anyB_iff]
  constructor
  · rintro ⟨i,hi,h⟩
    rcases Nat.lt_or_ge i n with h1|h1
    · exact .inl ⟨i,h1,h⟩
    · obtain rfl:i=n:=by omega
      exact .inr h
  · rintro (⟨i,hi,h⟩|h)
    · exact ⟨i,by omega,h⟩
    · exact ⟨n,by omega,h⟩
theorem lv2_all {W:Wd} (h:Snd W) (hs:Sm W) {T:Nat} (hT:T<W.nTasks) (hh:trkH W T=true):lv2N W T W.nReady=trdN W T∧ ∀i k,k<trdN W T i→lv2L W T W.nReady i k=trdL W T i k:=by
  have hK:=trk_lt h hs hT
  obtain ⟨w1,w2⟩:=wo_one h hs hT hh
  have key: ∀i,lv2N W T W.nReady i=trdN W T i∧ ∀k,k<trdN W T i→lv2L W T W.nReady i k=trdL W T i k:=fun i=>by
    rcases Decidable.em (i=trkK W T) with e|e
    · subst e
      rw [lv2N_lt hK,lv2L_lt hK]
      unfold trdN trdL
      rw [updF_at,updF_at]
      exact ⟨w1,w2⟩
    · unfold trdN trdL
      rw [updF_ne e,updF_ne e]
      rcases Nat.lt_or_ge i W.nReady with h1|h1
      · rw [lv2N_lt h1,lv2L_lt h1]
        exact wo_no fun k hk he=>e (rd_where h h1 hk he).1
      · rw [lv2N_ge h1,lv2L_ge h1]
        exact ⟨rfl,fun _ _=>rfl⟩
  exact ⟨funext fun i=>(key i).1,fun i k hk=>(key i).2 k hk⟩
theorem lv2_none {W:Wd} (h:Snd W) {T i:Nat} (hi:i<W.nReady) (hh:trkH W T=false):lv2N W T W.nReady i=W.readyN i∧ ∀k,k<W.readyN i→lv2L W T W.nReady i k=W.ready i k:=by
  rw [lv2N_lt hi,lv2L_lt hi]
  refine wo_no fun k hk he=>?_
  obtain rfl:=(rd_where h hi hk he).1
  rw [trH_of hk he] at hh
  cases hh
structure X_rankR where
  (t p:Int) (W:Wd)
def s_rankR:Sy.Spec:=⟨X_rankR,fun ⟨t,p,_⟩=> [.ptr 0 0 none 0 0,.v (.int .i64 t),.v (.int .i64 p)],fun ⟨_,_,W⟩=>wMem W,fun ⟨_,_,W⟩=>Sm W∧Snd W,fun ⟨t,p,W⟩=> .v (.int .i64 (traE W t p)),fun ⟨t,p,W⟩=>wMem (traW W t p),
  fun args mem=>match args with| [a0,a1,a2]=>some ⟨intD (a1),intD (a2),wMJD mem 0⟩|_=>none⟩
def c_rankR:Con:=⟨[true],s_rankR.g,none⟩
def V_rankR:X_rankR→Prop:=fun ⟨t,p,W⟩=>let a0:=W.nRam;let b0:=a0=a0;let c0:=W.nKinds;let d0:=c0=c0;let e0:=W.nSlots;let g0:=e0=e0;let h0:=W.nTasks;let k0:=h0=h0;let l0:=W.nLines;let o0:=l0=l0;let q0:=W.nBits;let u0:=q0=q0;let v0:=W.nCores;let w0:=v0=v0;let x0:=W.nReady;let y0:=x0=x0;let z0:=W.nTlbs;let a1:=z0=z0;let b1:=W.nDoms;let c1:=b1=b1;let d1:=W.time;let e1:=d1=d1;let g1:=t=t∧True;let h1:=Wd.mk a0 (fun k1:Nat=>W.ram (0+k1)) c0 (fun l1:Nat=>W.kinds (0+l1)) e0 (fun o1:Nat=>W.slots (0+o1)) h0 (fun q1:Nat=>W.tasks (0+q1)) l0 (fun u1:Nat=>W.linesN (0+u1)) (fun v1:Nat=>fun w1:Nat=>W.lines (0+v1) (0+w1)) q0 (fun x1:Nat=>W.bits (0+x1)) v0 (fun y1:Nat=>W.cores (0+y1)) x0 (fun z1:Nat=>W.readyN (0+z1)) (fun a2:Nat=>fun b2:Nat=>W.ready (0+a2) (0+b2)) z0 (fun c2:Nat=>W.tlbsN (0+c2)) (fun d2:Nat=>fun e2:Nat=>W.tlbs (0+d2) (0+e2)) b1 (fun g2:Nat=>W.doms (0+g2)) d1;let h2:=tmE h1 t;let k2:=h2 !=0;let l2:=traE W t p;let o2:=0=0;let q2:=((((((((((True∧o2∧b0)∧o2∧d0)∧o2∧g0)∧o2∧k0)∧o2∧o0)∧o2∧u0)∧o2∧w0)∧o2∧y0)∧o2∧a1)∧o2∧c1)∧e1;let u2:=b0∧(∀v2:Nat,v2<a0→True∧W.ram v2=W.ram v2);let w2:=d0∧(∀x2:Nat,x2<c0→True∧W.kinds x2=W.kinds x2);let y2:=g0∧(∀z2:Nat,let a3:=W.slots z2;let b3:=a3.kind;let c3:=a3.base;let d3:=a3.len;let e3:=a3.mark;let g3:=a3.rights;let h3:=a3.badge;let k3:=a3.from_;z2<e0→((((((True∧b3=b3)∧c3=c3)∧d3=d3)∧e3=e3)∧g3=g3)∧h3=h3)∧k3=k3);let l3:=o0∧(∀o3:Nat,let q3:=W.linesN o3;o3<l0→True∧q3=q3∧(∀u3:Nat,u3<q3→True∧W.lines o3 u3=W.lines o3 u3));let v3:=u0∧(∀w3:Nat,w3<q0→True∧W.bits w3=W.bits w3);
    let x3:=w0∧(∀y3:Nat,y3<v0→True∧W.cores y3=W.cores y3);let z3:=(a1∧(∀a4:Nat,let b4:=W.tlbsN a4;a4<z0→True∧b4=b4∧(∀c4:Nat,let d4:=W.tlbs a4 c4;let e4:=d4.sp;let g4:=d4.pg;let h4:=d4.fr;let k4:=d4.wr;c4<b4→(((True∧e4=e4)∧g4=g4)∧h4=h4)∧k4=k4)))∧(c1∧(∀l4:Nat,l4<b1→True∧W.doms l4=W.doms l4))∧True;let o4:=q2∧u2∧w2∧y2∧(k0∧(∀q4:Nat,let u4:=W.tasks q4;let v4:=traW_tasks W t p q4;q4<h0→(((((((((((((((((((True∧u4.r0=v4.r0)∧u4.r1=v4.r1)∧u4.r2=v4.r2)∧u4.r3=v4.r3)∧u4.r4=v4.r4)∧u4.r5=v4.r5)∧u4.r6=v4.r6)∧u4.r7=v4.r7)∧u4.pc=v4.pc)∧u4.st=v4.st)∧u4.prio=v4.prio)∧u4.node=v4.node)∧u4.space=v4.space)∧u4.helper=v4.helper)∧u4.loc=v4.loc)∧u4.word=v4.word)∧u4.badge=v4.badge)∧u4.owes=v4.owes)∧u4.core=v4.core)∧u4.dom=v4.dom))∧l3∧v3∧x3∧(y0∧(∀w4:Nat,let x4:=traW_readyN W t p w4;w4<x0→True∧W.readyN w4=x4∧(∀y4:Nat,y4<x4→True∧W.ready w4 y4=traW_ready W t p w4 y4)))∧z3;let z4:=SV.ptr 0 0 none 0 0=SV.ptr 0 0 none 0 0;let a5:=0=0;let b5:=((((((((((True∧a5∧b0)∧a5∧d0)∧a5∧g0)∧a5∧k0)∧a5∧o0)∧a5∧u0)∧a5∧w0)∧a5∧y0)∧a5∧a1)∧a5∧c1)∧e1;let c5:=k0∧(∀d5:Nat,let e5:=W.tasks d5;let g5:=e5.prio;let h5:=e5.node;let k5:=e5.space;let l5:=e5.helper;let o5:=e5.loc;let q5:=e5.word;let u5:=e5.badge;let v5:=e5.owes;let w5:=e5.core;let x5:=e5.dom;d5<h0→(((((((((((((((((((True∧e5.r0=e5.r0)∧e5.r1=e5.r1)∧e5.r2=e5.r2)∧e5.r3=e5.r3)∧e5.r4=e5.r4)∧e5.r5=e5.r5)∧e5.r6=e5.r6)∧e5.r7=e5.r7)∧e5.pc=e5.pc)∧e5.st=e5.st)∧g5=g5)∧h5=h5)∧k5=k5)∧l5=l5)∧o5=o5)∧q5=q5)∧u5=u5)∧v5=v5)∧w5=w5)∧x5=x5);let y5:=(x0:Int);let z5:=Int.toNat t;let a6:=0+z5;
    let b6:=W.ram;let c6:=W.kinds;let d6:=W.slots;let e6:=W.linesN;let g6:=W.lines;let h6:=W.bits;let k6:=W.cores;let l6:=W.tlbsN;let o6:=W.tlbs;let q6:=W.doms;let u6:=0=l2;(((((((((((((True∧b0∧(∀v6:Nat,v6<a0→True∧b6 (0+v6)=b6 (0+v6)))∧d0∧(∀w6:Nat,w6<c0→True∧c6 (0+w6)=c6 (0+w6)))∧g0∧(∀x6:Nat,let y6:=d6 (0+x6);let z6:=y6.rights;let a7:=y6.badge;let b7:=y6.from_;x6<e0→((((((True∧y6.kind=y6.kind)∧y6.base=y6.base)∧y6.len=y6.len)∧y6.mark=y6.mark)∧z6=z6)∧a7=a7)∧b7=b7))∧k0∧(∀c7:Nat,let d7:=W.tasks (0+c7);let e7:=d7.r0;let g7:=d7.r1;let h7:=d7.r2;let k7:=d7.r3;let l7:=d7.r4;let o7:=d7.r5;let q7:=d7.r6;let u7:=d7.r7;let v7:=d7.pc;let w7:=d7.st;let x7:=d7.prio;let y7:=d7.node;let z7:=d7.space;let a8:=d7.helper;let b8:=d7.loc;let c8:=d7.word;let d8:=d7.badge;let e8:=d7.owes;let g8:=d7.core;let h8:=d7.dom;c7<h0→(((((((((((((((((((True∧e7=e7)∧g7=g7)∧h7=h7)∧k7=k7)∧l7=l7)∧o7=o7)∧q7=q7)∧u7=u7)∧v7=v7)∧w7=w7)∧x7=x7)∧y7=y7)∧z7=z7)∧a8=a8)∧b8=b8)∧c8=c8)∧d8=d8)∧e8=e8)∧g8=g8)∧h8=h8))∧o0∧(∀k8:Nat,let l8:=e6 (0+k8);k8<l0→True∧l8=l8∧(∀o8:Nat,let q8:Int:=g6 (0+k8) (0+o8);o8<l8→True∧q8=q8)))∧u0∧(∀r8:Nat,r8<q0→True∧h6 (0+r8)=h6 (0+r8)))∧w0∧(∀u8:Nat,u8<v0→True∧k6 (0+u8)=k6 (0+u8)))∧y0∧(∀v8:Nat,let w8:=W.readyN (0+v8);v8<x0→True∧w8=w8∧(∀x8:Nat,let y8:=W.ready (0+v8) (0+x8);x8<w8→True∧y8=y8)))∧a1∧(∀z8:Nat,let a9:=0+z8;let b9:=l6 a9;z8<z0→True∧b9=b9∧(∀c9:Nat,let d9:=o6 a9 (0+c9);let e9:=d9.sp;let g9:=d9.pg;let h9:=d9.fr;let k9:=d9.wr;c9<b9→(((True∧e9=e9)∧g9=g9)∧h9=h9)∧k9=k9)))∧c1∧(∀l9:Nat,l9<b1→True∧
    q6 (0+l9)=q6 (0+l9)))∧e1)∧g1)∧True∧s_taskMay.match_1 (fun o9:X_taskMay=>Prop) (X_taskMay.mk h1 t) (fun q9:Wd=>fun r9:Int=>Szd q9))∧(k2=true→h2=l2∧o4)∧(k2=false→((p=p∧(3:Int)=3∧True)∧True∧True)∧(farB p 3=true→2=l2∧o4)∧(farB p 3=false→z4∧false=tstB W t 0∧0=((0:Nat):Int)∧(b5∧u2∧w2∧y2∧c5∧l3∧v3∧x3∧(y0∧(∀u9:Nat,let v9:=lv2N W t 0 u9;u9<x0→True∧W.readyN u9=v9∧(∀w9:Nat,w9<v9→True∧W.ready u9 w9=lv2L W t 0 u9 w9)))∧z3)∧0≤x0∧(∀x9:Nat,let y9:=(x9:Int);let z9:=decide (y9<y5);let a10:=tstB W t x9;let b10:=a10=false;let c10:=0≤y9∧y9<y5;let d10:=0+Int.toNat y9;let e10:=lv2N W t x9 d10;let g10:=e10=e10∧(∀h10:Nat,let k10:=lv2L W t x9 d10 (0+h10);h10<e10→True∧k10=k10);let l10:Int:=y9+1;let o10:=Wd.mk a0 b6 c0 c6 e0 d6 h0 (fun q10:Nat=>let r10:=W.tasks q10;Run.mk r10.r0 r10.r1 r10.r2 r10.r3 r10.r4 r10.r5 r10.r6 r10.r7 r10.pc r10.st (cond (Nat.beq q10 a6) p r10.prio) r10.node r10.space r10.helper r10.loc r10.word r10.badge r10.owes r10.core r10.dom) l0 e6 g6 q0 h6 v0 k6 x0 (lv2N W t x9) (lv2L W t x9) z0 l6 o6 b1 q6 d1;x9≤x0→y5≤9223372036854775807→(z9=true→(b10→c10)∧(b10→(t=t∧g10∧True)∧True∧True)∧tn 10 (c10∧tn 2 (((g10∧g1)∧True∧s_without.match_1 (fun u10:X_without=>Prop) (X_without.mk e10 (fun v10:Nat=>lv2L W t x9 d10 (0+v10)) t) (fun w10:Nat=>fun x10:∀y10:Nat,Int=>fun z10:Int=>w10≤100000))∧c10∧(∀a11:Nat,Nat.beq 1 1=true)∧w64 l10=l10∧(∃b11:Nat,z4∧cond a10 true (inB' e10 (fun c11:Nat=>lv2L W t x9 d10 (0+c11)) t)=tstB W t b11∧l10=(b11:Int)∧(b5∧u2∧w2∧y2∧c5∧l3∧v3∧x3∧(y0∧(∀d11:Nat,
    let e11:=lv2N W t b11 d11;d11<x0→True∧cond (Nat.beq d11 d10) (woN e10 (fun g11:Nat=>lv2L W t x9 d10 (0+g11)) t) (lv2N W t x9 d11)=e11∧(∀h11:Nat,h11<e11→True∧cond (Nat.beq d11 d10) (woF e10 (fun k11:Nat=>lv2L W t x9 d10 (0+k11)) t h11) (lv2L W t x9 d11 h11)=lv2L W t b11 d11 h11)))∧z3)∧b11≤x0∧x0-b11<x0-x9))))∧(z9=false→(0≤t∧t<(h0:Int))∧(∀l11:Nat,false=false)∧(a10=true→((z4∧g1)∧(q2∧u2∧w2∧y2∧(k0∧(∀o11:Nat,let q11:=W.tasks o11;let r11:Int:=cond (Nat.beq o11 a6) p q11.prio;let u11:=q11.node;let v11:=q11.space;let w11:=q11.helper;let x11:=q11.loc;let y11:=q11.word;let z11:=q11.badge;let a12:=q11.owes;let b12:=q11.core;let c12:=q11.dom;o11<h0→(((((((((((((((((((True∧q11.r0=q11.r0)∧q11.r1=q11.r1)∧q11.r2=q11.r2)∧q11.r3=q11.r3)∧q11.r4=q11.r4)∧q11.r5=q11.r5)∧q11.r6=q11.r6)∧q11.r7=q11.r7)∧q11.pc=q11.pc)∧q11.st=q11.st)∧r11=r11)∧u11=u11)∧v11=v11)∧w11=w11)∧x11=x11)∧y11=y11)∧z11=z11)∧a12=a12)∧b12=b12)∧c12=c12))∧l3∧v3∧x3∧(y0∧(∀d12:Nat,let e12:=lv2N W t x9 d12;d12<x0→True∧e12=e12∧(∀g12:Nat,let h12:=lv2L W t x9 d12 g12;g12<e12→True∧h12=h12)))∧z3)∧s_woken.match_1 (fun k12:X_woken=>Prop) (X_woken.mk t o10) (fun l12:Int=>fun o12:Wd=>WkP o12 l12))∧u6∧q2∧u2∧w2∧y2∧(k0∧(∀q12:Nat,let r12:=wkS o10 z5 q12;let u12:=traW_tasks W t p q12;q12<h0→(((((((((((((((((((True∧r12.r0=u12.r0)∧r12.r1=u12.r1)∧r12.r2=u12.r2)∧r12.r3=u12.r3)∧r12.r4=u12.r4)∧r12.r5=u12.r5)∧r12.r6=u12.r6)∧r12.r7=u12.r7)∧r12.pc=u12.pc)∧r12.st=u12.st)∧r12.prio=u12.prio)∧r12.node=u12.node)∧r12.space=u12.space)∧r12.helper=u12.helper)∧
    r12.loc=u12.loc)∧r12.word=u12.word)∧r12.badge=u12.badge)∧r12.owes=u12.owes)∧r12.core=u12.core)∧r12.dom=u12.dom))∧l3∧v3∧x3∧(y0∧(∀v12:Nat,let w12:=traW_readyN W t p v12;v12<x0→True∧wkN o10 z5 v12=w12∧(∀x12:Nat,x12<w12→True∧wkL o10 z5 v12 x12=traW_ready W t p v12 x12)))∧z3)∧(b10→u6∧q2∧u2∧w2∧y2∧(k0∧(∀y12:Nat,let z12:=W.tasks y12;let a13:=traW_tasks W t p y12;y12<h0→(((((((((((((((((((True∧z12.r0=a13.r0)∧z12.r1=a13.r1)∧z12.r2=a13.r2)∧z12.r3=a13.r3)∧z12.r4=a13.r4)∧z12.r5=a13.r5)∧z12.r6=a13.r6)∧z12.r7=a13.r7)∧z12.pc=a13.pc)∧z12.st=a13.st)∧cond (Nat.beq y12 a6) p z12.prio=a13.prio)∧z12.node=a13.node)∧z12.space=a13.space)∧z12.helper=a13.helper)∧z12.loc=a13.loc)∧z12.word=a13.word)∧z12.badge=a13.badge)∧z12.owes=a13.owes)∧z12.core=a13.core)∧z12.dom=a13.dom))∧l3∧v3∧x3∧(y0∧(∀b13:Nat,let c13:=traW_readyN W t p b13;b13<x0→True∧lv2N W t x9 b13=c13∧(∀d13:Nat,d13<c13→True∧lv2L W t x9 b13 d13=traW_ready W t p b13 d13)))∧z3)))))
set_option maxHeartbeats 2000000 in
theorem ok_rankR:FnOK Tryz.prog glN 62 c_rankR:=ok_of (.cons ok_far (.cons ok_woken (.cons ok_inL (.cons ok_taskMay (.cons ok_without .nil))))) false Tryz.call62 Tryz.func62 (fun ⟨t,_,W⟩=> [.inv (an_rk W t)]) (V:=V_rankR) (fun _=>by kernel_rfl) fun ⟨t,p,W⟩ hp=>by
  dsimp only [s_rankR] at hp
  dsimp only [V_rankR,tn,w64]
  simp only [std,stb,eq_self,implies_true,Bool.cond_self]
  try simp only [wd_eta]
  simp only [lit_prio]
  obtain ⟨hs,hw⟩:=hp
  have hI:=inv_of hw hs
  have z1:=hI.z.tasks
  have z2:=hI.z.ready
  have z5:=hI.z.c1
  refine ⟨hI.z,fun h=>?_,fun h=>?_⟩
  · have hq:(tmE W t==0)=false:=by simpa using h
    have e:traE W t p=tmE W t:=by unfold traE;rw [hq];rfl
    have hc:(traE W t p==0)=false:=by rw [e];exact hq
    refine ⟨e.symm,?_⟩
    have e_:=traW_f hc
    have e_tasks:traW_tasks W t p=_:=congrArg Wd.tasks e_
    have e_readyN:traW_readyN W t p=_:=congrArg Wd.readyN e_
    have e_ready:traW_ready W t p=_:=congrArg Wd.ready e_
    simp only [e_tasks,e_readyN,e_ready]
    clear e_ e_tasks e_readyN e_ready
    repeat' (first|exact trivial|exact run20 rfl|rfl|refine And.intro ?_ ?_|intro _|fail)
  have hq:(tmE W t==0)=true:=by simpa using h
  obtain ⟨t0,t1,hk⟩:=tm_0 (eq_of_beq hq)
  refine ⟨fun h2=>?_,fun h2=>?_⟩
  · have e:traE W t p=2:=by unfold traE;rw [hq,h2];rfl
    have hc:(traE W t p==0)=false:=by rw [e];rfl
    refine ⟨e.symm,?_⟩
    have e_:=traW_f hc
    have e_tasks:traW_tasks W t p=_:=congrArg Wd.tasks e_
    have e_readyN:traW_readyN W t p=_:=congrArg Wd.readyN e_
    have e_ready:traW_ready W t p=_:=congrArg Wd.ready e_
    simp only [e_tasks,e_readyN,e_ready]
    clear e_ e_tasks e_readyN e_ready
    repeat' (first|exact trivial|exact run20 rfl|rfl|refine And.intro ?_ ?_|intro _|fail)
  have hpr:=farB_in h2
  have e:traE W t p=0:=by unfold traE;rw [hq,h2];rfl
  have hc:(traE W t p==0)=true:=by rw [e];rfl
  obtain ⟨T,rfl⟩: ∃T:Nat,t=T:=⟨t.toNat,by omega⟩
  simp only [Int.toNat_natCast] at*
  have hk1:=hI.tk T (by omega)
  have hcr:=hk1.core
  have hpi:=hk1.prio
  refine ⟨rfl,fun q _=>⟨(lv2N_ge (Nat.zero_le _)).symm,fun v _=>by rw [lv2L_ge (Nat.zero_le _)]⟩,fun s hs' _=>⟨fun h=>?_,fun h=>?_⟩⟩
  · have hlt:=lt_of_dec h
    have hl:=(hI.rd s (by omega)).1
    refine ⟨fun _=>by omega,by omega,by rw [lv2N_ge (Nat.le_refl _)];omega,by omega,fun _=>rfl,wr_in (by omega) (by omega),s+1,?_,by omega,fun q _=>⟨lv2N_s,fun v _=>lv2L_s⟩,by omega,by omega⟩
    show (tstB W T s||inB' (lv2N W T s s) (lv2L W T s s) T)=_
    rw [lv2N_ge (Nat.le_refl _),lv2L_ge (Nat.le_refl _)]
    exact anyB_s.symm
  have hge:=ge_of_dec h
  obtain rfl:s=W.nReady:=by omega
  have hTn:T<W.nTasks:=by omega
  rw [tst_trk hw hs hTn]
  refine ⟨⟨t0,by omega⟩,fun h3=>?_,fun h3=>?_⟩
  · have hT:tprS W T p T={W.tasks T with prio:=p}:=updF_at
    obtain ⟨v1,v2⟩:=lv2_all hw hs hTn h3
    obtain ⟨A,hA⟩: ∃A:Wd,A={W with tasks:=tprS W T p,readyN:=lv2N W T W.nReady,ready:=lv2L W T W.nReady}:=⟨_,rfl⟩
    have cg:=wok_congr (A:=A) (B:=tprW (trdW W T) T p) (t:=T) (by rw [hA];rfl) (by rw [hA];exact v1) (fun i k hk=>by rw [hA];exact v2 i k hk)
    have hZ:rkZ (A.tasks T)=(W.tasks T).core*4+p:=by rw [hA];show rkZ (tprS W T p T)=_;rw [hT];rfl
    have hwk:WkP A (T:Int):=by
      refine ⟨t0,by rw [hA];show (T:Int)<W.nTasks;omega,by show 0≤rkZ (A.tasks T);rw [hZ];omega,by show rkZ (A.tasks T)<A.nReady;rw [hZ,hA];show (W.tasks T).core*4+p<W.nReady;omega,?_,?_,?_,?_,?_⟩
      · show 0≤(A.tasks T).core;rw [hA];show 0≤(tprS W T p T).core;rw [hT];exact hcr.1
      · show (A.tasks T).core≤100;rw [hA];show (tprS W T p T).core≤100;rw [hT];show (W.tasks T).core≤100;omega
      · show 0≤(A.tasks T).prio;rw [hA];show 0≤(tprS W T p T).prio;rw [hT];exact hpr.1
      · show (A.tasks T).prio≤100;rw [hA];show (tprS W T p T).prio≤100;rw [hT];show p≤100;omega
      · show A.readyN (rkOf (A.tasks T))≤100000
        have hi:rkOf (A.tasks T)<W.nReady:=by unfold rkOf;rw [hZ];omega
        have h5:=(hI.rd _ hi).1
        have h6:A.readyN (rkOf (A.tasks T))≤W.readyN (rkOf (A.tasks T)):=by
          generalize rkOf (A.tasks T)=q
          rw [hA];show lv2N W T W.nReady q≤W.readyN q
          rw [v1]
          unfold trdN
          rcases Decidable.em (q=trkK W T) with e|e
          · subst e;rw [updF_at];omega
          · rw [updF_ne e];exact Nat.le_refl _
        omega
    rw [hA] at hwk cg
    refine ⟨hwk,e.symm,?_⟩
    have e_tasks:traW_tasks W T p=_:=congrArg Wd.tasks ((traW_t (t:=(T:Int)) hc).trans (trbW_t (t:=(T:Int)) (p:=p) h3))
    have e_readyN:traW_readyN W T p=_:=congrArg Wd.readyN ((traW_t (t:=(T:Int)) hc).trans (trbW_t (t:=(T:Int)) (p:=p) h3))
    have e_ready:traW_ready W T p=_:=congrArg Wd.ready ((traW_t (t:=(T:Int)) hc).trans (trbW_t (t:=(T:Int)) (p:=p) h3))
    simp only [e_tasks,e_readyN,e_ready]
    clear e_tasks e_readyN e_ready
    exact ⟨fun j _=>run20 (congrFun cg.1 j),fun j _=>⟨congrFun cg.2.1 j,fun k hk=>cg.2.2 j k hk⟩⟩
  · refine ⟨e.symm,?_⟩
    have e_tasks:traW_tasks W T p=_:=congrArg Wd.tasks ((traW_t (t:=(T:Int)) hc).trans (trbW_f (t:=(T:Int)) (p:=p) h3))
    have e_readyN:traW_readyN W T p=_:=congrArg Wd.readyN ((traW_t (t:=(T:Int)) hc).trans (trbW_f (t:=(T:Int)) (p:=p) h3))
    have e_ready:traW_ready W T p=_:=congrArg Wd.ready ((traW_t (t:=(T:Int)) hc).trans (trbW_f (t:=(T:Int)) (p:=p) h3))
    simp only [e_tasks,e_readyN,e_ready]
    clear e_tasks e_readyN e_ready
    refine ⟨fun j _=>?_,fun j hj=>⟨(lv2_none hw hj h3).1,fun k hk=>(lv2_none hw hj h3).2 k hk⟩⟩
    rcases Decidable.em (j=T) with e|e
    · subst e
      simp only [Nat.beq_refl,cond_true]
      rw [show (tprW W ((j:Nat):Int).toNat p).tasks j={W.tasks j with prio:=p} from updF_at]
      repeat' (first|exact trivial|rfl|refine And.intro ?_ ?_)
    · simp only [beq_ne e,cond_false]
      rw [show (tprW W ((T:Nat):Int).toNat p).tasks j=W.tasks j from updF_ne e]
      exact run20 rfl
end Go.Proofs.YtdjilaofmdhikaaGreatDoor
set_option linter.unusedVariables false
set_option linter.unusedSimpArgs false
set_option maxRecDepth 100000
namespace Go.Proofs.YtdjilaofmdhikaaGreatDoor
open Go.RowKit Go.Sy
theorem lv1L_sd {W:Wd} {t:Int} {s q v:Nat} (hv:v<lv1N W t (s+1) q):(bif Nat.beq q s then wdF (lv1N W t s s) (lv1L W t s s) t v else lv1L W t s q v)=lv1L W t (s+1) q v:=by
  rw [←lv1L_s]
  rw [←lv1N_s] at hv
  rcases Decidable.em (q=s) with e|e
  · subst e
    rw [Nat.beq_refl,cond_true] at hv⊢
    unfold wdF
    rw [blt_t hv];rfl
  · rw [beq_ne e];rfl
theorem lv2L_sd {W:Wd} {t:Int} {s q v:Nat} (hv:v<lv2N W t (s+1) q):(bif Nat.beq q s then wdF (lv2N W t s s) (lv2L W t s s) t v else lv2L W t s q v)=lv2L W t (s+1) q v:=by
  rw [←lv2L_s]
  rw [←lv2N_s] at hv
  rcases Decidable.em (q=s) with e|e
  · subst e
    rw [Nat.beq_refl,cond_true] at hv⊢
    unfold wdF
    rw [blt_t hv];rfl
  · rw [beq_ne e];rfl
structure X_leave where
  (t:Int) (W:Wd)
def s_leave:Sy.Spec:=⟨X_leave,fun ⟨t,_⟩=> [.ptr 0 0 none 0 0,.v (.int .i64 t)],fun ⟨_,W⟩=>wMem W,fun ⟨t,W⟩=>0≤t∧t<W.nTasks∧Inv 1000 W,fun _=> .tp 0 (lsv []),fun ⟨t,W⟩=>wMem (stpW W t),
  fun args mem=>match args with| [a0,a1]=>some ⟨intD (a1),wMJD mem 0⟩|_=>none⟩
def c_leave:Con:=⟨[true],s_leave.g,none⟩
def V_leave:X_leave→Prop:=fun ⟨t,W⟩=>let a0:=W.nLines;let b0:=(a0:Int);let c0:=SV.ptr 0 0 none 0 0=SV.ptr 0 0 none 0 0;let d0:=0+1+1+1+1+1+1+1+1+1+1+1;let e0:=SV.ptr 11 0 none 0 0;let g0:=SV.ptr d0 0 none 0 0=e0;let h0:=0=((0:Nat):Int);let k0:=0=0;let l0:=W.nRam=W.nRam;let o0:=W.nKinds;let q0:=o0=o0;let u0:=W.nSlots;let v0:=u0=u0;let w0:=W.nTasks;let x0:=w0=w0;let y0:=a0=a0;let z0:=W.nBits=W.nBits;let a1:=W.nCores;let b1:=a1=a1;let c1:=W.nReady;let d1:=c1=c1;let e1:=W.nTlbs=W.nTlbs;let g1:=W.nDoms=W.nDoms;let h1:=W.time=W.time;let k1:=((((((((((True∧k0∧l0)∧k0∧q0)∧k0∧v0)∧k0∧x0)∧k0∧y0)∧k0∧z0)∧k0∧b1)∧k0∧d1)∧k0∧e1)∧k0∧g1)∧h1;let l1:=l0∧(∀o1:Nat,o1<W.nRam→True∧W.ram o1=W.ram o1);let q1:=q0∧(∀u1:Nat,u1<o0→True∧W.kinds u1=W.kinds u1);let v1:=v0∧(∀w1:Nat,let x1:=W.slots w1;let y1:=x1.kind;let z1:=x1.base;let a2:=x1.len;let b2:=x1.mark;let c2:=x1.rights;let d2:=x1.badge;let e2:=x1.from_;w1<u0→((((((True∧y1=y1)∧z1=z1)∧a2=a2)∧b2=b2)∧c2=c2)∧d2=d2)∧e2=e2);let g2:=x0∧(∀h2:Nat,let k2:=W.tasks h2;let l2:=k2.prio;let o2:=k2.node;let q2:=k2.space;let u2:=k2.helper;let v2:=k2.loc;let w2:=k2.word;let x2:=k2.badge;let y2:=k2.owes;let z2:=k2.core;let a3:=k2.dom;h2<w0→(((((((((((((((((((True∧k2.r0=k2.r0)∧k2.r1=k2.r1)∧k2.r2=k2.r2)∧k2.r3=k2.r3)∧k2.r4=k2.r4)∧k2.r5=k2.r5)∧k2.r6=k2.r6)∧k2.r7=k2.r7)∧k2.pc=k2.pc)∧k2.st=k2.st)∧l2=l2)∧o2=o2)∧q2=q2)∧u2=u2)∧v2=v2)∧w2=w2)∧x2=x2)∧y2=y2)∧z2=z2)∧a3=a3);let b3:=z0∧(∀c3:Nat,c3<W.nBits→True∧W.bits c3=W.bits c3);let d3:=b1∧(∀e3:Nat,e3<a1→True∧W.cores e3=W.cores e3);
    let g3:=e1∧(∀h3:Nat,let k3:=W.tlbsN h3;h3<W.nTlbs→True∧k3=k3∧(∀l3:Nat,let o3:=W.tlbs h3 l3;let q3:=o3.sp;let u3:=o3.pg;let v3:=o3.fr;let w3:=o3.wr;l3<k3→(((True∧q3=q3)∧u3=u3)∧v3=v3)∧w3=w3));let x3:=g1∧(∀y3:Nat,y3<W.nDoms→True∧W.doms y3=W.doms y3);let z3:=(True∧t=t)∧True;let a4:=g3∧x3∧z3;let b4:=b3∧d3∧(d1∧(∀c4:Nat,let d4:=W.readyN c4;c4<c1→True∧d4=d4∧(∀e4:Nat,e4<d4→True∧W.ready c4 e4=W.ready c4 e4)))∧a4;let g4:=tn 2 True;let h4:=True∧SV.ptr d0 0 none 0 0=e0;let k4:=(c1:Int);let l4:=(a1:Int);let o4:=false=false;let q4:=(w0:Int);let u4:=0≤t∧t<q4;let v4:=Int.toNat t;let w4:=sdS W v4 (-1) 0;let x4:=0=0;True∧(b0≤9223372036854775807→c0∧g0∧(True∧g0)∧h0∧(k1∧l1∧q1∧v1∧g2∧(y0∧(∀y4:Nat,let z4:=lv1N W t 0 y4;y4<a0→True∧W.linesN y4=z4∧(∀a5:Nat,a5<z4→True∧W.lines y4 a5=lv1L W t 0 y4 a5)))∧b4)∧0≤a0∧(∀b5:Nat,let c5:=(b5:Int);let d5:=decide (c5<b0);let e5:=0≤c5∧c5<b0;let g5:=0+Int.toNat c5;let h5:=lv1N W t b5 g5;let k5:=h5=h5;let l5:=lv1L W t b5 g5;let o5:Int:=c5+1;let q5:=y0∧(∀u5:Nat,let v5:=lv1N W t b5 u5;u5<a0→True∧v5=v5∧(∀w5:Nat,let x5:=lv1L W t b5 u5 w5;w5<v5→True∧x5=x5));b5≤a0→(d5=true→tn 11 (e5∧True∧g4∧(((0=0∧k5)∧z3)∧((k5∧(∀y5:Nat,y5<h5→True∧l5 y5=l5 y5))∧True)∧s_lvC.match_1 (fun z5:X_lvC=>Prop) (X_lvC.mk t h5 l5) (fun a6:Int=>fun b6:Nat=>fun c6:∀d6:Nat,Int=>b6≤100000))∧e5∧(g5=g5∧(∀e6:Nat,Nat.beq 1 1=true))∧w64 o5=o5∧(∃g6:Nat,c0∧g0∧h4∧o5=(g6:Int)∧(k1∧l1∧q1∧v1∧g2∧(y0∧(∀h6:Nat,let k6:=lv1N W t g6 h6;h6<a0→True∧cond (Nat.beq h6 g5) (woN h5 l5 t) (lv1N W t b5 h6)=k6∧(∀l6:Nat,l6<k6→True∧
    cond (Nat.beq h6 g5) (wdF h5 l5 t l6) (lv1L W t b5 h6 l6)=lv1L W t g6 h6 l6)))∧b4)∧g6≤a0∧a0-g6<a0-b5)))∧(d5=false→k4≤9223372036854775807→c0∧g0∧h4∧h0∧(k1∧l1∧q1∧v1∧g2∧q5∧b3∧d3∧(d1∧(∀o6:Nat,let q6:=lv2N W t 0 o6;o6<c1→True∧W.readyN o6=q6∧(∀u6:Nat,u6<q6→True∧W.ready o6 u6=lv2L W t 0 o6 u6)))∧a4)∧0≤c1∧(∀v6:Nat,let w6:=(v6:Int);let x6:=decide (w6<k4);let y6:=0≤w6∧w6<k4;let z6:=0+Int.toNat w6;let a7:=lv2N W t v6 z6;let b7:=a7=a7;let c7:=lv2L W t v6 z6;let d7:Int:=w6+1;let e7:=(d1∧(∀g7:Nat,let h7:=lv2N W t v6 g7;g7<c1→True∧h7=h7∧(∀k7:Nat,let l7:=lv2L W t v6 g7 k7;k7<h7→True∧l7=l7)))∧a4;v6≤c1→(x6=true→tn 11 (y6∧True∧g4∧(((0=0∧b7)∧z3)∧((b7∧(∀o7:Nat,o7<a7→True∧c7 o7=c7 o7))∧True)∧s_lvC.match_1 (fun q7:X_lvC=>Prop) (X_lvC.mk t a7 c7) (fun u7:Int=>fun v7:Nat=>fun w7:∀x7:Nat,Int=>v7≤100000))∧y6∧(z6=z6∧(∀y7:Nat,Nat.beq 1 1=true))∧w64 d7=d7∧(∃z7:Nat,c0∧g0∧h4∧d7=(z7:Int)∧(k1∧l1∧q1∧v1∧g2∧q5∧b3∧d3∧(d1∧(∀a8:Nat,let b8:=lv2N W t z7 a8;a8<c1→True∧cond (Nat.beq a8 z6) (woN a7 c7 t) (lv2N W t v6 a8)=b8∧(∀c8:Nat,c8<b8→True∧cond (Nat.beq a8 z6) (wdF a7 c7 t c8) (lv2L W t v6 a8 c8)=lv2L W t z7 a8 c8)))∧a4)∧z7≤c1∧c1-z7<c1-v6)))∧(x6=false→l4≤9223372036854775807→c0∧g0∧h0∧(k1∧l1∧q1∧v1∧g2∧q5∧b3∧(b1∧(∀d8:Nat,d8<a1→True∧W.cores d8=ofS W t 0 d8))∧e7)∧0≤a1∧(∀e8:Nat,let g8:=(e8:Int);let h8:=decide (g8<l4);let k8:=0≤g8∧g8<l4;let l8:=0+Int.toNat g8;let o8:=ofS W t e8 l8==t;let q8:Int:=g8+1;let r8:=w64 q8=q8;let u8:=q5∧b3∧(b1∧(∀v8:Nat,let w8:=ofS W t e8 v8;v8<a1→True∧w8=w8))∧e7;e8≤a1→(h8=true→tn 5 (k8∧
    tn 2 ((o8=true→k8∧(∀x8:Nat,o4)∧r8∧(∃y8:Nat,c0∧g0∧q8=(y8:Int)∧(k1∧l1∧q1∧v1∧g2∧q5∧b3∧(b1∧(∀z8:Nat,z8<a1→True∧cond (Nat.beq z8 l8) (-1) (ofS W t e8 z8)=ofS W t y8 z8))∧e7)∧y8≤a1∧a1-y8<a1-e8))∧(o8=false→r8∧(∃a9:Nat,c0∧g0∧q8=(a9:Int)∧(k1∧l1∧q1∧v1∧g2∧q5∧b3∧(b1∧(∀b9:Nat,b9<a1→True∧ofS W t e8 b9=ofS W t a9 b9))∧e7)∧a9≤a1∧a1-a9<a1-e8)))))∧(h8=false→tn 10 (u4∧True∧(True∧True)∧(∀c9:Nat,o4)∧u4∧(∀d9:Nat,o4)∧(q4≤9223372036854775807→c0∧g0∧h0∧(k1∧l1∧q1∧v1∧(x0∧(∀e9:Nat,let g9:=W.tasks e9;let h9:=lv4 w4 t 0 e9;e9<w0→(((((((((((((((((((True∧g9.r0=h9.r0)∧g9.r1=h9.r1)∧g9.r2=h9.r2)∧g9.r3=h9.r3)∧g9.r4=h9.r4)∧g9.r5=h9.r5)∧g9.r6=h9.r6)∧g9.r7=h9.r7)∧g9.pc=h9.pc)∧cond (Nat.beq e9 (0+v4)) 0 g9.st=h9.st)∧g9.prio=h9.prio)∧g9.node=h9.node)∧g9.space=h9.space)∧g9.helper=h9.helper)∧cond (Nat.beq e9 (0+v4)) (-1) g9.loc=h9.loc)∧g9.word=h9.word)∧g9.badge=h9.badge)∧g9.owes=h9.owes)∧g9.core=h9.core)∧g9.dom=h9.dom))∧u8)∧0≤w0∧(∀k9:Nat,let l9:=(k9:Int);let o9:=decide (l9<q4);let q9:=0≤l9∧l9<q4;let r9:=0+Int.toNat l9;let u9:=(lv4 w4 t k9 r9).owes==t;let v9:Int:=l9+1;let w9:=w64 v9=v9;k9≤w0→(o9=true→tn 5 (q9∧tn 3 ((u9=true→q9∧(∀x9:Nat,o4)∧w9∧(∃y9:Nat,c0∧g0∧v9=(y9:Int)∧(k1∧l1∧q1∧v1∧(x0∧(∀z9:Nat,let a10:=lv4 w4 t k9 z9;let b10:=lv4 w4 t y9 z9;z9<w0→(((((((((((((((((((True∧a10.r0=b10.r0)∧a10.r1=b10.r1)∧a10.r2=b10.r2)∧a10.r3=b10.r3)∧a10.r4=b10.r4)∧a10.r5=b10.r5)∧a10.r6=b10.r6)∧a10.r7=b10.r7)∧a10.pc=b10.pc)∧a10.st=b10.st)∧a10.prio=b10.prio)∧a10.node=b10.node)∧a10.space=b10.space)∧a10.helper=b10.helper)∧a10.loc=b10.loc)∧
    a10.word=b10.word)∧a10.badge=b10.badge)∧cond (Nat.beq z9 r9) (-1) a10.owes=b10.owes)∧a10.core=b10.core)∧a10.dom=b10.dom))∧u8)∧y9≤w0∧w0-y9<w0-k9))∧(u9=false→w9∧(∃c10:Nat,c0∧g0∧v9=(c10:Int)∧(k1∧l1∧q1∧v1∧(x0∧(∀d10:Nat,let e10:=lv4 w4 t k9 d10;let g10:=lv4 w4 t c10 d10;d10<w0→(((((((((((((((((((True∧e10.r0=g10.r0)∧e10.r1=g10.r1)∧e10.r2=g10.r2)∧e10.r3=g10.r3)∧e10.r4=g10.r4)∧e10.r5=g10.r5)∧e10.r6=g10.r6)∧e10.r7=g10.r7)∧e10.pc=g10.pc)∧e10.st=g10.st)∧e10.prio=g10.prio)∧e10.node=g10.node)∧e10.space=g10.space)∧e10.helper=g10.helper)∧e10.loc=g10.loc)∧e10.word=g10.word)∧e10.badge=g10.badge)∧e10.owes=g10.owes)∧e10.core=g10.core)∧e10.dom=g10.dom))∧u8)∧c10≤w0∧w0-c10<w0-k9)))))∧(o9=false→True∧(((((((((((True∧x4∧l0)∧x4∧q0)∧x4∧v0)∧x4∧x0)∧x4∧y0)∧x4∧z0)∧x4∧b1)∧x4∧d1)∧x4∧e1)∧x4∧g1)∧h1)∧l1∧q1∧v1∧(x0∧(∀h10:Nat,let k10:=lv4 w4 t k9 h10;let l10:=w4 h10;h10<w0→(((((((((((((((((((True∧k10.r0=l10.r0)∧k10.r1=l10.r1)∧k10.r2=l10.r2)∧k10.r3=l10.r3)∧k10.r4=l10.r4)∧k10.r5=l10.r5)∧k10.r6=l10.r6)∧k10.r7=l10.r7)∧k10.pc=l10.pc)∧k10.st=l10.st)∧k10.prio=l10.prio)∧k10.node=l10.node)∧k10.space=l10.space)∧k10.helper=l10.helper)∧k10.loc=l10.loc)∧k10.word=l10.word)∧k10.badge=l10.badge)∧k10.owes=cond (l10.owes==t) (-1) l10.owes)∧k10.core=l10.core)∧k10.dom=l10.dom))∧(y0∧(∀o10:Nat,o10<a0→True∧lv1N W t b5 o10=lvLN W t o10∧(∀q10:Nat,q10<lvLN W t o10→True∧lv1L W t b5 o10 q10=lvL W t o10 q10)))∧b3∧(b1∧(∀r10:Nat,r10<a1→True∧ofS W t e8 r10=ofC W t r10))∧(d1∧(∀u10:Nat,u10<c1→True∧lv2N W t v6 u10=lvRN W t u10∧(∀v10:Nat,
    v10<lvRN W t u10→True∧lv2L W t v6 u10 v10=lvR W t u10 v10)))∧g3∧x3∧True)))))))))))
set_option maxHeartbeats 2000000 in
theorem ok_leave:FnOK Tryz.prog glN 156 c_leave:=ok_of (.cons ok_lvC .nil) false Tryz.call156 Tryz.func156 (fun ⟨t,W⟩=> [.inv (an_lv1 W t [(0,pt0 0),(3,pt0 11),(4,.fn 209 1 (lsv [pt0 11]))] [(3,0)] 15),.inv (an_lv2 W t [(0,pt0 0),(3,pt0 11),(4,.fn 209 1 (lsv [pt0 11]))] [(3,0)] 39),.inv (an_lv3 W t [(0,pt0 0),(3,pt0 11)] [(3,0)] 63),.inv (an_lv4 W (sdS W t.toNat (-1) 0) t [(0,pt0 0),(3,pt0 11)] [(3,0)] 101)]) (V:=V_leave) (fun _=>by kernel_rfl) fun ⟨t,W⟩ hp=>by
  dsimp only [s_leave] at hp
  dsimp only [V_leave,tn,w64]
  simp only [std,stb,eq_self,implies_true,Bool.cond_self]
  try simp only [wd_eta]
  obtain ⟨t0,t1,hI⟩:=hp
  have z1:=hI.z.lines
  have z2:=hI.z.ready
  have z3:=hI.z.tasks
  have z4:=hI.z.k1
  have z5:=hI.z.c1
  intro _
  refine ⟨fun q _=>⟨(lv1N_ge (Nat.zero_le _)).symm,fun v _=>by rw [lv1L_ge (Nat.zero_le _)]⟩,fun s hs=>⟨fun h=>?_,fun h=>?_⟩⟩
  · have hlt:=lt_of_dec h
    have hl:=(hI.ln s (by omega)).1
    exact ⟨by omega,by rw [lv1N_ge (Nat.le_refl _)];omega,by omega,fun _=>rfl,wr_in (by omega) (by omega),s+1,by omega,fun q _=>⟨lv1N_s,fun v hv=>lv1L_sd hv⟩,by omega,by omega⟩
  have hge:=ge_of_dec h
  obtain rfl:s=W.nLines:=by omega
  clear h hge
  intro _
  refine ⟨fun q _=>⟨(lv2N_ge (Nat.zero_le _)).symm,fun v _=>by rw [lv2L_ge (Nat.zero_le _)]⟩,fun s hs=>⟨fun h=>?_,fun h=>?_⟩⟩
  · have hlt:=lt_of_dec h
    have hl:=(hI.rd s (by omega)).1
    exact ⟨by omega,by rw [lv2N_ge (Nat.le_refl _)];omega,by omega,fun _=>rfl,wr_in (by omega) (by omega),s+1,by omega,fun q _=>⟨lv2N_s,fun v hv=>lv2L_sd hv⟩,by omega,by omega⟩
  have hge:=ge_of_dec h
  obtain rfl:s=W.nReady:=by omega
  clear h hge
  intro _
  refine ⟨fun j _=>(ofS_ge (Nat.zero_le _)).symm,fun s hs=>⟨fun h=>?_,fun h=>?_⟩⟩
  · have hlt:=lt_of_dec h
    refine ⟨by omega,fun h1=>⟨by omega,wr_in (by omega) (by omega),s+1,by omega,fun j _=>?_,by omega,by omega⟩,fun h1=>⟨wr_in (by omega) (by omega),s+1,by omega,fun j _=>?_,by omega,by omega⟩⟩
    · rw [ofS_ge (Nat.le_refl _)] at h1
      rcases Nat.lt_trichotomy j s with e|e|e
      · rw [beq_ne (by omega),ofS_lt e,ofS_lt (by omega:j<s+1)];rfl
      · subst e;rw [Nat.beq_refl,ofS_lt (Nat.lt_succ_self _)];unfold ofC;rw [h1];rfl
      · rw [beq_ne (by omega),ofS_ge (by omega),ofS_ge (by omega:s+1≤j)];rfl
    · rw [ofS_ge (Nat.le_refl _)] at h1
      rcases Nat.lt_trichotomy j s with e|e|e
      · rw [ofS_lt e,ofS_lt (by omega:j<s+1)]
      · subst e;rw [ofS_ge (Nat.le_refl _),ofS_lt (Nat.lt_succ_self _)];unfold ofC;rw [h1];rfl
      · rw [ofS_ge (by omega),ofS_ge (by omega:s+1≤j)]
  have hge:=ge_of_dec h
  obtain rfl:s=W.nCores:=by omega
  clear h hge
  refine ⟨⟨t0,t1⟩,⟨t0,t1⟩,fun _=>⟨fun j _=>?_,fun s hs=>⟨fun h=>?_,fun h=>?_⟩⟩⟩
  · rcases Decidable.em (j=t.toNat) with e|e
    · subst e
      simp only [Nat.beq_refl,cond_true,lv4_ge (Nat.zero_le _)]
      unfold sdS
      rw [updF_at]
      repeat' (first|exact trivial|rfl|refine And.intro ?_ ?_)
    · simp only [beq_ne e,cond_false,lv4_ge (Nat.zero_le _)]
      unfold sdS
      rw [updF_ne e]
      repeat' (first|exact trivial|rfl|refine And.intro ?_ ?_)
  · have hlt:=lt_of_dec h
    refine ⟨by omega,fun h1=>⟨by omega,wr_in (by omega) (by omega),s+1,by omega,fun j _=>?_,by omega,by omega⟩,fun h1=>⟨wr_in (by omega) (by omega),s+1,by omega,fun j _=>?_,by omega,by omega⟩⟩
    · rw [lv4_ge (Nat.le_refl _)] at h1
      rcases Nat.lt_trichotomy j s with e|e|e
      · rw [beq_ne (by omega),lv4_lt e,lv4_lt (by omega:j<s+1)];exact run20 rfl
      · subst e
        rw [Nat.beq_refl,lv4_lt (Nat.lt_succ_self _),lv4_ge (Nat.le_refl _),oweF_y h1]
        simp only [cond_true]
        repeat' (first|exact trivial|rfl|refine And.intro ?_ ?_)
      · rw [beq_ne (by omega),lv4_ge (by omega),lv4_ge (by omega:s+1≤j)];exact run20 rfl
    · rw [lv4_ge (Nat.le_refl _)] at h1
      rcases Nat.lt_trichotomy j s with e|e|e
      · rw [lv4_lt e,lv4_lt (by omega:j<s+1)];exact run20 rfl
      · subst e;rw [lv4_ge (Nat.le_refl _),lv4_lt (Nat.lt_succ_self _),oweF_n h1];exact run20 rfl
      · rw [lv4_ge (by omega),lv4_ge (by omega:s+1≤j)];exact run20 rfl
  have hge:=ge_of_dec h
  obtain rfl:s=W.nTasks:=by omega
  refine ⟨fun j hj=>?_,fun j hj=>⟨lv1N_lt hj,fun v _=>by rw [lv1L_lt hj]⟩,fun j hj=>ofS_lt hj,fun j hj=>⟨lv2N_lt hj,fun v _=>by rw [lv2L_lt hj]⟩⟩
  rw [lv4_lt hj]
  exact run20 rfl
end Go.Proofs.YtdjilaofmdhikaaGreatDoor
set_option linter.unusedVariables false
set_option linter.unusedSimpArgs false
set_option maxRecDepth 100000
namespace Go.Proofs.YtdjilaofmdhikaaGreatDoor
open Go.RowKit Go.Sy
def tstW_tasks (W:Wd) (t:Int) (i:Nat):Run:=bif tmE W t==0 then (stpW W t).tasks i else (W).tasks i
def tstW_linesN (W:Wd) (t:Int) (i:Nat):Nat:=bif tmE W t==0 then (stpW W t).linesN i else (W).linesN i
def tstW_lines (W:Wd) (t:Int) (i k:Nat):Int:=bif tmE W t==0 then (stpW W t).lines i k else (W).lines i k
def tstW_cores (W:Wd) (t:Int) (i:Nat):Int:=bif tmE W t==0 then (stpW W t).cores i else (W).cores i
def tstW_readyN (W:Wd) (t:Int) (i:Nat):Nat:=bif tmE W t==0 then (stpW W t).readyN i else (W).readyN i
def tstW_ready (W:Wd) (t:Int) (i k:Nat):Int:=bif tmE W t==0 then (stpW W t).ready i k else (W).ready i k
def tstW (W:Wd) (t:Int):Wd:={W with tasks:=tstW_tasks W t,linesN:=tstW_linesN W t,lines:=tstW_lines W t,cores:=tstW_cores W t,readyN:=tstW_readyN W t,ready:=tstW_ready W t}
theorem tstW_t {W:Wd} {t:Int} (h:(tmE W t==0)=true):tstW W t=stpW W t:=by
  have e_tasks:tstW_tasks W t=(stpW W t).tasks:=by
    funext i
    unfold tstW_tasks
    rw [h]
    rfl
  have e_linesN:tstW_linesN W t=(stpW W t).linesN:=by
    funext i
    unfold tstW_linesN
    rw [h]
    rfl
  have e_lines:tstW_lines W t=(stpW W t).lines:=by
    funext i k
    unfold tstW_lines
    rw [h]
    rfl
  have e_cores:tstW_cores W t=(stpW W t).cores:=by
    funext i
    unfold tstW_cores
    rw [h]
    rfl
  have e_readyN:tstW_readyN W t=(stpW W t).readyN:=by
    funext i
    unfold tstW_readyN
    rw [h]
    rfl
  have e_ready:tstW_ready W t=(stpW W t).ready:=by
    funext i k
    unfold tstW_ready
    rw [h]
    rfl
  show ({W with tasks:=tstW_tasks W t,linesN:=tstW_linesN W t,lines:=tstW_lines W t,cores:=tstW_cores W t,readyN:=tstW_readyN W t,ready:=tstW_ready W t}:Wd)=_
  rw [e_tasks,e_linesN,e_lines,e_cores,e_readyN,e_ready]<;>kernel_rfl
theorem tstW_f {W:Wd} {t:Int} (h:(tmE W t==0)=false):tstW W t=W:=by
  have e_tasks:tstW_tasks W t=(W).tasks:=by
    funext i
    unfold tstW_tasks
    rw [h]
    rfl
  have e_linesN:tstW_linesN W t=(W).linesN:=by
    funext i
    unfold tstW_linesN
    rw [h]
    rfl
  have e_lines:tstW_lines W t=(W).lines:=by
    funext i k
    unfold tstW_lines
    rw [h]
    rfl
  have e_cores:tstW_cores W t=(W).cores:=by
    funext i
    unfold tstW_cores
    rw [h]
    rfl
  have e_readyN:tstW_readyN W t=(W).readyN:=by
    funext i
    unfold tstW_readyN
    rw [h]
    rfl
  have e_ready:tstW_ready W t=(W).ready:=by
    funext i k
    unfold tstW_ready
    rw [h]
    rfl
  show ({W with tasks:=tstW_tasks W t,linesN:=tstW_linesN W t,lines:=tstW_lines W t,cores:=tstW_cores W t,readyN:=tstW_readyN W t,ready:=tstW_ready W t}:Wd)=_
  rw [e_tasks,e_linesN,e_lines,e_cores,e_readyN,e_ready]<;>kernel_rfl
structure X_stopR where
  (t:Int) (W:Wd)
def s_stopR:Sy.Spec:=⟨X_stopR,fun ⟨t,_⟩=> [.ptr 0 0 none 0 0,.v (.int .i64 t)],fun ⟨_,W⟩=>wMem W,fun ⟨_,W⟩=>TnP W,fun ⟨t,W⟩=> .v (.int .i64 (tmE W t)),fun ⟨t,W⟩=>wMem (tstW W t),
  fun args mem=>match args with| [a0,a1]=>some ⟨intD (a1),wMJD mem 0⟩|_=>none⟩
def c_stopR:Con:=⟨[true],s_stopR.g,none⟩
def V_stopR:X_stopR→Prop:=fun ⟨t,W⟩=>let a0:=W.nRam;let b0:=a0=a0;let c0:=W.nKinds;let d0:=c0=c0;let e0:=W.nSlots;let g0:=e0=e0;let h0:=W.nTasks;let k0:=h0=h0;let l0:=W.nLines;let o0:=l0=l0;let q0:=W.nBits;let u0:=q0=q0;let v0:=W.nCores;let w0:=v0=v0;let x0:=W.nReady;let y0:=x0=x0;let z0:=W.nTlbs;let a1:=z0=z0;let b1:=W.nDoms;let c1:=b1=b1;let d1:=W.time=W.time;let e1:=Wd.mk a0 (fun g1:Nat=>W.ram (0+g1)) c0 (fun h1:Nat=>W.kinds (0+h1)) e0 (fun k1:Nat=>W.slots (0+k1)) h0 (fun l1:Nat=>W.tasks (0+l1)) l0 (fun o1:Nat=>W.linesN (0+o1)) (fun q1:Nat=>fun u1:Nat=>W.lines (0+q1) (0+u1)) q0 (fun v1:Nat=>W.bits (0+v1)) v0 (fun w1:Nat=>W.cores (0+w1)) x0 (fun x1:Nat=>W.readyN (0+x1)) (fun y1:Nat=>fun z1:Nat=>W.ready (0+y1) (0+z1)) z0 (fun a2:Nat=>W.tlbsN (0+a2)) (fun b2:Nat=>fun c2:Nat=>W.tlbs (0+b2) (0+c2)) b1 (fun d2:Nat=>W.doms (0+d2)) W.time;let e2:=tmE e1 t;let g2:=e2==0;let h2:=0=0;let k2:=((((((((((True∧h2∧b0)∧h2∧d0)∧h2∧g0)∧h2∧k0)∧h2∧o0)∧h2∧u0)∧h2∧w0)∧h2∧y0)∧h2∧a1)∧h2∧c1)∧d1;let l2:=b0∧(∀o2:Nat,o2<a0→True∧W.ram o2=W.ram o2);let q2:=d0∧(∀u2:Nat,u2<c0→True∧W.kinds u2=W.kinds u2);let v2:=g0∧(∀w2:Nat,let x2:=W.slots w2;let y2:=x2.kind;let z2:=x2.base;let a3:=x2.len;let b3:=x2.mark;let c3:=x2.rights;let d3:=x2.badge;let e3:=x2.from_;w2<e0→((((((True∧y2=y2)∧z2=z2)∧a3=a3)∧b3=b3)∧c3=c3)∧d3=d3)∧e3=e3);let g3:=u0∧(∀h3:Nat,h3<q0→True∧W.bits h3=W.bits h3);
    let k3:=(a1∧(∀l3:Nat,let o3:=W.tlbsN l3;l3<z0→True∧o3=o3∧(∀q3:Nat,let u3:=W.tlbs l3 q3;let v3:=u3.sp;let w3:=u3.pg;let x3:=u3.fr;let y3:=u3.wr;q3<o3→(((True∧v3=v3)∧w3=w3)∧x3=x3)∧y3=y3)))∧(c1∧(∀z3:Nat,z3<b1→True∧W.doms z3=W.doms z3))∧True;let a4:=e2=tmE W t;let b4:=Int.toNat t;(((((((((((((True∧b0∧(∀c4:Nat,c4<a0→True∧W.ram (0+c4)=W.ram (0+c4)))∧d0∧(∀d4:Nat,let e4:=W.kinds (0+d4);d4<c0→True∧e4=e4))∧g0∧(∀g4:Nat,let h4:=W.slots (0+g4);let k4:=h4.kind;let l4:=h4.base;let o4:=h4.len;let q4:=h4.mark;let u4:=h4.rights;let v4:=h4.badge;let w4:=h4.from_;g4<e0→((((((True∧k4=k4)∧l4=l4)∧o4=o4)∧q4=q4)∧u4=u4)∧v4=v4)∧w4=w4))∧k0∧(∀x4:Nat,let y4:=W.tasks (0+x4);let z4:=y4.r0;let a5:=y4.r1;let b5:=y4.r2;let c5:=y4.r3;let d5:=y4.r4;let e5:=y4.r5;let g5:=y4.r6;let h5:=y4.r7;let k5:=y4.pc;let l5:=y4.st;let o5:=y4.prio;let q5:=y4.node;let u5:=y4.space;let v5:=y4.helper;let w5:=y4.loc;let x5:=y4.word;let y5:=y4.badge;let z5:=y4.owes;let a6:=y4.core;let b6:=y4.dom;x4<h0→(((((((((((((((((((True∧z4=z4)∧a5=a5)∧b5=b5)∧c5=c5)∧d5=d5)∧e5=e5)∧g5=g5)∧h5=h5)∧k5=k5)∧l5=l5)∧o5=o5)∧q5=q5)∧u5=u5)∧v5=v5)∧w5=w5)∧x5=x5)∧y5=y5)∧z5=z5)∧a6=a6)∧b6=b6))∧o0∧(∀c6:Nat,let d6:=W.linesN (0+c6);c6<l0→True∧d6=d6∧(∀e6:Nat,let g6:=W.lines (0+c6) (0+e6);e6<d6→True∧g6=g6)))∧u0∧(∀h6:Nat,h6<q0→True∧W.bits (0+h6)=W.bits (0+h6)))∧w0∧(∀k6:Nat,let l6:=W.cores (0+k6);k6<v0→True∧l6=l6))∧y0∧(∀o6:Nat,let q6:=W.readyN (0+o6);o6<x0→True∧q6=q6∧(∀u6:Nat,let v6:=W.ready (0+o6) (0+u6);u6<q6→True∧v6=v6)))∧a1∧(∀w6:Nat,let x6:=0+w6;
    let y6:=W.tlbsN x6;w6<z0→True∧y6=y6∧(∀z6:Nat,let a7:=W.tlbs x6 (0+z6);let b7:=a7.sp;let c7:=a7.pg;let d7:=a7.fr;let e7:=a7.wr;z6<y6→(((True∧b7=b7)∧c7=c7)∧d7=d7)∧e7=e7)))∧c1∧(∀g7:Nat,g7<b1→True∧W.doms (0+g7)=W.doms (0+g7)))∧d1)∧t=t∧True)∧True∧s_taskMay.match_1 (fun h7:X_taskMay=>Prop) (X_taskMay.mk e1 t) (fun k7:Wd=>fun l7:Int=>Szd k7))∧(g2=true→((SV.ptr 0 0 none 0 0=SV.ptr 0 0 none 0 0∧t=t∧True)∧(k2∧l2∧q2∧v2∧(k0∧(∀o7:Nat,let q7:=W.tasks o7;let u7:=q7.prio;let v7:=q7.node;let w7:=q7.space;let x7:=q7.helper;let y7:=q7.loc;let z7:=q7.word;let a8:=q7.badge;let b8:=q7.owes;let c8:=q7.core;let d8:=q7.dom;o7<h0→(((((((((((((((((((True∧q7.r0=q7.r0)∧q7.r1=q7.r1)∧q7.r2=q7.r2)∧q7.r3=q7.r3)∧q7.r4=q7.r4)∧q7.r5=q7.r5)∧q7.r6=q7.r6)∧q7.r7=q7.r7)∧q7.pc=q7.pc)∧q7.st=q7.st)∧u7=u7)∧v7=v7)∧w7=w7)∧x7=x7)∧y7=y7)∧z7=z7)∧a8=a8)∧b8=b8)∧c8=c8)∧d8=d8))∧(o0∧(∀e8:Nat,let g8:=W.linesN e8;e8<l0→True∧g8=g8∧(∀h8:Nat,h8<g8→True∧W.lines e8 h8=W.lines e8 h8)))∧g3∧(w0∧(∀k8:Nat,k8<v0→True∧W.cores k8=W.cores k8))∧(y0∧(∀l8:Nat,let o8:=W.readyN l8;l8<x0→True∧o8=o8∧(∀q8:Nat,q8<o8→True∧W.ready l8 q8=W.ready l8 q8)))∧k3)∧0≤t∧t<(h0:Int)∧Inv 1000 W)∧a4∧k2∧l2∧q2∧v2∧(k0∧(∀r8:Nat,let u8:=sdS W b4 (-1) 0 r8;let v8:=tstW_tasks W t r8;let w8:=u8.owes;r8<h0→(((((((((((((((((((True∧u8.r0=v8.r0)∧u8.r1=v8.r1)∧u8.r2=v8.r2)∧u8.r3=v8.r3)∧u8.r4=v8.r4)∧u8.r5=v8.r5)∧u8.r6=v8.r6)∧u8.r7=v8.r7)∧u8.pc=v8.pc)∧u8.st=v8.st)∧u8.prio=v8.prio)∧u8.node=v8.node)∧u8.space=v8.space)∧u8.helper=v8.helper)∧u8.loc=v8.loc)∧u8.word=v8.word)∧
    u8.badge=v8.badge)∧cond (w8==t) (-1) w8=v8.owes)∧u8.core=v8.core)∧u8.dom=v8.dom))∧(o0∧(∀x8:Nat,let y8:=tstW_linesN W t x8;x8<l0→True∧lvLN W t x8=y8∧(∀z8:Nat,z8<y8→True∧lvL W t x8 z8=tstW_lines W t x8 z8)))∧g3∧(w0∧(∀a9:Nat,a9<v0→True∧ofC W t a9=tstW_cores W t a9))∧(y0∧(∀b9:Nat,let c9:=tstW_readyN W t b9;b9<x0→True∧lvRN W t b9=c9∧(∀d9:Nat,d9<c9→True∧lvR W t b9 d9=tstW_ready W t b9 d9)))∧k3)∧(g2=false→a4∧k2∧l2∧q2∧v2∧(k0∧(∀e9:Nat,let g9:=W.tasks e9;let h9:=tstW_tasks W t e9;e9<h0→(((((((((((((((((((True∧g9.r0=h9.r0)∧g9.r1=h9.r1)∧g9.r2=h9.r2)∧g9.r3=h9.r3)∧g9.r4=h9.r4)∧g9.r5=h9.r5)∧g9.r6=h9.r6)∧g9.r7=h9.r7)∧g9.pc=h9.pc)∧g9.st=h9.st)∧g9.prio=h9.prio)∧g9.node=h9.node)∧g9.space=h9.space)∧g9.helper=h9.helper)∧g9.loc=h9.loc)∧g9.word=h9.word)∧g9.badge=h9.badge)∧g9.owes=h9.owes)∧g9.core=h9.core)∧g9.dom=h9.dom))∧(o0∧(∀k9:Nat,let l9:=tstW_linesN W t k9;k9<l0→True∧W.linesN k9=l9∧(∀o9:Nat,o9<l9→True∧W.lines k9 o9=tstW_lines W t k9 o9)))∧g3∧(w0∧(∀q9:Nat,q9<v0→True∧W.cores q9=tstW_cores W t q9))∧(y0∧(∀r9:Nat,let u9:=tstW_readyN W t r9;r9<x0→True∧W.readyN r9=u9∧(∀v9:Nat,v9<u9→True∧W.ready r9 v9=tstW_ready W t r9 v9)))∧k3)
set_option maxHeartbeats 1000000 in
theorem ok_stopR:FnOK Tryz.prog glN 60 c_stopR:=ok_of (.cons ok_taskMay (.cons ok_stopped .nil)) false Tryz.call60 Tryz.func60 (fun _=> []) (V:=V_stopR) (fun _=>by kernel_rfl) fun ⟨t,W⟩ hp=>by
  dsimp only [s_stopR] at hp
  dsimp only [V_stopR,tn,w64]
  simp only [std,stb,eq_self,implies_true,Bool.cond_self]
  try simp only [wd_eta]
  have hI:=hp.i
  have z1:=hI.z.tasks
  refine ⟨hI.z,fun h=>?_,fun h=>?_⟩
  · have hc:(tmE W t==0)=true:=by simpa using h
    obtain ⟨t0,t1,hk⟩:=tm_0 (eq_of_beq hc)
    refine ⟨⟨t0,by omega,hI.mono (by decide)⟩,?_⟩
    have e_:=tstW_t hc
    have e_tasks:tstW_tasks W t=_:=congrArg Wd.tasks e_
    have e_linesN:tstW_linesN W t=_:=congrArg Wd.linesN e_
    have e_lines:tstW_lines W t=_:=congrArg Wd.lines e_
    have e_cores:tstW_cores W t=_:=congrArg Wd.cores e_
    have e_readyN:tstW_readyN W t=_:=congrArg Wd.readyN e_
    have e_ready:tstW_ready W t=_:=congrArg Wd.ready e_
    simp only [e_tasks,e_linesN,e_lines,e_cores,e_readyN,e_ready]
    clear e_ e_tasks e_linesN e_lines e_cores e_readyN e_ready
    repeat' (first|exact trivial|exact run20 rfl|rfl|refine And.intro ?_ ?_|intro _|fail)
  · have hc:(tmE W t==0)=false:=by simpa using h
    have e_:=tstW_f hc
    have e_tasks:tstW_tasks W t=_:=congrArg Wd.tasks e_
    have e_linesN:tstW_linesN W t=_:=congrArg Wd.linesN e_
    have e_lines:tstW_lines W t=_:=congrArg Wd.lines e_
    have e_cores:tstW_cores W t=_:=congrArg Wd.cores e_
    have e_readyN:tstW_readyN W t=_:=congrArg Wd.readyN e_
    have e_ready:tstW_ready W t=_:=congrArg Wd.ready e_
    simp only [e_tasks,e_linesN,e_lines,e_cores,e_readyN,e_ready]
    clear e_ e_tasks e_linesN e_lines e_cores e_readyN e_ready
    repeat' (first|exact trivial|exact run20 rfl|rfl|refine And.intro ?_ ?_|intro _|fail)
structure X_stopP where
  (t:Int) (W:Wd)
def s_stopP:Sy.Spec:=⟨X_stopP,fun ⟨t,_⟩=> [.ptr 0 0 none 0 0,.v (.int .i64 t)],fun ⟨_,W⟩=>wMem W,fun ⟨_,W⟩=>TnP W,fun ⟨t,W⟩=> .er 35 116 (tmE W t) (-1),fun ⟨t,W⟩=>wMem (tstW W t),
  fun args mem=>match args with| [a0,a1]=>some ⟨intD (a1),wMJD mem 0⟩|_=>none⟩
def c_stopP:Con:=⟨[true],s_stopP.g,none⟩
def V_stopP:X_stopP→Prop:=fun ⟨t,W⟩=>let a0:=W.nRam;let b0:=a0=a0;let c0:=W.nKinds;let d0:=c0=c0;let e0:=W.nSlots;let g0:=e0=e0;let h0:=W.nTasks;let k0:=h0=h0;let l0:=W.nLines;let o0:=l0=l0;let q0:=W.nBits;let u0:=q0=q0;let v0:=W.nCores;let w0:=v0=v0;let x0:=W.nReady;let y0:=x0=x0;let z0:=W.nTlbs;let a1:=z0=z0;let b1:=W.nDoms;let c1:=b1=b1;let d1:=W.time=W.time;let e1:=Wd.mk a0 (fun g1:Nat=>W.ram (0+g1)) c0 (fun h1:Nat=>W.kinds (0+h1)) e0 (fun k1:Nat=>W.slots (0+k1)) h0 (fun l1:Nat=>W.tasks (0+l1)) l0 (fun o1:Nat=>W.linesN (0+o1)) (fun q1:Nat=>fun u1:Nat=>W.lines (0+q1) (0+u1)) q0 (fun v1:Nat=>W.bits (0+v1)) v0 (fun w1:Nat=>W.cores (0+w1)) x0 (fun x1:Nat=>W.readyN (0+x1)) (fun y1:Nat=>fun z1:Nat=>W.ready (0+y1) (0+z1)) z0 (fun a2:Nat=>W.tlbsN (0+a2)) (fun b2:Nat=>fun c2:Nat=>W.tlbs (0+b2) (0+c2)) b1 (fun d2:Nat=>W.doms (0+d2)) W.time;let e2:=tmE e1 t;let g2:=e2 !=0;let h2:=0=0;let k2:=((((((((((True∧h2∧b0)∧h2∧d0)∧h2∧g0)∧h2∧k0)∧h2∧o0)∧h2∧u0)∧h2∧w0)∧h2∧y0)∧h2∧a1)∧h2∧c1)∧d1;let l2:=b0∧(∀o2:Nat,o2<a0→True∧W.ram o2=W.ram o2);let q2:=d0∧(∀u2:Nat,u2<c0→True∧W.kinds u2=W.kinds u2);let v2:=g0∧(∀w2:Nat,let x2:=W.slots w2;let y2:=x2.kind;let z2:=x2.base;let a3:=x2.len;let b3:=x2.mark;let c3:=x2.rights;let d3:=x2.badge;let e3:=x2.from_;w2<e0→((((((True∧y2=y2)∧z2=z2)∧a3=a3)∧b3=b3)∧c3=c3)∧d3=d3)∧e3=e3);let g3:=u0∧(∀h3:Nat,h3<q0→True∧W.bits h3=W.bits h3);
    let k3:=(a1∧(∀l3:Nat,let o3:=W.tlbsN l3;l3<z0→True∧o3=o3∧(∀q3:Nat,let u3:=W.tlbs l3 q3;let v3:=u3.sp;let w3:=u3.pg;let x3:=u3.fr;let y3:=u3.wr;q3<o3→(((True∧v3=v3)∧w3=w3)∧x3=x3)∧y3=y3)))∧(c1∧(∀z3:Nat,z3<b1→True∧W.doms z3=W.doms z3))∧True;let a4:=Int.toNat t;(((((((((((((True∧b0∧(∀b4:Nat,b4<a0→True∧W.ram (0+b4)=W.ram (0+b4)))∧d0∧(∀c4:Nat,let d4:=W.kinds (0+c4);c4<c0→True∧d4=d4))∧g0∧(∀e4:Nat,let g4:=W.slots (0+e4);let h4:=g4.kind;let k4:=g4.base;let l4:=g4.len;let o4:=g4.mark;let q4:=g4.rights;let u4:=g4.badge;let v4:=g4.from_;e4<e0→((((((True∧h4=h4)∧k4=k4)∧l4=l4)∧o4=o4)∧q4=q4)∧u4=u4)∧v4=v4))∧k0∧(∀w4:Nat,let x4:=W.tasks (0+w4);let y4:=x4.r0;let z4:=x4.r1;let a5:=x4.r2;let b5:=x4.r3;let c5:=x4.r4;let d5:=x4.r5;let e5:=x4.r6;let g5:=x4.r7;let h5:=x4.pc;let k5:=x4.st;let l5:=x4.prio;let o5:=x4.node;let q5:=x4.space;let u5:=x4.helper;let v5:=x4.loc;let w5:=x4.word;let x5:=x4.badge;let y5:=x4.owes;let z5:=x4.core;let a6:=x4.dom;w4<h0→(((((((((((((((((((True∧y4=y4)∧z4=z4)∧a5=a5)∧b5=b5)∧c5=c5)∧d5=d5)∧e5=e5)∧g5=g5)∧h5=h5)∧k5=k5)∧l5=l5)∧o5=o5)∧q5=q5)∧u5=u5)∧v5=v5)∧w5=w5)∧x5=x5)∧y5=y5)∧z5=z5)∧a6=a6))∧o0∧(∀b6:Nat,let c6:=W.linesN (0+b6);b6<l0→True∧c6=c6∧(∀d6:Nat,let e6:=W.lines (0+b6) (0+d6);d6<c6→True∧e6=e6)))∧u0∧(∀g6:Nat,g6<q0→True∧W.bits (0+g6)=W.bits (0+g6)))∧w0∧(∀h6:Nat,let k6:=W.cores (0+h6);h6<v0→True∧k6=k6))∧y0∧(∀l6:Nat,let o6:=W.readyN (0+l6);l6<x0→True∧o6=o6∧(∀q6:Nat,let u6:=W.ready (0+l6) (0+q6);q6<o6→True∧u6=u6)))∧a1∧(∀v6:Nat,let w6:=0+v6;let x6:=W.tlbsN w6;v6<z0→True∧
    x6=x6∧(∀y6:Nat,let z6:=W.tlbs w6 (0+y6);let a7:=z6.sp;let b7:=z6.pg;let c7:=z6.fr;let d7:=z6.wr;y6<x6→(((True∧a7=a7)∧b7=b7)∧c7=c7)∧d7=d7)))∧c1∧(∀e7:Nat,e7<b1→True∧W.doms (0+e7)=W.doms (0+e7)))∧d1)∧t=t∧True)∧True∧s_task_.match_1 (fun g7:X_task_=>Prop) (X_task_.mk e1 t) (fun h7:Wd=>fun k7:Int=>Szd h7))∧(g2=true→(e2=tmE W t∧((-1):Int)=(-1))∧k2∧l2∧q2∧v2∧(k0∧(∀l7:Nat,let o7:=W.tasks l7;let q7:=tstW_tasks W t l7;l7<h0→(((((((((((((((((((True∧o7.r0=q7.r0)∧o7.r1=q7.r1)∧o7.r2=q7.r2)∧o7.r3=q7.r3)∧o7.r4=q7.r4)∧o7.r5=q7.r5)∧o7.r6=q7.r6)∧o7.r7=q7.r7)∧o7.pc=q7.pc)∧o7.st=q7.st)∧o7.prio=q7.prio)∧o7.node=q7.node)∧o7.space=q7.space)∧o7.helper=q7.helper)∧o7.loc=q7.loc)∧o7.word=q7.word)∧o7.badge=q7.badge)∧o7.owes=q7.owes)∧o7.core=q7.core)∧o7.dom=q7.dom))∧(o0∧(∀u7:Nat,let v7:=tstW_linesN W t u7;u7<l0→True∧W.linesN u7=v7∧(∀w7:Nat,w7<v7→True∧W.lines u7 w7=tstW_lines W t u7 w7)))∧g3∧(w0∧(∀x7:Nat,x7<v0→True∧W.cores x7=tstW_cores W t x7))∧(y0∧(∀y7:Nat,let z7:=tstW_readyN W t y7;y7<x0→True∧W.readyN y7=z7∧(∀a8:Nat,a8<z7→True∧W.ready y7 a8=tstW_ready W t y7 a8)))∧k3)∧(g2=false→((SV.ptr 0 0 none 0 0=SV.ptr 0 0 none 0 0∧t=t∧True)∧(k2∧l2∧q2∧v2∧(k0∧(∀b8:Nat,let c8:=W.tasks b8;let d8:=c8.prio;let e8:=c8.node;let g8:=c8.space;let h8:=c8.helper;let k8:=c8.loc;let l8:=c8.word;let o8:=c8.badge;let q8:=c8.owes;let r8:=c8.core;let u8:=c8.dom;b8<h0→(((((((((((((((((((True∧c8.r0=c8.r0)∧c8.r1=c8.r1)∧c8.r2=c8.r2)∧c8.r3=c8.r3)∧c8.r4=c8.r4)∧c8.r5=c8.r5)∧c8.r6=c8.r6)∧c8.r7=c8.r7)∧c8.pc=c8.pc)∧c8.st=c8.st)∧d8=d8)∧
    e8=e8)∧g8=g8)∧h8=h8)∧k8=k8)∧l8=l8)∧o8=o8)∧q8=q8)∧r8=r8)∧u8=u8))∧(o0∧(∀v8:Nat,let w8:=W.linesN v8;v8<l0→True∧w8=w8∧(∀x8:Nat,x8<w8→True∧W.lines v8 x8=W.lines v8 x8)))∧g3∧(w0∧(∀y8:Nat,y8<v0→True∧W.cores y8=W.cores y8))∧(y0∧(∀z8:Nat,let a9:=W.readyN z8;z8<x0→True∧a9=a9∧(∀b9:Nat,b9<a9→True∧W.ready z8 b9=W.ready z8 b9)))∧k3)∧0≤t∧t<(h0:Int)∧Inv 1000 W)∧(tmE W t=0∧((-1):Int)=(-1))∧k2∧l2∧q2∧v2∧(k0∧(∀c9:Nat,let d9:=sdS W a4 (-1) 0 c9;let e9:=tstW_tasks W t c9;let g9:=d9.owes;c9<h0→(((((((((((((((((((True∧d9.r0=e9.r0)∧d9.r1=e9.r1)∧d9.r2=e9.r2)∧d9.r3=e9.r3)∧d9.r4=e9.r4)∧d9.r5=e9.r5)∧d9.r6=e9.r6)∧d9.r7=e9.r7)∧d9.pc=e9.pc)∧d9.st=e9.st)∧d9.prio=e9.prio)∧d9.node=e9.node)∧d9.space=e9.space)∧d9.helper=e9.helper)∧d9.loc=e9.loc)∧d9.word=e9.word)∧d9.badge=e9.badge)∧cond (g9==t) (-1) g9=e9.owes)∧d9.core=e9.core)∧d9.dom=e9.dom))∧(o0∧(∀h9:Nat,let k9:=tstW_linesN W t h9;h9<l0→True∧lvLN W t h9=k9∧(∀l9:Nat,l9<k9→True∧lvL W t h9 l9=tstW_lines W t h9 l9)))∧g3∧(w0∧(∀o9:Nat,o9<v0→True∧ofC W t o9=tstW_cores W t o9))∧(y0∧(∀q9:Nat,let r9:=tstW_readyN W t q9;q9<x0→True∧lvRN W t q9=r9∧(∀u9:Nat,u9<r9→True∧lvR W t q9 u9=tstW_ready W t q9 u9)))∧k3)
set_option maxHeartbeats 1000000 in
theorem ok_stopP:FnOK Tryz.prog glN 117 c_stopP:=ok_of (.cons ok_task_ (.cons ok_leave .nil)) false Tryz.call117 Tryz.func117 (fun _=> []) (V:=V_stopP) (fun _=>by kernel_rfl) fun ⟨t,W⟩ hp=>by
  dsimp only [s_stopP] at hp
  dsimp only [V_stopP,tn,w64]
  simp only [std,stb,eq_self,implies_true,Bool.cond_self]
  try simp only [wd_eta]
  have hI:=hp.i
  have z1:=hI.z.tasks
  refine ⟨hI.z,fun h=>?_,fun h=>?_⟩
  · have hc:(tmE W t==0)=false:=ne0 h
    have e_:=tstW_f hc
    have e_tasks:tstW_tasks W t=_:=congrArg Wd.tasks e_
    have e_linesN:tstW_linesN W t=_:=congrArg Wd.linesN e_
    have e_lines:tstW_lines W t=_:=congrArg Wd.lines e_
    have e_cores:tstW_cores W t=_:=congrArg Wd.cores e_
    have e_readyN:tstW_readyN W t=_:=congrArg Wd.readyN e_
    have e_ready:tstW_ready W t=_:=congrArg Wd.ready e_
    simp only [e_tasks,e_linesN,e_lines,e_cores,e_readyN,e_ready]
    clear e_ e_tasks e_linesN e_lines e_cores e_readyN e_ready
    repeat' (first|exact trivial|exact run20 rfl|rfl|refine And.intro ?_ ?_|intro _|fail)
  · have hc:(tmE W t==0)=true:=eq0 h
    obtain ⟨t0,t1,hk⟩:=tm_0 (eq_of_beq hc)
    refine ⟨⟨t0,by omega,hI.mono (by decide)⟩,eq_of_beq hc,?_⟩
    have e_:=tstW_t hc
    have e_tasks:tstW_tasks W t=_:=congrArg Wd.tasks e_
    have e_linesN:tstW_linesN W t=_:=congrArg Wd.linesN e_
    have e_lines:tstW_lines W t=_:=congrArg Wd.lines e_
    have e_cores:tstW_cores W t=_:=congrArg Wd.cores e_
    have e_readyN:tstW_readyN W t=_:=congrArg Wd.readyN e_
    have e_ready:tstW_ready W t=_:=congrArg Wd.ready e_
    simp only [e_tasks,e_linesN,e_lines,e_cores,e_readyN,e_ready]
    clear e_ e_tasks e_linesN e_lines e_cores e_readyN e_ready
    repeat' (first|exact trivial|exact run20 rfl|rfl|refine And.intro ?_ ?_|intro _|fail)
end Go.Proofs.YtdjilaofmdhikaaGreatDoor
