/- The law TreeRevokes -/
import Derived.Test.YtmieeldmfehpoaaGreatDoorYP
import Derived.Test.YtmieeldmfehpoaaGreatDoorYI
import Derived.OpenShut
import Derived.ChangeArms
import Derived.MakeChecks
import Derived.Lay
import Derived.Test.YtmieeldmfehpoaaGreatDoorTie
import Derived.ChangeSame
import Derived.ChangeVars
import Derived.JoinedOf
import Derived.RowKit
import Derived.LaidLaws
import Derived.LaidHandle
import Derived.Stop.Joined
import Derived.SevenTiedAt
import Derived.OpenVars
import Derived.Test.YtmieeldmfehpoaaGreatDoorCards
set_option linter.unusedVariables false
set_option linter.unusedSimpArgs false
set_option linter.unusedVariables false
set_option linter.unusedSimpArgs false
set_option maxRecDepth 100000
namespace Go.Proofs.YtmieeldmfehpoaaGreatDoor
open Go.RowKit Go.Sy
theorem OT {W:Wd} (h:Sm W/\gA W):JJ W/\cE W<=400:=by
  obtain⟨hs,hw⟩:=h
  have hi:=(MG hw hs).mono (show 50<=1000 by decide)
  have z:=hw.z
  have z1:=z.aj
  have z2:=z.tasks
  have z3:=z.af
  have z4:=z.k1
  have ht: ∀c,c<W.aG-> ∀k,k<W.aA c->eX W (W.aj c) k=true:=λc hc k hk=>by
    have h:=hw.tl c (by omega)
    unfold cI at h
    rw[Bool.and_eq_true]at h
    exact j5.1 h.2 k hk
  refine⟨⟨⟨hi,λc hc k hk=>?_,λi hiT f hf he=>?_⟩,λc hc k hk=>?_⟩,Nat.le_trans (jt _ _) (by omega)⟩
  · have h:=ht c hc k hk
    unfold eX at h
    simp only[Bool.and_eq_true,Bool.not_eq_true']at h
    exact lg h.1.1.1.1.2
  · have h:=hw.tk i (by omega)
    unfold cS at h
    cases hk:W.kinds i !=6 with
    |true=>
     have h:ke (W.tasks i) bu.blank=true:=by simpa [hk]using h
     rw[Jd h]at he
     have he:(-1:Int)=f:=he
     omega
    |false=>
     simp only[hk,cond_false,Bool.and_eq_true]at h
     have h3:=h.1.1.1.2
     unfold jO at h3
     simp only[Bool.and_eq_true]at h3
     have h7:=h3.1.2
     unfold okF at h7
     rw[he,DR (by omega)]at h7
     simp only[Bool.or_eq_true,beq_iff_eq]at h7
     rcases h7 with h|h
     · omega
     · exact h
  · have h:=ht c hc k hk
    unfold eX at h
    simp only[Bool.and_eq_true]at h
    unfold cb
    rw[h.1.1.1.2,h.1.1.2,h.1.2]
    rfl
theorem Ez {W:Wd} (h:Sm W/\gA W):JJ W/\cE W<=400/\mA W:=⟨(OT h).1,(OT h).2,_,OU h.2⟩
theorem TC (n:Nat) (f:Nat->Int):dk n f n f=true:=by simp[dk,j5]
structure MH where
  (s:Int) (W:Wd)
def MI:Sy.Spec:=⟨MH,λ⟨s,_⟩=> [.ptr 0 0 none 0 0,.pt true 1 (λ_=> .v (.int .i64 s))],λ⟨_,W⟩=>bQ W,λ⟨_,W⟩=>Sm W/\gA W,λ⟨s,W⟩=> .er 35 79 (bR W s) (-1),λ⟨s,W⟩=>bQ (gg W s),
  λargs mem=>match args with| [a0,a1]=>some ⟨av (bx a1 0),dL mem 0⟩|_=>none⟩
def W9:aQ:=⟨[true],(MI).g,none⟩
def MK:MH->Prop:=λ⟨s,W⟩=>let a0:=SV.ptr 0 0 none 0 0;((a0=a0/\s=s/\True)/\ak W W True/\JJ W/\cE W<=400/\(∃b0:∀c0:Nat,Nat,(∀d0:Nat,b0 d0<=400)/\(∀e0:Nat,let g0:=(W.af e0).from_;e0<W.aw->0<=g0->b0 (Int.toNat g0)<b0 e0)))/\(bR W s=bR W s/\((-1):Int)=(-1))/\ak (gg W s) (gg W s) True
set_option maxHeartbeats 2000000 in
theorem Vy:aL Tryz.prog ia 17 W9:=aW (.cons (Q'.up ft) .nil) false Tryz.call17 Tryz.func17 (λ_=> []) (V:=MK) (λ_=>by kernel_rfl) λ⟨s,W⟩ hp=>by
  dsimp only[MI]at hp
  dsimp only[MK,tn,ah,ak,aE,aD,ay]
  simp only[aS,aZ,eq_self,implies_true,Bool.cond_self]
  try simp only[cu]
  exact Ez hp
structure ML where
  (W:Wd) (s:Int)
def MM:Sy.Spec:=⟨ML,λ⟨W,s⟩=> [eY W,.fn 17 1 (aH [.pt true 1 (λ_=> .v (.int .i64 s))])],λ_=> [],λ⟨W,_⟩=>Sm W/\gA W,λ⟨W,s⟩=> .tp 2 (aH [tU (mC (bR W s) (gg W s)),.er 35 79 (bR W s) (-1)]),λ_=> [],
  λargs mem=>match args with| [a0,a1]=>(match fN 17 a1 with|true=>some ⟨eP a0,av (bx (dc a1 0) 0)⟩|false=>none)|_=>none⟩
def W_:aQ:=⟨[],(MM).g,none⟩
def MN:ML->Prop:=λ⟨W,s⟩=>let a0:=W.ar;let b0:=W.aw;let c0:=W.az;let d0:=W.ba;let e0:=W.aP;let g0:=W.aT;let h0:=(((((((((((True/\W.aq=W.aq/\(∀k0:Nat,k0<W.aq->True/\W.aa k0=W.aa k0))/\a0=a0/\(∀l0:Nat,l0<a0->True/\W.kinds l0=W.kinds l0))/\b0=b0/\(∀o0:Nat,o0<b0->aD (W.af o0) (W.af o0)))/\c0=c0/\(∀q0:Nat,q0<c0->aE (W.tasks q0) (W.tasks q0)))/\d0=d0/\(∀r0:Nat,let u0:=W.ao r0;r0<d0->True/\u0=u0/\(∀v0:Nat,v0<u0->True/\W.lines r0 v0=W.lines r0 v0)))/\W.aN=W.aN/\(∀w0:Nat,w0<W.aN->True/\W.bits w0=W.bits w0))/\e0=e0/\(∀x0:Nat,x0<e0->True/\W.aF x0=W.aF x0))/\g0=g0/\(∀y0:Nat,let z0:=W.aJ y0;y0<g0->True/\z0=z0/\(∀a1:Nat,a1<z0->True/\W.ready y0 a1=W.ready y0 a1)))/\W.aG=W.aG/\(∀b1:Nat,let c1:=W.aA b1;b1<W.aG->True/\c1=c1/\(∀d1:Nat,d1<c1->ay (W.aj b1 d1) (W.aj b1 d1))))/\W.aI=W.aI/\(∀e1:Nat,e1<W.aI->True/\W.aM e1=W.aM e1))/\W.time=W.time)/\True;let g1:=tn 10 True;let J:=bR W s;let k1:=gg W s;let l1:=mC J k1;let o1:=l1.aq;let q1:=l1.ar;let r1:=l1.aw;let u1:=l1.az;let v1:=l1.ba;let w1:=l1.aN;let x1:=l1.aP;let y1:=l1.aT;let z1:=l1.aG;let a2:=l1.aI;let b2:=l1.time;let c2:=True/\((((((((((True/\o1=0)/\q1=0)/\r1=0)/\u1=0)/\v1=0)/\w1=0)/\x1=0)/\y1=0)/\z1=0)/\a2=0)/\0=b2;let d2:=((-1):Int)=(-1);let e2:=J !=0;tn 2 ((h0/\True/\uM.match_1 (λg2:oH=>Prop) (oH.mk W) (λU:Wd=>Sm U))/\((wE W !=0)=true->g1/\(c2/\(8:Int)≠0/\J=8/\d2)/\True)/\((wE W !=0)=false->(h0/\True/\Cd.match_1 (λk2:xX=>Prop) (xX.mk W) (λl2:Wd=>Lg l2))/\
    g1/\((SV.ptr 0 0 none 0 0=SV.ptr 0 0 none 0 0/\(True/\s=s)/\True)/\ak W W True/\Sm W/\gA W)/\(e2=true->g1/\(c2/\J=J/\d2)/\True)/\(e2=false->g1/\((True/\((((((((((True/\k1.aq=o1/\(∀o2:Nat,o2<o1->True/\k1.aa (0+o2)=l1.aa o2))/\k1.ar=q1/\(∀q2:Nat,q2<q1->True/\k1.kinds (0+q2)=l1.kinds q2))/\k1.aw=r1/\(∀r2:Nat,r2<r1->aD (k1.af (0+r2)) (l1.af r2)))/\k1.az=u1/\(∀u2:Nat,u2<u1->aE (k1.tasks (0+u2)) (l1.tasks u2)))/\k1.ba=v1/\(∀v2:Nat,v2<v1->True/\k1.ao (0+v2)=l1.ao v2/\(∀w2:Nat,w2<l1.ao v2->True/\k1.lines (0+v2) (0+w2)=l1.lines v2 w2)))/\k1.aN=w1/\(∀x2:Nat,x2<w1->True/\k1.bits (0+x2)=l1.bits x2))/\k1.aP=x1/\(∀y2:Nat,y2<x1->True/\k1.aF (0+y2)=l1.aF y2))/\k1.aT=y1/\(∀z2:Nat,z2<y1->True/\k1.aJ (0+z2)=l1.aJ z2/\(∀a3:Nat,a3<l1.aJ z2->True/\k1.ready (0+z2) (0+a3)=l1.ready z2 a3)))/\k1.aG=z1/\(∀b3:Nat,b3<z1->True/\k1.aA (0+b3)=l1.aA b3/\(∀c3:Nat,c3<l1.aA b3->ay (k1.aj (0+b3) (0+c3)) (l1.aj b3 c3))))/\k1.aI=a2/\(∀d3:Nat,d3<a2->True/\k1.aM (0+d3)=l1.aM d3))/\k1.time=b2)/\J=0/\d2)/\True)))
set_option maxHeartbeats 2000000 in
theorem Vz:aL Tryz.prog ia 16 W_:=aW (.cons (BM.up ft) (.cons (Sr.up ft) (.cons Vy .nil))) false Tryz.call16 Tryz.func16 (λ_=> []) (V:=MN) (λ_=>by kernel_rfl) λ⟨W,s⟩ hp=>by
  dsimp only[MM]at hp
  dsimp only[MN,tn,ah,ak,aE,aD,ay]
  simp only[aS,aZ,eq_self,implies_true,Bool.cond_self]
  obtain⟨hs,hw⟩:=hp
  have h0:=PQ hw
  refine⟨hs,λh=>absurd (by simpa using h0) (by simpa using h),λ_=>⟨zF hs,⟨hs,hw⟩,λU=>?_,λU=>?_⟩⟩
  · simp only[λX=>MO X (A6 U)]
    repeat' (first|exact trivial|rfl|refine And.intro ?_ ?_|intro _|exact absurd ‹_› (Nat.not_lt_zero _)|fail)
  · simp only[λX=>KF X (tV U)]
    repeat' (first|exact trivial|rfl|refine And.intro ?_ ?_|intro _|exact absurd ‹_› (Nat.not_lt_zero _)|fail)
    exact eq_of_beq (tV U)
structure MP where
  (W:Wd) (s:Int)
def MQ:Sy.Spec:=⟨MP,λ⟨W,s⟩=> [eY W,.v (.int .i64 s)],λ_=> [],λ⟨W,_⟩=>Sm W/\gA W,λ⟨W,s⟩=> .tp 2 (aH [tU (mC (bR W s) (gg W s)),.er 35 79 (bR W s) (-1)]),λ_=> [],
  λargs mem=>match args with| [a0,a1]=>some ⟨eP a0,av (a1)⟩|_=>none⟩
def Xa:aQ:=⟨[],(MQ).g,none⟩
def MR:MP->Prop:=λ⟨W,s⟩=>let a0:=W.ar;let b0:=W.aw;let c0:=W.az;let d0:=W.ba;let e0:=W.aP;let g0:=W.aT;let h0:=bR W s;let k0:=mC h0 (gg W s);let l0:=k0.aq;let o0:=k0.ar;let q0:=k0.aw;let r0:=k0.az;let u0:=k0.ba;let v0:=k0.aN;let w0:=k0.aP;let x0:=k0.aT;let y0:=k0.aG;let z0:=k0.aI;let a1:=k0.time;tn 3 ((((((((((((((True/\W.aq=W.aq/\(∀b1:Nat,b1<W.aq->True/\W.aa b1=W.aa b1))/\a0=a0/\(∀c1:Nat,c1<a0->True/\W.kinds c1=W.kinds c1))/\b0=b0/\(∀d1:Nat,d1<b0->aD (W.af d1) (W.af d1)))/\c0=c0/\(∀e1:Nat,e1<c0->aE (W.tasks e1) (W.tasks e1)))/\d0=d0/\(∀g1:Nat,let J:=W.ao g1;g1<d0->True/\J=J/\(∀k1:Nat,k1<J->True/\W.lines g1 k1=W.lines g1 k1)))/\W.aN=W.aN/\(∀l1:Nat,l1<W.aN->True/\W.bits l1=W.bits l1))/\e0=e0/\(∀o1:Nat,o1<e0->True/\W.aF o1=W.aF o1))/\g0=g0/\(∀q1:Nat,let r1:=W.aJ q1;q1<g0->True/\r1=r1/\(∀u1:Nat,u1<r1->True/\W.ready q1 u1=W.ready q1 u1)))/\W.aG=W.aG/\(∀v1:Nat,let w1:=W.aA v1;v1<W.aG->True/\w1=w1/\(∀x1:Nat,x1<w1->ay (W.aj v1 x1) (W.aj v1 x1))))/\W.aI=W.aI/\(∀y1:Nat,y1<W.aI->True/\W.aM y1=W.aM y1))/\W.time=W.time)/\tn 2 (s=s)/\True)/\True/\Sm W/\gA W)/\tn 10 True/\((True/\((((((((((True/\l0=l0/\(∀z1:Nat,z1<l0->True/\k0.aa z1=k0.aa z1))/\o0=o0/\(∀a2:Nat,a2<o0->True/\k0.kinds a2=k0.kinds a2))/\q0=q0/\(∀b2:Nat,b2<q0->aD (k0.af b2) (k0.af b2)))/\r0=r0/\(∀c2:Nat,c2<r0->aE (k0.tasks c2) (k0.tasks c2)))/\u0=u0/\(∀d2:Nat,let e2:=k0.ao d2;d2<u0->True/\e2=e2/\(∀g2:Nat,g2<e2->True/\k0.lines d2 g2=k0.lines d2 g2)))/\v0=v0/\(∀U:Nat,U<v0->True/\
    k0.bits U=k0.bits U))/\w0=w0/\(∀k2:Nat,k2<w0->True/\k0.aF k2=k0.aF k2))/\x0=x0/\(∀l2:Nat,let o2:=k0.aJ l2;l2<x0->True/\o2=o2/\(∀q2:Nat,q2<o2->True/\k0.ready l2 q2=k0.ready l2 q2)))/\y0=y0/\(∀r2:Nat,let u2:=k0.aA r2;r2<y0->True/\u2=u2/\(∀v2:Nat,v2<u2->ay (k0.aj r2 v2) (k0.aj r2 v2))))/\z0=z0/\(∀w2:Nat,w2<z0->True/\k0.aM w2=k0.aM w2))/\a1=a1)/\h0=h0/\((-1):Int)=(-1))/\True)
set_option maxHeartbeats 2000000 in
theorem VA:aL Tryz.prog ia 5 Xa:=aW (.cons Vz .nil) false Tryz.call5 Tryz.func5 (λ_=> []) (V:=MR) (λ_=>by kernel_rfl) λ⟨W,s⟩ hp=>by
  dsimp only[MQ]at hp
  dsimp only[MR,tn,ah,ak,aE,aD,ay]
  simp only[aS,aZ,eq_self,implies_true,Bool.cond_self]
  try simp only[cu]
  exact hp
structure MS where
  (W:Wd) (s:Int)
def MT:Sy.Spec:=⟨MS,λ⟨W,s⟩=> [eY W,.v (.int .i64 s)],λ_=> [],λ⟨W,_⟩=>Sm W/\wE W≠0,λ_=> .tp 2 (aH [tU oW,.er 35 79 8 (-1)]),λ_=> [],
  λargs mem=>match args with| [a0,a1]=>some ⟨eP a0,av (a1)⟩|_=>none⟩
def Xb:aQ:=⟨[],(MT).g,none⟩
def MU:MS->Prop:=λ⟨W,_⟩=>let a0:=W.ar;let b0:=W.aw;let c0:=W.az;let d0:=W.ba;let e0:=W.aP;let g0:=W.aT;let h0:=0=0/\(∀k0:Nat,k0<0->True/\(0:Int)=0);let l0:=True/\h0;let o0:=cp.mk 0 0 0 0 0 0 0;let q0:=bu.mk 0 0 0 0 0 0 0 0 0 0 0 (-1) (-1) (-1) (-1) 0 0 (-1) 0 0;let r0:=0=0/\(∀u0:Nat,u0<0->l0);let v0:=bI.mk 0 0 0 false;tn 3 ((((((((((((((True/\W.aq=W.aq/\(∀w0:Nat,w0<W.aq->True/\W.aa w0=W.aa w0))/\a0=a0/\(∀x0:Nat,x0<a0->True/\W.kinds x0=W.kinds x0))/\b0=b0/\(∀y0:Nat,y0<b0->aD (W.af y0) (W.af y0)))/\c0=c0/\(∀z0:Nat,z0<c0->aE (W.tasks z0) (W.tasks z0)))/\d0=d0/\(∀a1:Nat,let b1:=W.ao a1;a1<d0->True/\b1=b1/\(∀c1:Nat,c1<b1->True/\W.lines a1 c1=W.lines a1 c1)))/\W.aN=W.aN/\(∀d1:Nat,d1<W.aN->True/\W.bits d1=W.bits d1))/\e0=e0/\(∀e1:Nat,e1<e0->True/\W.aF e1=W.aF e1))/\g0=g0/\(∀g1:Nat,let J:=W.aJ g1;g1<g0->True/\J=J/\(∀k1:Nat,k1<J->True/\W.ready g1 k1=W.ready g1 k1)))/\W.aG=W.aG/\(∀l1:Nat,let o1:=W.aA l1;l1<W.aG->True/\o1=o1/\(∀q1:Nat,q1<o1->ay (W.aj l1 q1) (W.aj l1 q1))))/\W.aI=W.aI/\(∀r1:Nat,r1<W.aI->True/\W.aM r1=W.aM r1))/\W.time=W.time)/\True/\True)/\True/\Sm W/\wE W≠0)/\tn 10 True/\((True/\(((((((((l0/\h0)/\0=0/\(∀u1:Nat,u1<0->aD o0 o0))/\0=0/\(∀v1:Nat,v1<0->aE q0 q0))/\r0)/\h0)/\h0)/\r0)/\0=0/\(∀w1:Nat,w1<0->True/\0=0/\(∀x1:Nat,x1<0->ay v0 v0)))/\h0)/\(0:Int)=0)/\(8:Int)=8/\((-1):Int)=(-1))/\True)
set_option maxHeartbeats 2000000 in
theorem VB:aL Tryz.prog ia 5 Xb:=aW (.cons TD .nil) false Tryz.call5 Tryz.func5 (λ_=> []) (V:=MU) (λ_=>by kernel_rfl) λ⟨W,s⟩ hp=>by
  dsimp only[MT]at hp
  dsimp only[MU,tn,ah,ak,aE,aD,ay]
  simp only[aS,aZ,eq_self,implies_true,Bool.cond_self]
  try simp only[cu]
  exact hp
structure MV where
  (s:Int) (W:Wd)
def MW:Sy.Spec:=⟨MV,λ⟨s,_⟩=> [.ptr 0 0 none 0 0,.pt true 1 (λ_=> .v (.int .i64 s))],λ⟨_,W⟩=>bQ W,λ⟨_,W⟩=>Sm W/\gA W,λ⟨s,W⟩=> .v (.int .i64 (bR W s)),λ⟨s,W⟩=>bQ (gg W s),
  λargs mem=>match args with| [a0,a1]=>some ⟨av (bx a1 0),dL mem 0⟩|_=>none⟩
def Xc:aQ:=⟨[true],(MW).g,none⟩
def MX:MV->Prop:=λ⟨s,W⟩=>let a0:=SV.ptr 0 0 none 0 0;((a0=a0/\s=s/\True)/\ak W W True/\JJ W/\cE W<=400/\(∃b0:∀c0:Nat,Nat,(∀d0:Nat,b0 d0<=400)/\(∀e0:Nat,let g0:=(W.af e0).from_;e0<W.aw->0<=g0->b0 (Int.toNat g0)<b0 e0)))/\bR W s=bR W s/\ak (gg W s) (gg W s) True
set_option maxHeartbeats 2000000 in
theorem VC:aL Tryz.prog ia 8 Xc:=aW (.cons (Bl.up ft) .nil) false Tryz.call8 Tryz.func8 (λ_=> []) (V:=MX) (λ_=>by kernel_rfl) λ⟨s,W⟩ hp=>by
  dsimp only[MW]at hp
  dsimp only[MX,tn,ah,ak,aE,aD,ay]
  simp only[aS,aZ,eq_self,implies_true,Bool.cond_self]
  try simp only[cu]
  exact Ez hp
structure MY where
  (W:Wd) (s:Int)
def MZ:Sy.Spec:=⟨MY,λ⟨W,s⟩=> [tU (mC (bR W s) (gg W s)),.er 35 79 (bR W s) (-1),eY W,.v (.int .i64 0),.fn 8 1 (aH [.pt true 1 (λ_=> .v (.int .i64 s))])],λ_=> [],λ⟨W,_⟩=>Sm W/\gA W,λ_=> .v (.bool true),λ_=> [],
  λargs mem=>match args with| [a0,a1,a2,a3,a4]=>(match fN 8 a4 with|true=>some ⟨eP a2,av (bx (dc a4 0) 0)⟩|false=>none)|_=>none⟩
def Xd:aQ:=⟨[],(MZ).g,none⟩
def M6:MY->Prop:=λ⟨W,s⟩=>let a0:=W.aq;let b0:=a0=a0;let c0:=W.ar;let d0:=c0=c0;let e0:=W.aw;let g0:=e0=e0;let h0:=W.az;let k0:=h0=h0;let l0:=W.ba;let o0:=l0=l0;let q0:=W.aN;let r0:=q0=q0;let u0:=W.aP;let v0:=u0=u0;let w0:=W.aT;let x0:=w0=w0;let y0:=W.aG;let z0:=y0=y0;let a1:=W.aI;let b1:=a1=a1;let c1:=W.time=W.time;let d1:=True/\True;let e1:=bR W s;let g1:=e1 !=0;let J:=e1=e1;let k1:=((-1):Int)=(-1);let l1:=J/\k1;let o1:=e1==e1&&((-1):Int)==(-1);let q1:=gg W s;let r1:=mC e1 q1;let u1:=r1.aq;let v1:=r1.ar;let w1:=r1.aw;let x1:=r1.az;let y1:=r1.ba;let z1:=r1.aN;let a2:=r1.aP;let b2:=r1.aT;let c2:=r1.aG;let d2:=r1.aI;let e2:=r1.time;let g2:=((((((((((True/\u1=u1/\(∀U:Nat,U<u1->True/\r1.aa U=r1.aa U))/\v1=v1/\(∀k2:Nat,k2<v1->True/\r1.kinds k2=r1.kinds k2))/\w1=w1/\(∀l2:Nat,l2<w1->aD (r1.af l2) (r1.af l2)))/\x1=x1/\(∀o2:Nat,o2<x1->aE (r1.tasks o2) (r1.tasks o2)))/\y1=y1/\(∀q2:Nat,let r2:=r1.ao q2;q2<y1->True/\r2=r2/\(∀u2:Nat,u2<r2->True/\r1.lines q2 u2=r1.lines q2 u2)))/\z1=z1/\(∀v2:Nat,v2<z1->True/\r1.bits v2=r1.bits v2))/\a2=a2/\(∀w2:Nat,w2<a2->True/\r1.aF w2=r1.aF w2))/\b2=b2/\(∀x2:Nat,let y2:=r1.aJ x2;x2<b2->True/\y2=y2/\(∀z2:Nat,z2<y2->True/\r1.ready x2 z2=r1.ready x2 z2)))/\c2=c2/\(∀a3:Nat,let b3:=r1.aA a3;a3<c2->True/\b3=b3/\(∀c3:Nat,c3<b3->ay (r1.aj a3 c3) (r1.aj a3 c3))))/\d2=d2/\(∀d3:Nat,d3<d2->True/\r1.aM d3=r1.aM d3))/\e2=e2;let e3:=(g2/\True)/\True/\u1=0/\v1=0/\w1=0/\x1=0/\y1=0/\z1=0/\a2=0/\b2=0/\c2=0/\d2=0/\e2=0;let g3:=e1==0;
    let h3:=g3=true;let k3:=q1.aq;let l3:=q1.ar;let o3:=q1.aw;let q3:=q1.az;let r3:=q1.ba;let u3:=q1.aN;let v3:=q1.aP;let w3:=q1.aT;let x3:=q1.aG;let y3:=q1.aI;let z3:=q1.time;let a4:=g3&&((-1):Int)==(-1);tn 2 ((((((((((((((True/\b0/\(∀b4:Nat,b4<a0->True/\W.aa b4=W.aa b4))/\d0/\(∀c4:Nat,c4<c0->True/\W.kinds c4=W.kinds c4))/\g0/\(∀d4:Nat,d4<e0->aD (W.af d4) (W.af d4)))/\k0/\(∀e4:Nat,e4<h0->aE (W.tasks e4) (W.tasks e4)))/\o0/\(∀g4:Nat,let h4:=W.ao g4;g4<l0->True/\h4=h4/\(∀k4:Nat,k4<h4->True/\W.lines g4 k4=W.lines g4 k4)))/\r0/\(∀l4:Nat,l4<q0->True/\W.bits l4=W.bits l4))/\v0/\(∀o4:Nat,o4<u0->True/\W.aF o4=W.aF o4))/\x0/\(∀q4:Nat,let r4:=W.aJ q4;q4<w0->True/\r4=r4/\(∀u4:Nat,u4<r4->True/\W.ready q4 u4=W.ready q4 u4)))/\z0/\(∀v4:Nat,let w4:=W.aA v4;v4<y0->True/\w4=w4/\(∀x4:Nat,x4<w4->ay (W.aj v4 x4) (W.aj v4 x4))))/\b1/\(∀y4:Nat,y4<a1->True/\W.aM y4=W.aM y4))/\c1)/\True)/\True/\sD.match_1 (λz4:mN=>Prop) (mN.mk W) (λa5:Wd=>Lg a5))/\True/\tn 9 d1/\(((0:Int)==0)=true->((SV.ptr 0 0 none 0 0=SV.ptr 0 0 none 0 0/\(True/\s=s)/\True)/\ak W W True/\Sm W/\gA W)/\(g1=true->((J/\True)/\d1)/\((l1/\((True/\J)/\k1)/\True)/\d1)/\(o1=true->e3)/\cond o1 true false=true/\True)/\(g1=false->(h3->(g2/\(((((((((((True/\k3=k3/\(∀b5:Nat,b5<k3->True/\q1.aa (0+b5)=q1.aa (0+b5)))/\l3=l3/\(∀c5:Nat,let d5:=q1.kinds (0+c5);c5<l3->True/\d5=d5))/\o3=o3/\(∀e5:Nat,let g5:=q1.af (0+e5);e5<o3->aD g5 g5))/\q3=q3/\(∀h5:Nat,let k5:=q1.tasks (0+h5);h5<q3->aE k5 k5))/\r3=r3/\(∀l5:Nat,let o5:=q1.ao (0+l5);
    l5<r3->True/\o5=o5/\(∀q5:Nat,let r5:=q1.lines (0+l5) (0+q5);q5<o5->True/\r5=r5)))/\u3=u3/\(∀u5:Nat,u5<u3->True/\q1.bits (0+u5)=q1.bits (0+u5)))/\v3=v3/\(∀v5:Nat,let w5:=q1.aF (0+v5);v5<v3->True/\w5=w5))/\w3=w3/\(∀x5:Nat,let y5:=q1.aJ (0+x5);x5<w3->True/\y5=y5/\(∀z5:Nat,let a6:=q1.ready (0+x5) (0+z5);z5<y5->True/\a6=a6)))/\x3=x3/\(∀b6:Nat,let c6:=q1.aA (0+b6);b6<x3->True/\c6=c6/\(∀d6:Nat,let e6:=q1.aj (0+b6) (0+d6);d6<c6->ay e6 e6)))/\y3=y3/\(∀g6:Nat,g6<y3->True/\q1.aM (0+g6)=q1.aM (0+g6)))/\z3=z3)/\True)/\d1)/\cond g3 (kg r1 (Wd.mk k3 (λh6:Nat=>q1.aa (0+h6)) l3 (λk6:Nat=>q1.kinds (0+k6)) o3 (λl6:Nat=>q1.af (0+l6)) q3 (λo6:Nat=>q1.tasks (0+o6)) r3 (λq6:Nat=>q1.ao (0+q6)) (λr6:Nat=>λu6:Nat=>q1.lines (0+r6) (0+u6)) u3 (λv6:Nat=>q1.bits (0+v6)) v3 (λw6:Nat=>q1.aF (0+w6)) w3 (λx6:Nat=>q1.aJ (0+x6)) (λy6:Nat=>λz6:Nat=>q1.ready (0+y6) (0+z6)) x3 (λa7:Nat=>q1.aA (0+a7)) (λb7:Nat=>λc7:Nat=>q1.aj (0+b7) (0+c7)) y3 (λd7:Nat=>q1.aM (0+d7)) z3)) false=true/\True))/\(((0:Int)==0)=false->(((0:Int) !=0)=true->(((0:Int)=0/\True)/\d1)/\((l1/\((True/\(0:Int)=0)/\k1)/\True)/\d1)/\(a4=true->e3)/\cond a4 true false=true/\True)/\(((0:Int) !=0)=false->(h3->(g2/\(((((((((((True/\b0/\(∀e7:Nat,e7<a0->True/\W.aa (0+e7)=W.aa (0+e7)))/\d0/\(∀g7:Nat,let h7:=W.kinds (0+g7);g7<c0->True/\h7=h7))/\g0/\(∀k7:Nat,let l7:=W.af (0+k7);k7<e0->aD l7 l7))/\k0/\(∀o7:Nat,let q7:=W.tasks (0+o7);o7<h0->aE q7 q7))/\o0/\(∀r7:Nat,let u7:=W.ao (0+r7);r7<l0->True/\u7=u7/\(∀v7:Nat,
    let w7:=W.lines (0+r7) (0+v7);v7<u7->True/\w7=w7)))/\r0/\(∀x7:Nat,x7<q0->True/\W.bits (0+x7)=W.bits (0+x7)))/\v0/\(∀y7:Nat,let z7:=W.aF (0+y7);y7<u0->True/\z7=z7))/\x0/\(∀a8:Nat,let b8:=W.aJ (0+a8);a8<w0->True/\b8=b8/\(∀c8:Nat,let d8:=W.ready (0+a8) (0+c8);c8<b8->True/\d8=d8)))/\z0/\(∀e8:Nat,let g8:=W.aA (0+e8);e8<y0->True/\g8=g8/\(∀h8:Nat,let k8:=W.aj (0+e8) (0+h8);h8<g8->ay k8 k8)))/\b1/\(∀l8:Nat,l8<a1->True/\W.aM (0+l8)=W.aM (0+l8)))/\c1)/\True)/\d1)/\cond g3 (kg r1 (Wd.mk a0 (λo8:Nat=>W.aa (0+o8)) c0 (λq8:Nat=>W.kinds (0+q8)) e0 (λr8:Nat=>W.af (0+r8)) h0 (λu8:Nat=>W.tasks (0+u8)) l0 (λv8:Nat=>W.ao (0+v8)) (λw8:Nat=>λx8:Nat=>W.lines (0+w8) (0+x8)) q0 (λy8:Nat=>W.bits (0+y8)) u0 (λz8:Nat=>W.aF (0+z8)) w0 (λa9:Nat=>W.aJ (0+a9)) (λb9:Nat=>λc9:Nat=>W.ready (0+b9) (0+c9)) y0 (λd9:Nat=>W.aA (0+d9)) (λe9:Nat=>λg9:Nat=>W.aj (0+e9) (0+g9)) a1 (λh9:Nat=>W.aM (0+h9)) W.time)) false=true/\True)))
set_option maxHeartbeats 2000000 in
theorem VD:aL Tryz.prog ia 6 Xd:=aW (.cons (xY.up ft) (.cons zG (.cons (vk.up ft) (.cons Hx (.cons (GZ.up ft) (.cons VC .nil)))))) false Tryz.call6 Tryz.func6 (λ_=> []) (V:=M6) (λ_=>by kernel_rfl) λ⟨W,s⟩ hp=>by
  dsimp only[MZ]at hp
  dsimp only[M6,tn,ah,ak,aE,aD,ay]
  simp only[aS,aZ,eq_self,implies_true,Bool.cond_self]
  obtain⟨hs,hw⟩:=hp
  refine⟨zF hs,λ_=>⟨⟨hs,hw⟩,λU=>?_,λU=>?_⟩,λh=>absurd h (by decide)⟩
  · simp only[λX=>MO X (A6 U)]
    repeat' (first|exact trivial|rfl|refine And.intro ?_ ?_|intro _|exact absurd ‹_› (Nat.not_lt_zero _)|fail)
    simp
  · simp only[λX=>KF X (tV U)]
    simp only[tV U,Bool.true_and]
    exact RD _
structure GS where
  (W:Wd) (s:Int)
def pU:Sy.Spec:=⟨GS,λ⟨W,s⟩=> [eY W,.v (.int .i64 s)],λ_=> [],λ⟨W,_⟩=>gA W,λ_=> .v (.bool true),λ_=> [],
  λargs mem=>match args with| [a0,a1]=>some ⟨eP a0,av (a1)⟩|_=>none⟩
def Bh:GS->Prop:=λ⟨W,s⟩=>let a0:=W.ar;let b0:=W.aw;let c0:=W.az;let d0:=W.ba;let e0:=W.aP;let g0:=W.aT;let h0:=((((((((((True/\W.aq=W.aq/\(∀k0:Nat,k0<W.aq->True/\W.aa k0=W.aa k0))/\a0=a0/\(∀l0:Nat,l0<a0->True/\W.kinds l0=W.kinds l0))/\b0=b0/\(∀o0:Nat,o0<b0->aD (W.af o0) (W.af o0)))/\c0=c0/\(∀q0:Nat,q0<c0->aE (W.tasks q0) (W.tasks q0)))/\d0=d0/\(∀r0:Nat,let u0:=W.ao r0;r0<d0->True/\u0=u0/\(∀v0:Nat,v0<u0->True/\W.lines r0 v0=W.lines r0 v0)))/\W.aN=W.aN/\(∀w0:Nat,w0<W.aN->True/\W.bits w0=W.bits w0))/\e0=e0/\(∀x0:Nat,x0<e0->True/\W.aF x0=W.aF x0))/\g0=g0/\(∀y0:Nat,let z0:=W.aJ y0;y0<g0->True/\z0=z0/\(∀a1:Nat,a1<z0->True/\W.ready y0 a1=W.ready y0 a1)))/\W.aG=W.aG/\(∀b1:Nat,let c1:=W.aA b1;b1<W.aG->True/\c1=c1/\(∀d1:Nat,d1<c1->ay (W.aj b1 d1) (W.aj b1 d1))))/\W.aI=W.aI/\(∀e1:Nat,e1<W.aI->True/\W.aM e1=W.aM e1))/\W.time=W.time;let g1:=h0/\True;let J:=True/\True;let k1:=h0/\s=s/\True;let l1:=True/\Sm W/\gA W;let o1:=tn 9 J;let q1:=g1/\l1;let r1:=bR W s;let u1:=mC r1 (gg W s);let v1:=u1.aq;let w1:=u1.ar;let x1:=u1.aw;let y1:=u1.az;let z1:=u1.ba;let a2:=u1.aN;let b2:=u1.aP;let c2:=u1.aT;let d2:=u1.aG;let e2:=u1.aI;let g2:=u1.time;let U:=r1=r1;let k2:=((-1):Int)=(-1);let l2:=(0:Int)=0;let o2:=((0:Int)==0)=true;let q2:=∃r2:∀u2:Nat,Nat,(∀v2:Nat,r2 v2<=400)/\(∀w2:Nat,let x2:=(W.af w2).from_;w2<b0->0<=x2->r2 (Int.toNat x2)<r2 w2);let y2:=r1==0;let z2:=k1/\True/\Inv 1000 W/\q2/\0<=s;
    let a3:=k1/\True/\yw.match_1 (λb3:sE=>Prop) (sE.mk W s) (λc3:Wd=>λd3:Int=>Sm c3);let e3:=(U/\True)/\J;let g3:=jr W s;let h3:=g3=g3/\k2;let k3:=(h3/\((True/\U)/\k2)/\True)/\J;let l3:=g3==r1&&((-1):Int)==(-1);let o3:=l3=true;let q3:=jW W s;let r3:=q3=q3/\(∀u3:Nat,let v3:=gB W s (0+u3);u3<q3->True/\v3=v3);let w3:=fR W s;let x3:=(r3/\(w3=w3/\(∀y3:Nat,let z3:=gB W s (0+y3);y3<w3->True/\z3=z3))/\True)/\J;let a4:=dk q3 (λb4:Nat=>gB W s (0+b4)) w3 (λc4:Nat=>gB W s (0+c4));let d4:=(r3/\0=0/\True)/\J;let e4:=dk q3 (λg4:Nat=>gB W s (0+g4)) 0 (λh4:Nat=>0);let k4:=((0:Int)==0)=false;let l4:=(l2/\True)/\J;let o4:=(h3/\((True/\l2)/\k2)/\True)/\J;let q4:=g3==0&&((-1):Int)==(-1);let r4:=q4=true;tn 2 ((g1/\J)/\(jI W=true->true=true/\True)/\(jI W=false->(k1/\l1)/\True/\o1/\tn 4 (q1/\True/\(((((((((((((True/\v1=v1/\(∀u4:Nat,u4<v1->True/\u1.aa u4=u1.aa u4))/\w1=w1/\(∀v4:Nat,v4<w1->True/\u1.kinds v4=u1.kinds v4))/\x1=x1/\(∀w4:Nat,w4<x1->aD (u1.af w4) (u1.af w4)))/\y1=y1/\(∀x4:Nat,x4<y1->aE (u1.tasks x4) (u1.tasks x4)))/\z1=z1/\(∀y4:Nat,let z4:=u1.ao y4;y4<z1->True/\z4=z4/\(∀a5:Nat,a5<z4->True/\u1.lines y4 a5=u1.lines y4 a5)))/\a2=a2/\(∀b5:Nat,b5<a2->True/\u1.bits b5=u1.bits b5))/\b2=b2/\(∀c5:Nat,c5<b2->True/\u1.aF c5=u1.aF c5))/\c2=c2/\(∀d5:Nat,let e5:=u1.aJ d5;d5<c2->True/\e5=e5/\(∀g5:Nat,g5<e5->True/\u1.ready d5 g5=u1.ready d5 g5)))/\d2=d2/\(∀h5:Nat,let k5:=u1.aA h5;h5<d2->True/\k5=k5/\(∀l5:Nat,l5<k5->ay (u1.aj h5 l5) (u1.aj h5 l5))))/\e2=e2/\(∀o5:Nat,o5<e2->True/\
    u1.aM o5=u1.aM o5))/\g2=g2)/\(U/\k2)/\h0/\l2/\tn 2 (s=s)/\True)/\l1)/\((!true)=true->false=true/\True)/\((!true)=false->q1/\(o2->(g1/\True/\sD.match_1 (λq5:mN=>Prop) (mN.mk W) (λr5:Wd=>Lg r5))/\True/\o1/\((SV.ptr 0 0 none 0 0=SV.ptr 0 0 none 0 0/\s=s/\True)/\ak W W True/\JJ W/\cE W<=400/\q2)/\(y2=true->z2/\a3/\e3/\k3/\(o3->x3)/\cond l3 a4 false=true/\True)/\(y2=false->a3/\e3/\k3/\(o3->d4)/\cond l3 e4 false=true/\True))/\(k4->(o2->z2/\a3/\l4/\o4/\(r4->x3)/\cond q4 a4 false=true/\True)/\(k4->a3/\l4/\o4/\(r4->d4)/\cond q4 e4 false=true/\True))))))
set_option maxHeartbeats 2000000 in
theorem QO: ∀x,pU.pre x->ed Tryz.prog ia 3 (pU.args x) (pU.mem x) (pU.res x) (pU.bf x):=λx hp=>gG (.cons (xY.up ft) (.cons zG (.cons (vk.up ft) (.cons (yx.up ft) (.cons (G0.up ft) (.cons Ss (.cons VA (.cons VD (.cons (Je.up ft) (.cons (Ce.up ft) (.cons (Bl.up ft) .nil))))))))))) false Tryz.func3 ((λ_=> []) x) (V:=Bh x) (by kernel_rfl)<|(λ⟨W,s⟩ hp=>by
  dsimp only[pU]at hp
  dsimp only[Bh,tn,ah,ak,aE,aD,ay]
  simp only[aS,aZ,eq_self,implies_true,Bool.cond_self]
  try simp only[cu]
  intro h0
  have hs:=OV h0
  have k:=Ez ⟨hs,hp⟩
  have ew:wE W=0:=gA.iff.2 hp
  have e:jr W s=bR W s:=by unfold jr;rw[ew];rfl
  refine⟨⟨hs,hp⟩,⟨hs,hp⟩,⟨hs,hp⟩,λh=>absurd h (by decide),λ_=>⟨⟨hs,hp⟩,λ_=>⟨zF hs,k,λJ=>⟨⟨k.1.w.i,k.2.2,(lW J).1.1⟩,hs,?_⟩,λJ=>⟨hs,?_⟩⟩,λh=>absurd h (by decide)⟩⟩
  · have eN:jW W s=fR W s:=by unfold jW;rw[e,J];rfl
    rw[e,eN,TC];simp
  · have eN:jW W s=0:=by unfold jW;rw[e,J];rfl
    rw[e,eN];simp[dk,fe]
  : ∀x,pU.pre x->Bh x) x hp
structure GU where
  (W:Wd) (s:Int)
def pV:Sy.Spec:=⟨GU,λ⟨W,s⟩=> [eY W,.v (.int .i64 s)],λ_=> [],λ⟨W,_⟩=>wE W≠0,λ_=> .v (.bool true),λ_=> [],
  λargs mem=>match args with| [a0,a1]=>some ⟨eP a0,av (a1)⟩|_=>none⟩
def Bi:GU->Prop:=λ⟨W,s⟩=>let a0:=W.ar;let b0:=W.aw;let c0:=W.az;let d0:=W.ba;let e0:=W.aP;let g0:=W.aT;let h0:=((((((((((True/\W.aq=W.aq/\(∀k0:Nat,k0<W.aq->True/\W.aa k0=W.aa k0))/\a0=a0/\(∀l0:Nat,l0<a0->True/\W.kinds l0=W.kinds l0))/\b0=b0/\(∀o0:Nat,o0<b0->aD (W.af o0) (W.af o0)))/\c0=c0/\(∀q0:Nat,q0<c0->aE (W.tasks q0) (W.tasks q0)))/\d0=d0/\(∀r0:Nat,let u0:=W.ao r0;r0<d0->True/\u0=u0/\(∀v0:Nat,v0<u0->True/\W.lines r0 v0=W.lines r0 v0)))/\W.aN=W.aN/\(∀w0:Nat,w0<W.aN->True/\W.bits w0=W.bits w0))/\e0=e0/\(∀x0:Nat,x0<e0->True/\W.aF x0=W.aF x0))/\g0=g0/\(∀y0:Nat,let z0:=W.aJ y0;y0<g0->True/\z0=z0/\(∀a1:Nat,a1<z0->True/\W.ready y0 a1=W.ready y0 a1)))/\W.aG=W.aG/\(∀b1:Nat,let c1:=W.aA b1;b1<W.aG->True/\c1=c1/\(∀d1:Nat,d1<c1->ay (W.aj b1 d1) (W.aj b1 d1))))/\W.aI=W.aI/\(∀e1:Nat,e1<W.aI->True/\W.aM e1=W.aM e1))/\W.time=W.time;let g1:=h0/\True;let J:=True/\True;let k1:=h0/\s=s/\True;let l1:=True/\Sm W/\wE W≠0;let o1:=tn 9 J;let q1:=g1/\l1;let r1:=0=0;let u1:=r1/\(∀v1:Nat,v1<0->True/\(0:Int)=0);let w1:=True/\u1;let x1:=cp.mk 0 0 0 0 0 0 0;let y1:=bu.mk 0 0 0 0 0 0 0 0 0 0 0 (-1) (-1) (-1) (-1) 0 0 (-1) 0 0;let z1:=r1/\(∀a2:Nat,a2<0->w1);let b2:=bI.mk 0 0 0 false;let c2:=(8:Int)=8;let d2:=((-1):Int)=(-1);let e2:=((8:Int)==0)=true;let g2:=∃U:∀k2:Nat,Nat,(∀l2:Nat,U l2<=400)/\(∀o2:Nat,let q2:=(W.af o2).from_;o2<b0->0<=q2->U (Int.toNat q2)<U o2);let r2:=bR W s;let u2:=r2==0;let v2:=k1/\True/\Inv 1000 W/\g2/\0<=s;
    let w2:=k1/\True/\yw.match_1 (λx2:sE=>Prop) (sE.mk W s) (λy2:Wd=>λz2:Int=>Sm y2);let a3:=r2=r2;let b3:=(a3/\True)/\J;let c3:=jr W s;let d3:=c3=c3/\d2;let e3:=(d3/\((True/\a3)/\d2)/\True)/\J;let g3:=c3==r2&&((-1):Int)==(-1);let h3:=g3=true;let k3:=jW W s;let l3:=k3=k3/\(∀o3:Nat,let q3:=gB W s (0+o3);o3<k3->True/\q3=q3);let r3:=fR W s;let u3:=(l3/\(r3=r3/\(∀v3:Nat,let w3:=gB W s (0+v3);v3<r3->True/\w3=w3))/\True)/\J;let x3:=dk k3 (λy3:Nat=>gB W s (0+y3)) r3 (λz3:Nat=>gB W s (0+z3));let a4:=(l3/\r1/\True)/\J;let b4:=dk k3 (λc4:Nat=>gB W s (0+c4)) 0 (λd4:Nat=>0);let e4:=((8:Int)==0)=false;let g4:=(c2/\True)/\J;let h4:=(d3/\((True/\c2)/\d2)/\True)/\J;let k4:=c3==8&&((-1):Int)==(-1);let l4:=k4=true;tn 2 ((g1/\J)/\(jI W=true->true=true/\True)/\(jI W=false->(k1/\l1)/\True/\o1/\tn 4 (q1/\True/\((((((((((((w1/\u1)/\r1/\(∀o4:Nat,o4<0->aD x1 x1))/\r1/\(∀q4:Nat,q4<0->aE y1 y1))/\z1)/\u1)/\u1)/\z1)/\r1/\(∀r4:Nat,r4<0->True/\r1/\(∀u4:Nat,u4<0->ay b2 b2)))/\u1)/\(0:Int)=0)/\(c2/\d2)/\h0/\c2/\J)/\True/\DS.match_1 (λv4:yV=>Prop) (yV.mk W) (λw4:Wd=>Lg w4))/\((!true)=true->false=true/\True)/\((!true)=false->q1/\(e2->(g1/\True/\sD.match_1 (λx4:mN=>Prop) (mN.mk W) (λy4:Wd=>Lg y4))/\True/\o1/\((SV.ptr 0 0 none 0 0=SV.ptr 0 0 none 0 0/\s=s/\True)/\ak W W True/\JJ W/\cE W<=400/\g2)/\(u2=true->v2/\w2/\b3/\e3/\(h3->u3)/\cond g3 x3 false=true/\True)/\(u2=false->w2/\b3/\e3/\(h3->a4)/\cond g3 b4 false=true/\True))/\(e4->(e2->v2/\w2/\g4/\h4/\(l4->u3)/\cond k4 x3 false=true/\True)/\(e4->w2/\g4/\h4/\(l4->a4)/\
    cond k4 b4 false=true/\True))))))
set_option maxHeartbeats 2000000 in
theorem QP: ∀x,pV.pre x->ed Tryz.prog ia 3 (pV.args x) (pV.mem x) (pV.res x) (pV.bf x):=λx hp=>gG (.cons (Bl.up ft) (.cons (xY.up ft) (.cons (Ce.up ft) (.cons zG (.cons (vk.up ft) (.cons (yx.up ft) (.cons (G0.up ft) (.cons Su (.cons VB (.cons VE (.cons (Je.up ft) .nil))))))))))) false Tryz.func3 ((λ_=> []) x) (V:=Bi x) (by kernel_rfl)<|(λ⟨W,s⟩ hp=>by
  dsimp only[pV]at hp
  dsimp only[Bi,tn,ah,ak,aE,aD,ay]
  simp only[aS,aZ,eq_self,implies_true,Bool.cond_self]
  try simp only[cu]
  intro h0
  have hs:=OV h0
  have e:jr W s=8:=by unfold jr;rw[show(wE W==0)=false from beq_eq_false_iff_ne.2 hp];rfl
  have eN:jW W s=0:=by unfold jW;rw[e];rfl
  refine⟨⟨hs,hp⟩,⟨hs,hp⟩,zF hs,λh=>absurd h (by decide),λ_=>⟨⟨hs,hp⟩,λh=>absurd h (by decide),λ_=>⟨λh=>absurd h (by decide),λ_=>⟨hs,?_⟩⟩⟩⟩
  rw[e,eN];simp[dk,fe]
  : ∀x,pV.pre x->Bi x) x hp
structure QU where
  (W:Wd) (s:Int)
def QV:Sy.Spec:=⟨QU,λ⟨W,s⟩=> [eY W,.v (.int .i64 s)],λ_=> [],λ_=>True,λ_=> .v (.bool true),λ_=> [],
  λargs mem=>match args with| [a0,a1]=>some ⟨eP a0,av (a1)⟩|_=>none⟩
def GV:aQ:=⟨[],(QV).g,none⟩
theorem QR:aL Tryz.prog ia 3 GV:=p6 Tryz.call3 λ⟨W,s⟩ _=>if h:wE W=0 then QO ⟨W,s⟩ (gA.iff.1 h)else QP ⟨W,s⟩ h
end Go.Proofs.YtmieeldmfehpoaaGreatDoor
namespace Go.Proofs.YtmieeldmfehpoaaGreatDoor
open Go.ChangeShapes Go.WideShapes Go.RowKit Go.Sy
theorem K.own:ownKnob Tryz.prog.godebug=none:=by kernel_rfl
theorem K.et : Tryz.prog.globalNamed "errors.errorType" = some 0 := by kernel_rfl
theorem K.rt : (Tryz.prog.cutTypes.find? (·.1 == "internal/reflectlite.rtype")).map (·.2) = some 147 := by kernel_rfl
theorem K.YA:((List.range Tryz.prog.types.size).filter λt=>Tryz.prog.rowNamed t [101,114,114,111,114])= [31]:=by kernel_rfl
theorem K.handle {laid : List (String × DataW Unit)} {W : World} (h : laidMetH Tryz.prog laid W) (hm : ("errors.errorType", Rows.laid_errors_errorType) ∈ laid) : W.cell? ⟨0, 0, none⟩ = some A.kA := by
 have hf : ("errors.errorType", Rows.laid_errors_errorType) ∈ laid.filter fun x => x.2.handleName?.isSome := List.mem_filter.2 ⟨hm, by rfl⟩
 unfold laidMetH at h
 split at h
 · next e=>rw[e]at hf;cases hf
 next x r e=>
 rw[e]at hf
 obtain⟨name,u,ty,e1,e2,e3,e4,e5⟩:=h.2 _ hf
 have en:name= [101,114,114,111,114]:=(Option.some.inj e1).symm
 subst en
 obtain rfl:=Option.some.inj (K.rt.symm.trans e2)
 have hm:ty∈(List.range Tryz.prog.types.size).filter λt=>Tryz.prog.rowNamed t [101,114,114,111,114]:=List.mem_filter.2 ⟨List.mem_range.2 e3,e4⟩
 rw[K.YA]at hm
 obtain rfl:=List.mem_singleton.1 hm
 have hh:typeHandle Tryz.prog 31= .pointer (some ⟨1,31,none⟩):=by kernel_rfl
 rw[hh]at e5
 unfold A.kA
 simpa using World.var?_cell K.et e5 0
noncomputable def K.world (os:Os):World:=
  let w0:=World.holding Tryz.prog os ⟨#[],#[],[]⟩
  {w0 with heap:=w0.heap.modify 0 λ
   | .cells _ t frozen=> .cells #[A.kA] t frozen
   |o=>o}
theorem K.met (os : Os) (args : Array Value) : laidMetH Tryz.prog [("errors.errorType", Rows.laid_errors_errorType)] ((K.world os).forCall (fun _ _ => 0) ⟨#[], args, []⟩).memory :=
 laidMetH_of_parts (laidMet_nil _ _) (by kernel_rfl)
theorem K.laidOut:laidOutB Tryz.prog=true:=by kernel_rfl
theorem K.trodAll {H:Type} {enc:TypeId×Value->H} {P:Program} (hl:laidOutB P=true) {W W':World} (hb:Below W.heap.size W W'): ∀{ts:List TypeId} {vs:List Value} {ds:List (DataW H)} {ps:List MemPlace},
    (ts.all λt=>P.readableRec t&&decide (t<P.types.size))=true->DataW.TrodAll enc P W 0 (λ_=>true) true ts vs ds ps->(∀x∈ps,x.block<W.heap.size)->DataW.TrodAll enc P W' 0 (λb=>decide (b<W.heap.size)) true ts vs ds ps
  | [],[],[],_,_,h,_=>h
  |t::ts,v::vs,d::ds,ps,hr,⟨p,q,J,U,e⟩,ai=>by
   subst e
   simp only[List.all_cons,Bool.and_eq_true,decide_eq_true_eq]at hr
   exact⟨p,q,Below.trod hl hr.1.1 hr.1.2 J hb (λx hx=>ai x (List.mem_append_left _ hx)),K.trodAll hl hb hr.2 U (λx hx=>ai x (List.mem_append_right _ hx)),rfl⟩
theorem K.underlying4:Tryz.prog.underlying 4=some .bool:=by kernel_rfl
theorem K.len {H:Type} {enc:TypeId×Value->H} {P:Program} {w:World} {base:Nat} {spare:Nat->Bool} {held:Bool}: ∀{ts:List TypeId} {vs:List Value} {ds:List (DataW H)} {ps:List MemPlace},DataW.TrodAll enc P w base spare held ts vs ds ps->ds.length=ts.length
  | [],[],[],_,_=>rfl
  |_::_,_::_,_::_,_,⟨_,_,_,h,_⟩=>by simp[K.len h]
theorem K.Vx {ps:Array TypeId} (h:(ps.toList.all λt=>!Tryz.prog.wantsStandIn t)=true) {j:Nat} {t:TypeId} (ht:ps[j]? =some t):Tryz.prog.wantsStandIn t=false:=by
  have:=List.all_eq_true.1 h t (by rw[Array.mem_toList_iff];exact Array.mem_of_getElem? ht)
  simpa using this
set_option maxRecDepth 100000 in
theorem K.lift {f:FuncId} {fn:Func} {s:ChangeSpec} {X:World->Prop} (hX: ∀(w w':World),w.heap=w'.heap->X w->X w') (os:Os) (started:os.Started) (H:Type) (enc:TypeId×Value->H)
    (YB:Tryz.checked.prog.inits.idxOf? f=none) (mw:Tryz.checked.prog.funcs[f]? =some fn)
    (hs: ∀ds:List (DataW H),ds.length=fn.params.toList.length->s.fn H (ds++ [])={results:= [.lit (.bool true)],args:=ds}) (hv:s.vars= []) (hr:fn.resultTypes= #[4])
    (gd:(fn.params.toList.all λt=>Tryz.prog.readableRec t&&decide (t<Tryz.prog.types.size))=true)
    (witness: ∃(w:World) (tape:Tape) (i:Input),w.os=os/\(w.forCall tape i).Shaped Tryz.prog/\i.vars= []/\Input.okWide Tryz.prog (w.forCall tape i) .any w.heap.size f i/\
      ((s.pre enc Tryz.prog fn [] false (w.forCall tape i).memory i.args/\X (w.forCall tape i).memory)/\sizedMet enc Tryz.prog fn (OpenSpec.ofChange s) false (w.forCall tape i).memory i.args)/\({}:Assume).holds Tryz.prog (lone (Frame.enter Tryz.prog f i.args .normal) [] (w.forCall tape i)))
    (U7: ∀(W:World) (base:Nat) (args:Array Value) (ds:List (DataW H)) (p:List MemPlace),
     (∀(j:Nat) t v,fn.params[j]? =some t->args[j]? =some v->Value.okWide Tryz.prog W .any base t v)->
     DataW.TrodAll enc Tryz.prog W 0 (λ_=>true) true fn.params.toList args.toList ds p->X W->(∀x∈p,x.block<W.heap.size)->
     Calls Tryz.prog f args W λe W'=>e= .returned (.bool true)/\Below W.heap.size W W'):
    ReturnsInHanded {} Tryz.checked os f .any (λw args=>(s.pre enc Tryz.prog fn [] false w args/\X w)/\sizedMet enc Tryz.prog fn (OpenSpec.ofChange s) false w args) (s.post enc Tryz.prog fn false true false false):=by
  refine returnsInHanded_of_change_and (C:=Tryz.checked) (X:=λw _=>X w) (λw w' _ hh h=>hX w w' hh h) K.own started YB mw witness ?_
  intro W base args ds gs before vV hW _ _ hL _
  have QN:=hW
  obtain⟨p,q,hA,hV,rfl,hfz,_⟩:=hW
  have ai: ∀x∈p,x.block<W.heap.size:=λx hx=>by simpa using QN.lt x (List.mem_append_left _ hx)
  obtain⟨rfl,rfl⟩:gs= []/\q= []:=by
    rw[hv]at hV
    cases gs with
    |nil=>exact⟨rfl,hV⟩
    |cons g r=>exact absurd hV (by intro h;cases h)
  refine(U7 W base args ds p vV hA hL ai).mono λe W' ⟨he,hb⟩=>?_
  have e1:=hs ds (K.len hA)
  refine⟨_,he,_,_,_,[],p,[],QN,?_,?_,?_,hb.frame _,λh=>by cases h⟩
  · rw[e1,hr];exact trodAll_mk1 (shut_bool K.underlying4 true)
  · rw[e1];exact K.trodAll K.laidOut hb gd hA ai
  · rw[e1,hv];rfl
theorem K.eT {laid : List (String × DataW Unit)} {W : World} (h : laidMetH Tryz.prog laid W) (hm : ("errors.errorType", Rows.laid_errors_errorType) ∈ laid) : Den W o0.bare (.pt false 1 fun _ => .v A.kA) (.pointer (some ⟨0, 0, none⟩)) :=
 ⟨_,rfl,λj hj=>⟨_,by obtain rfl:j=0:=by omega
                     exact K.handle h hm,⟨id,λ_=>id⟩,rfl⟩⟩
theorem K.gE {laid : List (String × DataW Unit)} {W : World} (h : laidMetH Tryz.prog laid W) (hm : ("errors.errorType", Rows.laid_errors_errorType) ∈ laid) (g : Nat) : Den W o0.bare (ia g) (.pointer (some ⟨g, 0, none⟩)) := by
 unfold ia
 split
 · exact K.eT h hm
 · trivial
end Go.Proofs.YtmieeldmfehpoaaGreatDoor
