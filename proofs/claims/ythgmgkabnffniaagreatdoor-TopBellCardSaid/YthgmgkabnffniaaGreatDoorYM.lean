/- Bells. -/
import Derived.Test.YthgmgkabnffniaaGreatDoorYL
import Derived.Test.YthgmgkabnffniaaGreatDoorYJ
import Derived.Test.YthgmgkabnffniaaGreatDoorYI
set_option linter.unusedVariables false
set_option linter.unusedSimpArgs false
set_option linter.unusedVariables false
set_option linter.unusedSimpArgs false
set_option maxRecDepth 100000
namespace Go.Proofs.YthgmgkabnffniaaGreatDoor
open Go.RowKit Go.Sy
theorem je.of {W W':Wd} {t:Int} (h:je W t) (e1:W'.aP=W.aP) (e2:W'.aS=W.aS) (e3:W'.aq=W.aq) (e4:(W'.tasks t.toNat).core=(W.tasks t.toNat).core) (e5:(W'.tasks t.toNat).prio=(W.tasks t.toNat).prio):je W' t:=by
  obtain⟨t0,t1,r0,r1,c0,c1,p0,p1,n⟩:=h
  have ez:ry (W'.tasks t.toNat)=ry (W.tasks t.toNat):=by unfold ry;rw[e4,e5]
  exact⟨t0,by rw[e1];exact t1,by rw[ez];exact r0,by rw[ez,e2];exact r1,by rw[e4];exact c0,by rw[e4];exact c1,by rw[e5];exact p0,by rw[e5];exact p1,by unfold fa;rw[ez,e3];exact n⟩
theorem jd.of {W W':Wd} {t:Int} (h:jd W t) (e1:W'.aP=W.aP) (e2:W'.aC=W.aC) (e3:W'.ak=W.ak) (e4:(W'.tasks t.toNat).core=(W.tasks t.toNat).core):jd W' t:=by
  obtain⟨t0,t1,c0,c1,u⟩:=h
  exact⟨t0,by rw[e1];exact t1,by rw[e4];exact c0,by rw[e4,e2];exact c1,by rw[e2,e3,e4];exact u⟩
theorem Ji {W:Wd} {a i:Nat} {b:Bool} (p:aM->Int) (h: ∀r:aM,p {r with loc:= -1}=p r):p ((fw W a b).tasks i)=p (W.tasks i):=by
  show p (wZ W a b i)=_
  unfold wZ
  cases b
  · rfl
  · exact H7 p (h _)
theorem Jj {W:Wd} {t i:Nat} {b g:Int} (p:aM->Int) (h: ∀r:aM,p {r with r1:=b,r2:=g}=p r):p ((dw W t b g).tasks i)=p (W.tasks i):=H7 p (h _)
theorem afz {W:Wd} {t i:Nat} (p:aM->Int) (h: ∀r:aM,p {r with st:=1,loc:= -1}=p r):p ((eM W t).tasks i)=p (W.tasks i):=H7 p (h _)
theorem je.L5 {W:Wd} {t:Int} {a:Nat} {b:Bool} (h:je W t):je (fw W a b) t:=h.of rfl rfl rfl (Ji aM.core λ_=>rfl) (Ji aM.prio λ_=>rfl)
theorem je.q_ {W:Wd} {t:Int} {u:Nat} {b g:Int} (h:je W t):je (dw W u b g) t:=h.of rfl rfl rfl (Jj aM.core λ_=>rfl) (Jj aM.prio λ_=>rfl)
theorem jd.L5 {W:Wd} {t:Int} {a:Nat} {b:Bool} (h:jd W t):jd (fw W a b) t:=h.of rfl rfl rfl (Ji aM.core λ_=>rfl)
theorem jd.q_ {W:Wd} {t:Int} {u:Nat} {b g:Int} (h:jd W t):jd (dw W u b g) t:=h.of rfl rfl rfl (Jj aM.core λ_=>rfl)
theorem jd.CY {W:Wd} {t:Int} {u:Nat} (h:jd W t):jd (eM W u) t:=h.of rfl rfl rfl (afz aM.core λ_=>rfl)
def gD (a b:Int):Int:=(ku 7 a.toNat b.toNat:Nat)
def ph (W:Wd) (b:Nat) (g:Int) (i:Nat):Int:=ah W.bits b (gD (W.bits b) g) i
def qc (W:Wd) (b:Nat) (g:Int) (i:Nat):aM:=bif W.ai b==0 then({W with bits:=ph W b g}).tasks i else(eM (dw (fw W b true) (W.lines b 0).toNat 0 g) (W.lines b 0).toNat).tasks i
def p9 (W:Wd) (b:Nat) (g:Int) (i:Nat):Nat:=bif W.ai b==0 then({W with bits:=ph W b g}).ai i else(eM (dw (fw W b true) (W.lines b 0).toNat 0 g) (W.lines b 0).toNat).ai i
def qd (W:Wd) (b:Nat) (g:Int) (i k:Nat):Int:=bif W.ai b==0 then({W with bits:=ph W b g}).lines i k else(eM (dw (fw W b true) (W.lines b 0).toNat 0 g) (W.lines b 0).toNat).lines i k
def qj (W:Wd) (b:Nat) (g:Int) (i:Nat):Int:=bif W.ai b==0 then({W with bits:=ph W b g}).bits i else(eM (dw (fw W b true) (W.lines b 0).toNat 0 g) (W.lines b 0).toNat).bits i
def p_ (W:Wd) (b:Nat) (g:Int) (i:Nat):Nat:=bif W.ai b==0 then({W with bits:=ph W b g}).aq i else(eM (dw (fw W b true) (W.lines b 0).toNat 0 g) (W.lines b 0).toNat).aq i
def qe (W:Wd) (b:Nat) (g:Int) (i k:Nat):Int:=bif W.ai b==0 then({W with bits:=ph W b g}).ready i k else(eM (dw (fw W b true) (W.lines b 0).toNat 0 g) (W.lines b 0).toNat).ready i k
def jH (W:Wd) (b:Nat) (g:Int):Wd:={W with tasks:=qc W b g,ai:=p9 W b g,lines:=qd W b g,bits:=qj W b g,aq:=p_ W b g,ready:=qe W b g}
theorem EG {W:Wd} {b:Nat} {g:Int} (h:(W.ai b==0)=true):jH W b g={W with bits:=ph W b g}:=by
  have bP:qc W b g=({W with bits:=ph W b g}).tasks:=by
    funext i
    unfold qc
    rw[h]
    rfl
  have cy:p9 W b g=({W with bits:=ph W b g}).ai:=by
    funext i
    unfold p9
    rw[h]
    rfl
  have cz:qd W b g=({W with bits:=ph W b g}).lines:=by
    funext i k
    unfold qd
    rw[h]
    rfl
  have c_:qj W b g=({W with bits:=ph W b g}).bits:=by
    funext i
    unfold qj
    rw[h]
    rfl
  have cU:p_ W b g=({W with bits:=ph W b g}).aq:=by
    funext i
    unfold p_
    rw[h]
    rfl
  have cV:qe W b g=({W with bits:=ph W b g}).ready:=by
    funext i k
    unfold qe
    rw[h]
    rfl
  show({W with tasks:=qc W b g,ai:=p9 W b g,lines:=qd W b g,bits:=qj W b g,aq:=p_ W b g,ready:=qe W b g}:Wd)=_
  rw[bP,cy,cz,c_,cU,cV]<;>kernel_rfl
theorem IH {W:Wd} {b:Nat} {g:Int} (h:(W.ai b==0)=false):jH W b g=eM (dw (fw W b true) (W.lines b 0).toNat 0 g) (W.lines b 0).toNat:=by
  have bP:qc W b g=(eM (dw (fw W b true) (W.lines b 0).toNat 0 g) (W.lines b 0).toNat).tasks:=by
    funext i
    unfold qc
    rw[h]
    rfl
  have cy:p9 W b g=(eM (dw (fw W b true) (W.lines b 0).toNat 0 g) (W.lines b 0).toNat).ai:=by
    funext i
    unfold p9
    rw[h]
    rfl
  have cz:qd W b g=(eM (dw (fw W b true) (W.lines b 0).toNat 0 g) (W.lines b 0).toNat).lines:=by
    funext i k
    unfold qd
    rw[h]
    rfl
  have c_:qj W b g=(eM (dw (fw W b true) (W.lines b 0).toNat 0 g) (W.lines b 0).toNat).bits:=by
    funext i
    unfold qj
    rw[h]
    rfl
  have cU:p_ W b g=(eM (dw (fw W b true) (W.lines b 0).toNat 0 g) (W.lines b 0).toNat).aq:=by
    funext i
    unfold p_
    rw[h]
    rfl
  have cV:qe W b g=(eM (dw (fw W b true) (W.lines b 0).toNat 0 g) (W.lines b 0).toNat).ready:=by
    funext i k
    unfold qe
    rw[h]
    rfl
  show({W with tasks:=qc W b g,ai:=p9 W b g,lines:=qd W b g,bits:=qj W b g,aq:=p_ W b g,ready:=qe W b g}:Wd)=_
  rw[bP,cy,cz,c_,cU,cV]<;>kernel_rfl
def rz (W:Wd) (b i:Nat):Int:=ah W.bits b 0 i
def qf (W:Wd) (t b:Int) (i:Nat):aM:=bif W.bits b.toNat==0 then(fH W t b 6).tasks i else({dw W t.toNat 0 (W.bits b.toNat)with bits:=rz W b.toNat}).tasks i
def qa (W:Wd) (t b:Int) (i:Nat):Nat:=bif W.bits b.toNat==0 then(fH W t b 6).ai i else({dw W t.toNat 0 (W.bits b.toNat)with bits:=rz W b.toNat}).ai i
def qg (W:Wd) (t b:Int) (i k:Nat):Int:=bif W.bits b.toNat==0 then(fH W t b 6).lines i k else({dw W t.toNat 0 (W.bits b.toNat)with bits:=rz W b.toNat}).lines i k
def qk (W:Wd) (t b:Int) (i:Nat):Int:=bif W.bits b.toNat==0 then(fH W t b 6).bits i else({dw W t.toNat 0 (W.bits b.toNat)with bits:=rz W b.toNat}).bits i
def qh (W:Wd) (t b:Int) (i:Nat):Int:=bif W.bits b.toNat==0 then(fH W t b 6).ak i else({dw W t.toNat 0 (W.bits b.toNat)with bits:=rz W b.toNat}).ak i
def jo (W:Wd) (t b:Int):Wd:={W with tasks:=qf W t b,ai:=qa W t b,lines:=qg W t b,bits:=qk W t b,ak:=qh W t b}
theorem yB {W:Wd} {t b:Int} (h:(W.bits b.toNat==0)=true):jo W t b=fH W t b 6:=by
  have bP:qf W t b=(fH W t b 6).tasks:=by
    funext i
    unfold qf
    rw[h]
    rfl
  have cy:qa W t b=(fH W t b 6).ai:=by
    funext i
    unfold qa
    rw[h]
    rfl
  have cz:qg W t b=(fH W t b 6).lines:=by
    funext i k
    unfold qg
    rw[h]
    rfl
  have c_:qk W t b=(fH W t b 6).bits:=by
    funext i
    unfold qk
    rw[h]
    rfl
  have gb:qh W t b=(fH W t b 6).ak:=by
    funext i
    unfold qh
    rw[h]
    rfl
  show({W with tasks:=qf W t b,ai:=qa W t b,lines:=qg W t b,bits:=qk W t b,ak:=qh W t b}:Wd)=_
  rw[bP,cy,cz,c_,gb]<;>kernel_rfl
theorem yC {W:Wd} {t b:Int} (h:(W.bits b.toNat==0)=false):jo W t b={dw W t.toNat 0 (W.bits b.toNat)with bits:=rz W b.toNat}:=by
  have bP:qf W t b=({dw W t.toNat 0 (W.bits b.toNat)with bits:=rz W b.toNat}).tasks:=by
    funext i
    unfold qf
    rw[h]
    rfl
  have cy:qa W t b=({dw W t.toNat 0 (W.bits b.toNat)with bits:=rz W b.toNat}).ai:=by
    funext i
    unfold qa
    rw[h]
    rfl
  have cz:qg W t b=({dw W t.toNat 0 (W.bits b.toNat)with bits:=rz W b.toNat}).lines:=by
    funext i k
    unfold qg
    rw[h]
    rfl
  have c_:qk W t b=({dw W t.toNat 0 (W.bits b.toNat)with bits:=rz W b.toNat}).bits:=by
    funext i
    unfold qk
    rw[h]
    rfl
  have gb:qh W t b=({dw W t.toNat 0 (W.bits b.toNat)with bits:=rz W b.toNat}).ak:=by
    funext i
    unfold qh
    rw[h]
    rfl
  show({W with tasks:=qf W t b,ai:=qa W t b,lines:=qg W t b,bits:=qk W t b,ak:=qh W t b}:Wd)=_
  rw[bP,cy,cz,c_,gb]<;>kernel_rfl
structure C9 (W:Wd) (b:Int):Prop where
  l:Aq W b
  b1:b<W.aN
  bt:0<=W.bits b.toNat/\W.bits b.toNat<=65535
  f:0<W.ai b.toNat->je W (W.lines b.toNat 0)/\(W.tasks (W.lines b.toNat 0).toNat).st=6
structure QA where
  (t b:Int) (W:Wd)
def QB:Sy.Spec:=⟨QA,λ⟨t,b,_⟩=> [.ptr 0 0 none 0 0,.v (.int .i64 t),.v (.int .i64 b)],λ⟨_,_,W⟩=>cP W,λ⟨t,b,W⟩=>jd W t/\C9 W b/\W.aC<=100000,λ_=> .tp 0 (aL []),λ⟨t,b,W⟩=>cP (jo W t b),
  λargs mem=>match args with| [a0,a1,a2]=>some ⟨aw (a1),aw (a2),iG mem 0⟩|_=>none⟩
def ab7:aT:=⟨[true],(QB).g,none⟩
def QC:QA->Prop:=λ⟨t,b,W⟩=>let a0:=0<=b/\b<((W.aN:Nat):Int);let b0:=Int.toNat b;let c0:=W.bits (0+b0);let d0:=c0 !=0;let e0:=SV.ptr 0 0 none 0 0;let g0:=e0=e0;let h0:={W with bits:=λk0:Nat=>cond (Nat.beq k0 (0+b0)) 0 (W.bits k0)};let l0:={W with tasks:=qf W t b,ai:=qa W t b,lines:=qg W t b,bits:=qk W t b,ak:=qh W t b};a0/\(d0=true->a0/\(∀o0:Nat,false=false)/\((g0/\t=t/\(0:Int)=0/\c0=c0/\True)/\aD h0 h0 True/\0<=t/\t<((W.aP:Nat):Int))/\True/\aD {W with tasks:=Ap h0 (Int.toNat t) 0 c0,bits:=λq0:Nat=>cond (Nat.beq q0 (0+b0)) 0 (W.bits q0)} l0 True)/\(d0=false->((g0/\t=t/\b=b/\(6:Int)=6/\True)/\aD W W True/\jd W t/\Aq W b)/\True/\aD {W with tasks:=ru W (Int.toNat t) b 6,ai:=tS W b0,lines:=tT W t b0,ak:=dT W t} l0 True)
set_option maxHeartbeats 1000000 in
theorem aam:aU Tryz.prog aY 26 ab7:=bf (.cons Qr (.cons aae .nil)) false Tryz.call26 Tryz.func26 (λ_=> []) (V:=QC) (λ_=>by kernel_rfl) λ⟨t,b,W⟩ hp=>by
  dsimp only[QB]at hp
  dsimp only[QC,tn,ar,aD,aI,aJ,aH]
  simp only[bn,bD,eq_self,implies_true,Bool.cond_self]
  try simp only[eP]
  obtain⟨ho,⟨hl,b1,bt,hf⟩,hc⟩:=hp
  have b0:=hl.a0
  refine⟨⟨b0,b1⟩,λh=>⟨⟨b0,b1⟩,⟨ho.t0,ho.t1⟩,?_⟩,λh=>⟨⟨ho,hl⟩,?_⟩⟩
  · have h:(W.bits b.toNat==0)=false:=by simpa using h
    have e_:=yC (t:=t) h
    have bP:qf W t b=_:=congrArg Wd.tasks e_
    have cy:qa W t b=_:=congrArg Wd.ai e_
    have cz:qg W t b=_:=congrArg Wd.lines e_
    have c_:qk W t b=_:=congrArg Wd.bits e_
    have gb:qh W t b=_:=congrArg Wd.ak e_
    simp only[bP,cy,cz,c_,gb]
    clear e_ bP cy cz c_ gb
    repeat' (first|exact trivial|exact dk rfl|rfl|refine And.intro ?_ ?_|intro _|fail)
  · have h:(W.bits b.toNat==0)=true:=by simpa using h
    have e_:=yB (t:=t) h
    have bP:qf W t b=_:=congrArg Wd.tasks e_
    have cy:qa W t b=_:=congrArg Wd.ai e_
    have cz:qg W t b=_:=congrArg Wd.lines e_
    have c_:qk W t b=_:=congrArg Wd.bits e_
    have gb:qh W t b=_:=congrArg Wd.ak e_
    simp only[bP,cy,cz,c_,gb]
    clear e_ bP cy cz c_ gb
    repeat' (first|exact trivial|exact dk rfl|rfl|refine And.intro ?_ ?_|intro _|fail)
structure QD where
  (b g:Int) (W:Wd)
def QE:Sy.Spec:=⟨QD,λ⟨b,g,_⟩=> [.ptr 0 0 none 0 0,.v (.int .i64 b),.v (.int .i64 g)],λ⟨_,_,W⟩=>cP W,λ⟨b,g,W⟩=>C9 W b/\0<=g/\g<=65535,λ_=> .tp 0 (aL []),λ⟨b,g,W⟩=>cP (jH W b.toNat g),
  λargs mem=>match args with| [a0,a1,a2]=>some ⟨aw (a1),aw (a2),iG mem 0⟩|_=>none⟩
def ab8:aT:=⟨[true],(QE).g,none⟩
def QF:QD->Prop:=λ⟨b,g,W⟩=>let a0:=SV.ptr 0 0 none 0 0;let b0:=a0=a0;let c0:=[(6:Int)];let d0:=Int.toNat b;let e0:=kY W d0 (λg0:Int=>dY 1 (λh0:Nat=>g0==List.getD c0 (0+h0) 0));let k0:=B8 W d0 e0;let l0:=decide (0<=k0);let o0:=k0=k0;let q0:=wZ W d0 e0;let r0:=JQ W d0 e0;let u0:=B7 W d0 e0;let v0:={W with tasks:=q0,ai:=r0,lines:=u0};let w0:=fw W d0 e0;let x0:=Int.toNat k0;let y0:={W with tasks:=Ap w0 x0 0 g,ai:=r0,lines:=u0};let z0:=dw w0 x0 0 g;let a1:={W with tasks:=qc W d0 g,ai:=p9 W d0 g,lines:=qd W d0 g,bits:=qj W d0 g,aq:=p_ W d0 g,ready:=qe W d0 g};let b1:=0<=b/\b<((W.aN:Nat):Int);True/\((b0/\b=b/\(1=1/\(∀c1:Nat,let d1:=List.getD c0 (0+c1) 0;c1<1->True/\d1=d1))/\True)/\aD W W True/\Aq W b/\1<=1000)/\(l0=true->((b0/\o0/\(0:Int)=0/\g=g/\True)/\aD v0 v0 True/\0<=k0/\k0<((W.aP:Nat):Int))/\((b0/\o0/\True)/\aD y0 y0 True/\EK.match_1 (λe1:yD=>Prop) (yD.mk k0 z0) (λg1:Int=>λJ:Wd=>je J g1))/\True/\aD {W with tasks:=mQ z0 x0,ai:=r0,lines:=u0,aq:=lz z0 x0,ready:=ml z0 x0} a1 True)/\(l0=false->b1/\b1/\(∀k1:Nat,false=false)/\True/\aD {W with tasks:=q0,ai:=r0,lines:=u0,bits:=λl1:Nat=>cond (Nat.beq l1 (0+d0)) (dq BinOp.or IntKind.i64 (W.bits (0+d0)) g) (W.bits l1)} a1 True)
set_option maxHeartbeats 1000000 in
theorem aan:aU Tryz.prog aY 29 ab8:=bf (.cons Qr (.cons YU (.cons Qv .nil))) false Tryz.call29 Tryz.func29 (λ_=> []) (V:=QF) (λ_=>by kernel_rfl) λ⟨b,g,W⟩ hp=>by
  dsimp only[QE]at hp
  dsimp only[QF,tn,ar,aD,aI,aJ,aH]
  simp only[bn,bD,eq_self,implies_true,Bool.cond_self]
  try simp only[eP]
  obtain⟨⟨hl,b1,bt,hf⟩,g0,g1⟩:=hp
  have b0:=hl.a0
  obtain⟨B,hB⟩: ∃B,B=kY W b.toNat λd3=>dY 1 λe3=>d3== [6].getD e3 0:=⟨_,rfl⟩
  simp only[<-hB]
  refine⟨⟨hl,by decide⟩,?_⟩
  rcases Nat.eq_zero_or_pos (W.ai b.toNat)with h0|h0
  · have hc:(W.ai b.toNat==0)=true:=by rw[h0];rfl
    have e:B=false:=by rw[hB];exact WN h0
    subst e
    have ei:B8 W b.toNat false= -1:=rfl
    have bo:dq .or .i64 (W.bits b.toNat) g=gD (W.bits b.toNat) g:=rR bt.1 (by omega) g0 (by omega)
    simp only[ei,bo]
    refine⟨λh=>absurd h (by decide),λ_=>⟨⟨b0,b1⟩,⟨b0,b1⟩,?_⟩⟩
    have e_:=EG (g:=g) hc
    have bP:qc W b.toNat g=_:=congrArg Wd.tasks e_
    have cy:p9 W b.toNat g=_:=congrArg Wd.ai e_
    have cz:qd W b.toNat g=_:=congrArg Wd.lines e_
    have c_:qj W b.toNat g=_:=congrArg Wd.bits e_
    have cU:p_ W b.toNat g=_:=congrArg Wd.aq e_
    have cV:qe W b.toNat g=_:=congrArg Wd.ready e_
    simp only[bP,cy,cz,c_,cU,cV]
    clear e_ bP cy cz c_ cU cV
    repeat' (first|exact trivial|exact dk rfl|rfl|refine And.intro ?_ ?_|intro _|fail)
  · have hn:W.ai b.toNat≠0:=by omega
    have hc:(W.ai b.toNat==0)=false:=by simpa using hn
    obtain⟨hw,hs⟩:=hf h0
    have e:B=true:=by rw[hB];exact L4 hn (by rw[hs];rfl)
    subst e
    have ei:B8 W b.toNat true=W.lines b.toNat 0:=rfl
    simp only[ei]
    refine⟨λ_=>⟨⟨hw.t0,hw.t1⟩,hw.L5.q_,?_⟩,λh=>absurd hw.t0 (of_decide_eq_false h)⟩
    have e_:=IH (g:=g) hc
    have bP:qc W b.toNat g=_:=congrArg Wd.tasks e_
    have cy:p9 W b.toNat g=_:=congrArg Wd.ai e_
    have cz:qd W b.toNat g=_:=congrArg Wd.lines e_
    have c_:qj W b.toNat g=_:=congrArg Wd.bits e_
    have cU:p_ W b.toNat g=_:=congrArg Wd.aq e_
    have cV:qe W b.toNat g=_:=congrArg Wd.ready e_
    simp only[bP,cy,cz,c_,cU,cV]
    clear e_ bP cy cz c_ cU cV
    repeat' (first|exact trivial|exact dk rfl|rfl|refine And.intro ?_ ?_|intro _|fail)
end Go.Proofs.YthgmgkabnffniaaGreatDoor
set_option linter.unusedVariables false
set_option linter.unusedSimpArgs false
set_option maxRecDepth 100000
namespace Go.Proofs.YthgmgkabnffniaaGreatDoor
open Go.RowKit Go.Sy
def lU (W:Wd) (t a k:Int):Int:=bif decide (t<0)||decide ((W.aj:Int)<=t)||decide (a<0)||decide ((W.aj:Int)<=a)then 2 else bif W.kinds t.toNat !=6||W.kinds a.toNat !=k then 3 else bif W.ak (W.tasks t.toNat).core.toNat==t then 0 else 7
structure L6 (W:Wd):Prop where
  z:bO W
  k: ∀i:Nat,i<W.aP->0<=(W.tasks i).core/\(W.tasks i).core<W.aC
  u: ∀(t:Int) (j:Nat),0<=t->j<W.aC->W.ak j=t->(W.tasks t.toNat).core=j
def afy (n:Nat) (l:Nat->Int) (q:Nat):cG where
  σ:=Nat
  rt:= []
  sh i:= [(q,.v (.int .i64 i))]
  mh _:= []
  inv i:=i<=n/\ ∀j,j<i->az (l j) 65535=false
  μ i:=n -i
  init:=0
structure EL where
  (W:Wd) (t a k:Int)
def IP:Sy.Spec:=⟨EL,λ⟨W,t,a,k⟩=> [dV W,.v (.int .i64 t),.v (.int .i64 a),.v (.int .i64 k)],λ_=> [],λ⟨W,_,_,_⟩=>L6 W,λ⟨W,t,a,k⟩=> .er 43 66 (lU W t a k) (-1),λ_=> [],
  λargs mem=>match args with| [a0,a1,a2,a3]=>some ⟨dR a0,aw (a1),aw (a2),aw (a3)⟩|_=>none⟩
def adN:aT:=⟨[],(IP).g,none⟩
def S7:EL->Prop:=λ⟨W,t,a,k⟩=>let a0:=((W.aj:Nat):Int);let b0:=cond (cond (cond (decide (t<0)) true (decide (a0<=t))) true (decide (a<0))) true (decide (a0<=a));let c0:=lU W t a k;let d0:=((-1):Int)=(-1);let e0:=W.kinds (Int.toNat t) !=6;let g0:=cond e0 true (W.kinds (Int.toNat a) !=k);let h0:=(W.tasks (Int.toNat t)).core;let k0:=W.ak (Int.toNat h0) !=t;(b0=true->((2:Int)≠0/\c0=2/\d0)/\True)/\(b0=false->(0<=t/\t<a0)/\(e0=false->0<=a/\a<a0)/\(g0=true->((3:Int)≠0/\c0=3/\d0)/\True)/\(g0=false->tn 9 ((0<=t/\t<((W.aP:Nat):Int))/\tn 3 ((0<=h0/\h0<((W.aC:Nat):Int))/\(k0=true->((7:Int)≠0/\c0=7/\d0)/\True)/\(k0=false->(c0=0/\d0)/\True)))))
set_option maxHeartbeats 1000000 in
theorem ab6:aU Tryz.prog aY 25 adN:=bf .nil false Tryz.call25 Tryz.func25 (λ_=> []) (V:=S7) (λ_=>by kernel_rfl) λ⟨W,t,a,k⟩ hp=>by
  dsimp only[IP]at hp
  dsimp only[S7,tn,ar,aD,aI,aJ,aH]
  simp only[bn,bD,eq_self,implies_true,Bool.cond_self]
  try simp only[eP]
  have FB:=hp
  obtain⟨hz,hk,hu⟩:=hp
  have z1:=hz.tasks
  unfold lU
  refine⟨λh=>⟨by decide,by rw[h];rfl⟩,λh=>?_⟩
  simp only[h,cond_false]
  simp only[Bool.or_eq_false_iff,decide_eq_false_iff_not]at h
  refine⟨by omega,λ_=>by omega,λh2=>⟨by decide,by rw[h2];rfl⟩,λh2=>?_⟩
  simp only[h2,cond_false]
  refine⟨by omega,hk t.toNat (by omega),λh3=>⟨by decide,?_⟩,λh3=>?_⟩
  · rw[show(W.ak (W.tasks t.toNat).core.toNat==t)=false by simpa using h3];rfl
  · rw[show(W.ak (W.tasks t.toNat).core.toNat==t)=true by simpa using h3];rfl
structure DZ where
  (n:Nat) (l:Nat->Int)
def Hu:Sy.Spec:=⟨DZ,λ⟨n,l⟩=> [.sl true 1 n (λi_ _=> .v (.int .i64 (l i_)))],λ_=> [],λ⟨n,_⟩=>n<=1000,λ⟨n,l⟩=> .er 43 66 (bif g_ n λi=>!az (l i) 65535 then 0 else 1) (-1),λ_=> [],
  λargs mem=>match args with| [a0]=>some ⟨bX a0,λi=>aw (bN a0 i 0)⟩|_=>none⟩
def aal:aT:=⟨[],(Hu).g,none⟩
def O8:DZ->Prop:=λ⟨n,l⟩=>let a0:=(n:Int);let b0:Int:=cond (g_ n (λc0:Nat=>!az (l c0) 65535)) 0 1;a0<=9223372036854775807->0=((0:Nat):Int)/\True/\(0<=n/\(∀d0:Nat,d0<0->az (l d0) 65535=false))/\(∀e0:Nat,let g0:=(e0:Int);let h0:=decide (g0<a0);let k0:Int:=l (Int.toNat g0);let l0:=cond (decide (k0<0)) true (decide (65535<k0));let o0:Int:=g0+1;e0<=n/\(∀q0:Nat,q0<e0->az (l q0) 65535=false)->(h0=true->(0<=g0/\g0<a0)/\(l0=true->((1:Int)≠0/\b0=1/\((-1):Int)=(-1))/\True)/\(l0=false->ar o0=o0/\(∃r0:Nat,o0=(r0:Int)/\True/\(r0<=n/\(∀u0:Nat,u0<r0->az (l u0) 65535=false))/\n-r0<n-e0)))/\(h0=false->(b0=0/\((-1):Int)=(-1))/\True))
set_option maxHeartbeats 1000000 in
theorem YY:aU Tryz.prog aY 28 aal:=bf .nil false Tryz.call28 Tryz.func28 (λ⟨n,l⟩=> [.inv (afy n l 7)]) (V:=O8) (λ_=>by kernel_rfl) λ⟨n,l⟩ hp=>by
  dsimp only[Hu]at hp
  dsimp only[O8,tn,ar,aD,aI,aJ,aH]
  simp only[bn,bD,eq_self,implies_true,Bool.cond_self]
  try simp only[eP]
  refineλ_ s hs=>⟨λh=>?_,λh=>?_⟩
  · have av:=fO h
    refine⟨by omega,λh2=>⟨by decide,?_⟩,λh2=>⟨dA (by omega) (by omega),fB ⟨⟨by omega,jU (p:=λi=>az (l i) 65535) hs.2 h2⟩,by omega⟩⟩⟩
    have e:(g_ n λc0=>!az (l c0) 65535)=false:=GH (p:=λc0=>!az (l c0) 65535) av (by show(!az (l s) 65535)=false;rw[show az (l s) 65535=true from h2];rfl)
    rw[e];rfl
  · have dz:=ga h
    obtain rfl:s=n:=by omega
    have e:(g_ s λc0=>!az (l c0) 65535)=true:=m6.2 λi hi=>by rw[hs.2 i hi];rfl
    rw[e];rfl
end Go.Proofs.YthgmgkabnffniaaGreatDoor
set_option linter.unusedVariables false
set_option linter.unusedSimpArgs false
set_option maxRecDepth 100000
namespace Go.Proofs.YthgmgkabnffniaaGreatDoor
open Go.RowKit Go.Sy
def wbS (W:Wd) (t:Nat) (w b:Int) (i:Nat):aM:=ah W.tasks t {W.tasks t with word:=w,bL:=b} i
def jw (W:Wd) (t:Nat) (w b:Int):Wd:={W with tasks:=wbS W t w b}
def akS (W:Wd) (t i:Nat):aM:=ah W.tasks t {W.tasks t with st:=5} i
def jb (W:Wd) (t:Nat):Wd:={W with tasks:=akS W t}
def owS (W:Wd) (u:Nat) (t:Int) (i:Nat):aM:=ah W.tasks u {W.tasks u with aE:=t} i
def ly (W:Wd) (u:Nat) (t:Int):Wd:={W with tasks:=owS W u t}
def agU (s:Int):Bool:=s==4
def sY (W:Wd) (a:Nat):Bool:=kY W a agU
def dd (W:Wd) (a:Nat) (bd wd:Int):Wd:=eM (dw (fw W a true) (W.lines a 0).toNat bd wd) (W.lines a 0).toNat
def vK (W:Wd) (t a bd wd:Int) (c:Bool) (i:Nat):aM:=bif c then(ly (jb (fk (dd W a.toNat bd wd) t) t.toNat) (W.lines a.toNat 0).toNat t).tasks i else(dd W a.toNat bd wd).tasks i
def vy (W:Wd) (t a bd wd:Int) (c:Bool) (i:Nat):Nat:=bif c then(ly (jb (fk (dd W a.toNat bd wd) t) t.toNat) (W.lines a.toNat 0).toNat t).ai i else(dd W a.toNat bd wd).ai i
def vL (W:Wd) (t a bd wd:Int) (c:Bool) (i k:Nat):Int:=bif c then(ly (jb (fk (dd W a.toNat bd wd) t) t.toNat) (W.lines a.toNat 0).toNat t).lines i k else(dd W a.toNat bd wd).lines i k
def vN (W:Wd) (t a bd wd:Int) (c:Bool) (i:Nat):Int:=bif c then(ly (jb (fk (dd W a.toNat bd wd) t) t.toNat) (W.lines a.toNat 0).toNat t).ak i else(dd W a.toNat bd wd).ak i
def vz (W:Wd) (t a bd wd:Int) (c:Bool) (i:Nat):Nat:=bif c then(ly (jb (fk (dd W a.toNat bd wd) t) t.toNat) (W.lines a.toNat 0).toNat t).aq i else(dd W a.toNat bd wd).aq i
def vO (W:Wd) (t a bd wd:Int) (c:Bool) (i k:Nat):Int:=bif c then(ly (jb (fk (dd W a.toNat bd wd) t) t.toNat) (W.lines a.toNat 0).toNat t).ready i k else(dd W a.toNat bd wd).ready i k
def mR (W:Wd) (t a bd wd:Int) (c:Bool):Wd:={W with tasks:=vK W t a bd wd c,ai:=vy W t a bd wd c,lines:=vL W t a bd wd c,ak:=vN W t a bd wd c,aq:=vz W t a bd wd c,ready:=vO W t a bd wd c}
theorem afa {W:Wd} {t a bd wd:Int} {c:Bool} (h:(c)=true):mR W t a bd wd c=ly (jb (fk (dd W a.toNat bd wd) t) t.toNat) (W.lines a.toNat 0).toNat t:=by
  have bP:vK W t a bd wd c=(ly (jb (fk (dd W a.toNat bd wd) t) t.toNat) (W.lines a.toNat 0).toNat t).tasks:=by
    funext i
    unfold vK
    rw[h]
    rfl
  have cy:vy W t a bd wd c=(ly (jb (fk (dd W a.toNat bd wd) t) t.toNat) (W.lines a.toNat 0).toNat t).ai:=by
    funext i
    unfold vy
    rw[h]
    rfl
  have cz:vL W t a bd wd c=(ly (jb (fk (dd W a.toNat bd wd) t) t.toNat) (W.lines a.toNat 0).toNat t).lines:=by
    funext i k
    unfold vL
    rw[h]
    rfl
  have gb:vN W t a bd wd c=(ly (jb (fk (dd W a.toNat bd wd) t) t.toNat) (W.lines a.toNat 0).toNat t).ak:=by
    funext i
    unfold vN
    rw[h]
    rfl
  have cU:vz W t a bd wd c=(ly (jb (fk (dd W a.toNat bd wd) t) t.toNat) (W.lines a.toNat 0).toNat t).aq:=by
    funext i
    unfold vz
    rw[h]
    rfl
  have cV:vO W t a bd wd c=(ly (jb (fk (dd W a.toNat bd wd) t) t.toNat) (W.lines a.toNat 0).toNat t).ready:=by
    funext i k
    unfold vO
    rw[h]
    rfl
  show({W with tasks:=vK W t a bd wd c,ai:=vy W t a bd wd c,lines:=vL W t a bd wd c,ak:=vN W t a bd wd c,aq:=vz W t a bd wd c,ready:=vO W t a bd wd c}:Wd)=_
  rw[bP,cy,cz,gb,cU,cV]<;>kernel_rfl
theorem ae' {W:Wd} {t a bd wd:Int} {c:Bool} (h:(c)=false):mR W t a bd wd c=dd W a.toNat bd wd:=by
  have bP:vK W t a bd wd c=(dd W a.toNat bd wd).tasks:=by
    funext i
    unfold vK
    rw[h]
    rfl
  have cy:vy W t a bd wd c=(dd W a.toNat bd wd).ai:=by
    funext i
    unfold vy
    rw[h]
    rfl
  have cz:vL W t a bd wd c=(dd W a.toNat bd wd).lines:=by
    funext i k
    unfold vL
    rw[h]
    rfl
  have gb:vN W t a bd wd c=(dd W a.toNat bd wd).ak:=by
    funext i
    unfold vN
    rw[h]
    rfl
  have cU:vz W t a bd wd c=(dd W a.toNat bd wd).aq:=by
    funext i
    unfold vz
    rw[h]
    rfl
  have cV:vO W t a bd wd c=(dd W a.toNat bd wd).ready:=by
    funext i k
    unfold vO
    rw[h]
    rfl
  show({W with tasks:=vK W t a bd wd c,ai:=vy W t a bd wd c,lines:=vL W t a bd wd c,ak:=vN W t a bd wd c,aq:=vz W t a bd wd c,ready:=vO W t a bd wd c}:Wd)=_
  rw[bP,cy,cz,gb,cU,cV]<;>kernel_rfl
def vA (W:Wd) (t a bd wd:Int) (c:Bool) (i:Nat):aM:=bif sY W a.toNat then(mR W t a bd wd c).tasks i else(fH (jw W t.toNat wd bd) t a (bif c then 3 else 2)).tasks i
def vu (W:Wd) (t a bd wd:Int) (c:Bool) (i:Nat):Nat:=bif sY W a.toNat then(mR W t a bd wd c).ai i else(fH (jw W t.toNat wd bd) t a (bif c then 3 else 2)).ai i
def vC (W:Wd) (t a bd wd:Int) (c:Bool) (i k:Nat):Int:=bif sY W a.toNat then(mR W t a bd wd c).lines i k else(fH (jw W t.toNat wd bd) t a (bif c then 3 else 2)).lines i k
def vD (W:Wd) (t a bd wd:Int) (c:Bool) (i:Nat):Int:=bif sY W a.toNat then(mR W t a bd wd c).ak i else(fH (jw W t.toNat wd bd) t a (bif c then 3 else 2)).ak i
def vw (W:Wd) (t a bd wd:Int) (c:Bool) (i:Nat):Nat:=bif sY W a.toNat then(mR W t a bd wd c).aq i else(fH (jw W t.toNat wd bd) t a (bif c then 3 else 2)).aq i
def vE (W:Wd) (t a bd wd:Int) (c:Bool) (i k:Nat):Int:=bif sY W a.toNat then(mR W t a bd wd c).ready i k else(fH (jw W t.toNat wd bd) t a (bif c then 3 else 2)).ready i k
def JO (W:Wd) (t a bd wd:Int) (c:Bool):Wd:={W with tasks:=vA W t a bd wd c,ai:=vu W t a bd wd c,lines:=vC W t a bd wd c,ak:=vD W t a bd wd c,aq:=vw W t a bd wd c,ready:=vE W t a bd wd c}
theorem ac1 {W:Wd} {t a bd wd:Int} {c:Bool} (h:(sY W a.toNat)=true):JO W t a bd wd c=mR W t a bd wd c:=by
  have bP:vA W t a bd wd c=(mR W t a bd wd c).tasks:=by
    funext i
    unfold vA
    rw[h]
    rfl
  have cy:vu W t a bd wd c=(mR W t a bd wd c).ai:=by
    funext i
    unfold vu
    rw[h]
    rfl
  have cz:vC W t a bd wd c=(mR W t a bd wd c).lines:=by
    funext i k
    unfold vC
    rw[h]
    rfl
  have gb:vD W t a bd wd c=(mR W t a bd wd c).ak:=by
    funext i
    unfold vD
    rw[h]
    rfl
  have cU:vw W t a bd wd c=(mR W t a bd wd c).aq:=by
    funext i
    unfold vw
    rw[h]
    rfl
  have cV:vE W t a bd wd c=(mR W t a bd wd c).ready:=by
    funext i k
    unfold vE
    rw[h]
    rfl
  show({W with tasks:=vA W t a bd wd c,ai:=vu W t a bd wd c,lines:=vC W t a bd wd c,ak:=vD W t a bd wd c,aq:=vw W t a bd wd c,ready:=vE W t a bd wd c}:Wd)=_
  rw[bP,cy,cz,gb,cU,cV]<;>kernel_rfl
theorem ac2 {W:Wd} {t a bd wd:Int} {c:Bool} (h:(sY W a.toNat)=false):JO W t a bd wd c=fH (jw W t.toNat wd bd) t a (bif c then 3 else 2):=by
  have bP:vA W t a bd wd c=(fH (jw W t.toNat wd bd) t a (bif c then 3 else 2)).tasks:=by
    funext i
    unfold vA
    rw[h]
    rfl
  have cy:vu W t a bd wd c=(fH (jw W t.toNat wd bd) t a (bif c then 3 else 2)).ai:=by
    funext i
    unfold vu
    rw[h]
    rfl
  have cz:vC W t a bd wd c=(fH (jw W t.toNat wd bd) t a (bif c then 3 else 2)).lines:=by
    funext i k
    unfold vC
    rw[h]
    rfl
  have gb:vD W t a bd wd c=(fH (jw W t.toNat wd bd) t a (bif c then 3 else 2)).ak:=by
    funext i
    unfold vD
    rw[h]
    rfl
  have cU:vw W t a bd wd c=(fH (jw W t.toNat wd bd) t a (bif c then 3 else 2)).aq:=by
    funext i
    unfold vw
    rw[h]
    rfl
  have cV:vE W t a bd wd c=(fH (jw W t.toNat wd bd) t a (bif c then 3 else 2)).ready:=by
    funext i k
    unfold vE
    rw[h]
    rfl
  show({W with tasks:=vA W t a bd wd c,ai:=vu W t a bd wd c,lines:=vC W t a bd wd c,ak:=vD W t a bd wd c,aq:=vw W t a bd wd c,ready:=vE W t a bd wd c}:Wd)=_
  rw[bP,cy,cz,gb,cU,cV]<;>kernel_rfl
theorem RL {W:Wd} {u j:Nat} {t:Int} (h:j≠u):(ly W u t).tasks j=W.tasks j:=bh h
theorem RM {W:Wd} {t:Nat}:(jb W t).tasks t={W.tasks t with st:=5}:=aZ
theorem RK {W:Wd} {t j:Nat} (h:j≠t):(jb W t).tasks j=W.tasks j:=bh h
theorem ac3 {W:Wd} {t:Nat} {w b:Int}:(jw W t w b).tasks t={W.tasks t with word:=w,bL:=b}:=aZ
theorem jd.LR {W:Wd} {t:Int} {a:Nat} {b w:Int} (h:jd W t):jd (dd W a b w) t:=h.L5.q_.CY
end Go.Proofs.YthgmgkabnffniaaGreatDoor
set_option linter.unusedVariables false
set_option linter.unusedSimpArgs false
set_option maxRecDepth 100000
namespace Go.Proofs.YthgmgkabnffniaaGreatDoor
open Go.RowKit Go.Sy
abbrev T0 (W:Wd):Prop:=TS (λ_=>False) W
theorem bU.t0 {W:Wd} (h:bU W):T0 W:=TS.of h.z h.tk h.ln h.co h.rl
theorem bU.xI {W W':Wd} (h:bU W) (t:T0 W') (ec:fh W'=fh W) (et:W'.time=W.time) (e1:W'.af=W.af) (e2:W'.kinds=W.kinds) (e3:W'.aB=W.aB) (e4:W'.aa=W.aa) (e5:W'.aG=W.aG) (e6:W'.aA=W.aA):bU W':=by
  have rq:=ec
  simp only[fh,List.cons.injEq,and_true]at rq
  obtain⟨c1,c2,c3,c4,c5,c6,c7,c8,c9,me⟩:=rq
  have ko: ∀x,bH W' x=bH W x:=λx=>by unfold bH;rw[e2,c2]
  have is: ∀u,dK W' u=dK W u:=λu=>by unfold dK;rw[c3]
  have up: ∀k u,cH W' u k=cH W u k:=λk u=>by
    induction k with
    |zero=>rfl
    |succ k ih=>show jv W' _=jv W _;rw[ih];unfold jv;rw[is,e4]
  refine⟨t.z,?_,?_,?_,?_,?_,t.tk,t.ln,t.co,t.rl,?_,?_⟩
  · rw[c1,e1];exact h.af
  · rw[c2,e2];exact h.kd
  · rw[me,e3];exact h.dm
  · rw[c3]
    intro i hi
    have:=h.sl i hi
    unfold fy mG at this⊢
    rw[e4,e2,c2,c3,is,up,is];exact this
  · rw[c2]
    intro f hf
    have:=h.fr f hf
    unfold vl at this⊢
    rw[e4,e2,c3];exact this
  · rw[c1]
    intro i hi
    have:=h.en i hi
    unfold gU at this⊢
    simp only[e1,e2,ko];exact this
  · rw[c7,e5,e6]
    intro c hc
    have:=h.tl c hc
    unfold gV nU at this⊢
    simp only[ko,c1,e1];exact this
theorem TS.CZ {X Y:Nat->Prop} {W:Wd} (h:TS X W) (Af: ∀f,f<W.aj->X f->Y f):TS Y W:=
  h.lv λf hf _ hx hy=>absurd (Af f hf hx) hy
theorem T0.core {X:Nat->Prop} {W:Wd} (h:TS X W) {c:Nat} (hc:c<W.aC) (hn:W.ak c≠ -1):(0<=W.ak c/\W.ak c<W.aj)/\W.kinds (W.ak c).toNat=6/\(W.tasks (W.ak c).toNat).st=1/\(W.tasks (W.ak c).toNat).core=c:=by
  obtain⟨a,b,c,d,_⟩:=lF.1 (h.co c hc) hn
  exact⟨a,b,c,d⟩
theorem T0.act {W:Wd} (h:T0 W) {t a k:Int} (he:lU W t a k=0):(0<=t/\t<W.aj)/\(0<=a/\a<W.aj)/\W.kinds t.toNat=6/\W.kinds a.toNat=k/\(W.tasks t.toNat).st=1/\ ∃c,c<W.aC/\W.ak c=(t.toNat:Int):=by
  unfold lU at he
  cases J:(decide (t<0)||decide ((W.aj:Int)<=t)||decide (a<0)||decide ((W.aj:Int)<=a))with
  |true=>rw[J]at he;exact absurd (show(2:Int)=0 from he) (by decide)
  |false=>
   cases h2:(W.kinds t.toNat !=6||W.kinds a.toNat !=k)with
   |true=>rw[J,h2]at he;exact absurd (show(3:Int)=0 from he) (by decide)
   |false=>
    cases h3:W.ak (W.tasks t.toNat).core.toNat==t with
    |false=>rw[J,h2,h3]at he;exact absurd (show(7:Int)=0 from he) (by decide)
    |true=>
     simp only[Bool.or_eq_false_iff,decide_eq_false_iff_not,bne_eq_false_iff_eq]at J h2
     have h3:=eq_of_beq h3
     have ht:t.toNat<W.aj:=by omega
     obtain⟨n1,n2,n3⟩:=h.nm t.toNat ht h2.1
     have hcr:=(yc n2).2.2.2.2.2.1
     have av:(W.tasks t.toNat).core.toNat<W.aC:=by have:=h.z.c0;omega
     have WI:=T0.core h av (by omega)
     rw[h3]at WI
     exact⟨by omega,by omega,h2.1,h2.2,WI.2.2.1,_,av,by rw[h3];omega⟩
theorem ae9 {t:aM} (h:jg t=false) {b g:Int} (hb:0<=b/\b<=65535) (hg:0<=g/\g<=65535):jg {t with r1:=b,r2:=g}=false:=by
  unfold jg at h⊢
  simp only[Bool.or_eq_false_iff]at h⊢
  obtain⟨⟨⟨⟨⟨⟨⟨h0,J⟩,h2⟩,h3⟩,h4⟩,h5⟩,h6⟩,h7⟩:=h
  exact⟨⟨⟨⟨⟨⟨⟨h0,fQ hb⟩,fQ hg⟩,h3⟩,h4⟩,h5⟩,h6⟩,h7⟩
theorem TS.q_ {X:Nat->Prop} {W:Wd} {t:Nat} {b g:Int} (h:TS X W) (ht:t<W.aj) (hk:W.kinds t=6) (hb:0<=b/\b<=65535) (hg:0<=g/\g<=65535):TS X (dw W t b g):=by
  obtain⟨n1,n2,n3⟩:=h.nm t ht hk
  exact h.set (r:={W.tasks t with r1:=b,r2:=g}) ht hk (ae9 n1 hb hg) n2 n3 rfl (.inr ⟨rfl,rfl,rfl,.inl rfl⟩)
theorem TS.wb {X:Nat->Prop} {W:Wd} {t:Nat} {w b:Int} (h:TS X W) (ht:t<W.aj) (hk:W.kinds t=6) (hw:0<=w/\w<=65535) (hb:0<=b/\b<=65535):TS X (jw W t w b):=by
  obtain⟨n1,n2,n3⟩:=h.nm t ht hk
  refine h.set (r:={W.tasks t with word:=w,bL:=b}) ht hk n1 ?_ n3 rfl (.inr ⟨rfl,rfl,rfl,.inl rfl⟩)
  obtain⟨J,h2,h3,h4,h5,h6,h7⟩:=yc n2
  unfold fT
  simp only[Bool.or_eq_false_iff]
  exact⟨⟨⟨⟨⟨⟨fQ J,fQ hw⟩,fQ hb⟩,fQ h4⟩,fQ h5⟩,fQ h6⟩,fQ h7⟩
theorem TS.ask {X:Nat->Prop} {W:Wd} {t:Nat} (h:TS X W) (hX:X t) (ht:t<W.aj) (hk:W.kinds t=6) (hs:cA W t=0) (hn:cu W t=0):TS X (jb W t):=by
  obtain⟨n1,n2,n3⟩:=h.nm t ht hk
  have:=h.set (r:={W.tasks t with st:=5}) ht hk n1 (vJ (l:=(W.tasks t).loc) n2 (by decide)) n3 rfl (.inl ⟨hX,hs,hn⟩)
  exact this
theorem acZ {W:Wd} {a:Nat} {p:Int->Bool} (h:kY W a p=true):0<W.ai a/\p (W.tasks (W.lines a 0).toNat).st=true:=by
  unfold kY at h
  simp only[Bool.and_eq_true,bne_iff_ne]at h
  exact⟨Nat.pos_of_ne_zero h.1,h.2⟩
theorem ae_ {W:Wd} {a:Nat} {p:Int->Bool} (h:kY W a p=false) (hl:0<W.ai a):p (W.tasks (W.lines a 0).toNat).st=false:=by
  unfold kY at h
  simp only[Bool.and_eq_false_iff,bne_eq_false_iff_eq]at h
  exact h.resolve_left (by omega)
theorem TS.LR {X:Nat->Prop} {W:Wd} {a:Nat} {b w:Int} (h:TS X W) (hX: ∀f,X f->W.kinds f≠6) (ha:a<W.aj) (hl:0<W.ai a) (h5:(W.tasks (W.lines a 0).toNat).st≠5) (hb:0<=b/\b<=65535) (hw:0<=w/\w<=65535):TS X (dd W a b w):=by
  obtain⟨_,u2,_⟩:=(eh.1 (h.ln a ha)).2.2.2 0 hl
  have hx: ¬X (W.lines a 0).toNat:=λhx=>hX _ hx u2
  obtain⟨f1,⟨hu,hk⟩,f2,f3⟩:=h.front ha hl hx
  have f4:=f1.q_ (t:=(W.lines a 0).toNat) hu hk hb hw
  have ho:ca (dw (tz W a) (W.lines a 0).toNat b w) (W.lines a 0).toNat=0:=by
    have o:=h.o1 _ hu hk
    have o1:ca W (W.lines a 0).toNat≠1:=λe=>h5 ((o.2 hx).1 e)
    have e1:ca (tz W a) (W.lines a 0).toNat=ca W (W.lines a 0).toNat:=ug (W:=W) (t:=(W.lines a 0).toNat) (r:={W.tasks (W.lines a 0).toNat with loc:= -1}) rfl _
    have e2:ca (dw (tz W a) (W.lines a 0).toNat b w) (W.lines a 0).toNat=ca (tz W a) (W.lines a 0).toNat:=ug (W:=tz W a) (t:=(W.lines a 0).toNat) (r:={(tz W a).tasks (W.lines a 0).toNat with r1:=b,r2:=w}) rfl _
    omega
  have f5:=f4.CY (.inr rfl) hu hk f2 f3 ho
  exact f5.CZ λf _ hf=>hf.1.resolve_right hf.2
theorem T0.b0 {X:Nat->Prop} {W:Wd} (h:TS X W) {a:Nat} (ha:a<W.aj) (hk:W.kinds a=7):W.bits a=0:=Classical.byContradiction λe=>by
  have:=((eh.1 (h.ln a ha)).2.1 e).1
  omega
theorem II {W:Wd} {a j:Nat} {b w:Int} (h:j≠(W.lines a 0).toNat):(dd W a b w).tasks j=W.tasks j:=
  (bh h).trans ((bh h).trans (bh h))
theorem ZD {W:Wd} {a j:Nat} {b w:Int}:((dd W a b w).tasks j).aE=(W.tasks j).aE:=by
  rcases Decidable.em (j=(W.lines a 0).toNat)with e|e
  · subst e
    have e1:(dd W a b w).tasks (W.lines a 0).toNat={(dw (fw W a true) (W.lines a 0).toNat b w).tasks (W.lines a 0).toNat with st:=1,loc:= -1}:=aZ
    have e2:(dw (fw W a true) (W.lines a 0).toNat b w).tasks (W.lines a 0).toNat={(fw W a true).tasks (W.lines a 0).toNat with r1:=b,r2:=w}:=aZ
    have e3:(fw W a true).tasks (W.lines a 0).toNat={W.tasks (W.lines a 0).toNat with loc:= -1}:=aZ
    rw[e1,e2,e3]
  · rw[II e]
theorem ac0 {W:Wd} {a:Nat} {b w:Int}:((dd W a b w).tasks (W.lines a 0).toNat).st=1:=by
  have e1:(dd W a b w).tasks (W.lines a 0).toNat={(dw (fw W a true) (W.lines a 0).toNat b w).tasks (W.lines a 0).toNat with st:=1,loc:= -1}:=aZ
  rw[e1]
theorem T0.snd {W:Wd} {t a b w:Int} {c:Bool} (h:T0 W) (he:lU W t a 7=0) (hb:0<=b/\b<=65535) (hw:0<=w/\w<=65535):T0 (JO W t a b w c):=by
  obtain⟨ht,ha,hk,LS,hs,hc⟩:=h.act he
  have et:(t.toNat:Int)=t:=by omega
  have su:t.toNat<W.aj:=by omega
  have Ag:a.toNat<W.aj:=by omega
  cases hq:sY W a.toNat with
  |true=>
   rw[ac1 hq]
   obtain⟨q1,q2⟩:=acZ hq
   have q2:(W.tasks (W.lines a.toNat 0).toNat).st=4:=eq_of_beq q2
   have g:=h.LR (b:=b) (w:=w) (λ_ hf=>hf.elim) Ag q1 (by omega) hb hw
   cases c with
   |false=>rw[ae' rfl];exact g
   |true=>
    rw[afa rfl]
    obtain⟨_,u2,_⟩:=(eh.1 (h.ln _ Ag)).2.2.2 0 q1
    have u1:=((eh.1 (h.ln _ Ag)).2.2.2 0 q1).1
    have ba:t.toNat≠(W.lines a.toNat 0).toNat:=λe=>by rw[e]at hs;omega
    have o:=g.off (t:=t.toNat) su hk id (by rw[II ba];exact hs) hc
    rw[et]at o
    obtain⟨o1,o2,o3,o4⟩:=o
    have k1:=o1.ask (.inr rfl) su hk o2 o3
    have ow:((jb (fk (dd W a.toNat b w) t) t.toNat).tasks (W.lines a.toNat 0).toNat).aE= -1:=by
      rw[RK ba.symm]
      show((dd W a.toNat b w).tasks _).aE= -1
      rw[ZD]
      exact Classical.byContradiction λe=>(h.ow _ (by omega) u2 e).2 id q2
    have st:((jb (fk (dd W a.toNat b w) t) t.toNat).tasks (W.lines a.toNat 0).toNat).st≠4:=by
      rw[RK ba.symm]
      show((dd W a.toNat b w).tasks _).st≠4
      rw[ac0];decide
    have od:ca (jb (fk (dd W a.toNat b w) t) t.toNat) t.toNat=0:=(ug (W:=fk (dd W a.toNat b w) t) (t:=t.toNat) (r:={(fk (dd W a.toNat b w) t).tasks t.toNat with st:=5}) rfl _).trans o4
    obtain⟨m1,m2⟩:=k1.JM (u:=(W.lines a.toNat 0).toNat) (v:=t) (by show _<W.aj;omega) u2 (.inl ow) (.inr ⟨ht,hk,.inr rfl,od,.inr st⟩)
    have m2:=m2 t.toNat
    rw[od,ow,qN (show(-1:Int)≠t.toNat by omega),et,wK]at m2
    refine TS.lv (W:=ly (jb (fk (dd W a.toNat b w) t) t.toNat) (W.lines a.toNat 0).toNat t) m1 λf _ _ hx _=>?_
    obtain rfl:f=t.toNat:=hx.resolve_left id
    have e1:((ly (jb (fk (dd W a.toNat b w) t) t.toNat) (W.lines a.toNat 0).toNat t).tasks t.toNat).st=5:=by
      rw[RL ba,RM]
    have e2:((ly (jb (fk (dd W a.toNat b w) t) t.toNat) (W.lines a.toNat 0).toNat t).tasks t.toNat).loc= -1:=by
      rw[RL ba,RM]
      show((dd W a.toNat b w).tasks t.toNat).loc= -1
      rw[II ba]
      exact((h.so _ su hk id).rd hs).2.2
    exact⟨⟨λ_=>e1,λ_=>m2⟩,.o (.inr e1) o2 o3 e2,λ_=>by rw[e1];decide⟩
  |false=>
   rw[ac2 hq]
   have g:=TS.wb (w:=w) (b:=b) h su hk hw hb
   have o:=g.off (t:=t.toNat) su hk id (by rw[ac3];exact hs) hc
   rw[et]at o
   obtain⟨o1,o2,o3,o4⟩:=o
   have hb0:=T0.b0 h Ag LS
   have r:=o1.T9 (a:=a.toNat) (s:=bif c then 3 else 2) (.inr rfl) su hk o2 o3 o4 Ag (.inl ⟨LS,by cases c<;>simp⟩) hb0 (λhl=>?_) (λhc4=>by cases c<;>exact absurd hc4 (by decide))
   · have ea:(a.toNat:Int)=a:=by omega
     have r:=r.CZ (Y:=λ_=>False) λf _ hf=>hf.1.resolve_right hf.2
     have e:mF (fk (jw W t.toNat w b) t) t.toNat a.toNat (bif c then 3 else 2)=fH (jw W t.toNat w b) t a (bif c then 3 else 2):=by
       unfold mF fH
       rw[et,ea];rfl
     rw[e]at r;exact r
   · have hq:=ae_ hq (show 0<W.ai a.toNat from hl)
     have hq:((W.tasks (W.lines a.toNat 0).toNat).st==4)=false:=hq
     obtain⟨_,u2,_⟩:=(eh.1 (h.ln _ Ag)).2.2.2 0 hl
     have e:lu (fk (jw W t.toNat w b) t) (W.lines a.toNat 0)=((W.tasks (W.lines a.toNat 0).toNat).st==4):=by
       show((ah W.tasks t.toNat {W.tasks t.toNat with word:=w,bL:=b} (W.lines a.toNat 0).toNat).st==4)=_
       rcases Decidable.em ((W.lines a.toNat 0).toNat=t.toNat)with e|e
       · rw[e,aZ]
       · rw[bh e]
     have e':lu (fk (jw W t.toNat w b) t) ((fk (jw W t.toNat w b) t).lines a.toNat 0)=lu (fk (jw W t.toNat w b) t) (W.lines a.toNat 0):=rfl
     rw[e',e,hq]
     cases c<;>rfl
end Go.Proofs.YthgmgkabnffniaaGreatDoor
set_option linter.unusedVariables false
set_option linter.unusedSimpArgs false
set_option maxRecDepth 100000
namespace Go.Proofs.YthgmgkabnffniaaGreatDoor
open Go.RowKit Go.Sy
theorem T0.first {X:Nat->Prop} {W:Wd} (h:TS X W) {a:Nat} (ha:a<W.aj) (hl:0<W.ai a):(0<=W.lines a 0/\W.lines a 0<W.aj)/\W.kinds (W.lines a 0).toNat=6/\(W.tasks (W.lines a 0).toNat).loc=a:=by
  obtain⟨a1,a2,a3,_⟩:=(eh.1 (h.ln a ha)).2.2.2 0 hl
  exact⟨a1,a2,a3⟩
theorem ZC {W W':Wd} (hn:W'.aP=W.aP) (h: ∀i,(W'.tasks i).aE=(W.tasks i).aE) (f:Nat):ca W' f=ca W f:=by
  unfold ca
  rw[hn]
  exact jA λi _=>by rw[h]
theorem T0.ring {W:Wd} {b:Nat} {g:Int} (h:T0 W) (hb:b<W.aj) (hk:W.kinds b=8) (hg:0<=g/\g<=65535) (ho:0<=gD (W.bits b) g/\gD (W.bits b) g<=65535):T0 (jH W b g):=by
  cases hl:W.ai b==0 with
  |true=>rw[EG hl];exact TS.bits h hb hk ho λ_=>eq_of_beq hl
  |false=>
   rw[IH hl]
   have hl:0<W.ai b:=Nat.pos_of_ne_zero (beq_eq_false_iff_ne.1 hl)
   obtain⟨u1,u2,u3⟩:=T0.first h hb hl
   refine TS.LR h (λ_ hf=>hf.elim) hb hl (λe=>?_) (by decide) hg
   have:=((h.so _ (by omega) u2 id).idle (.inr e)).2.2
   omega
theorem T0.JN {W:Wd} {t b:Int} (h:T0 W) (he:lU W t b 8=0):T0 (jo W t b):=by
  obtain⟨ht,hb,hk,C0,hs,hc⟩:=h.act he
  have et:(t.toNat:Int)=t:=by omega
  have eb:(b.toNat:Int)=b:=by omega
  have su:t.toNat<W.aj:=by omega
  have dC:b.toNat<W.aj:=by omega
  obtain⟨l1,l2,l3,l4⟩:=eh.1 (h.ln _ dC)
  cases hq:W.bits b.toNat==0 with
  |true=>
   rw[yB hq]
   have o:=h.off (t:=t.toNat) su hk id hs hc
   rw[et]at o
   obtain⟨o1,o2,o3,o4⟩:=o
   have r:=o1.T9 (a:=b.toNat) (s:=6) (.inr rfl) su hk o2 o3 o4 dC (.inr ⟨C0,rfl⟩) (eq_of_beq hq) (λhl=>?_) (λh4=>absurd h4 (by decide))
   · have r:=r.CZ (Y:=λ_=>False) λf _ hf=>hf.1.resolve_right hf.2
     have e:mF (fk W t) t.toNat b.toNat 6=fH W t b 6:=by
       unfold mF fH
       rw[et,eb];rfl
     rw[e]at r;exact r
   · obtain⟨u1,u2,u3⟩:=T0.first h dC hl
     show((W.tasks (W.lines b.toNat 0).toNat).st==4)=_
     have:(W.tasks (W.lines b.toNat 0).toNat).st≠4:=λe=>by
       have:=((h.so _ (by omega) u2 id).dr (.inr (.inr e))).2.2.1
       rw[u3,fS (by omega),Int.toNat_natCast,C0]at this
       exact absurd this (by decide)
     rw[beq_eq_false_iff_ne.2 this];rfl
  |false=>
   rw[yC hq]
   have g:=TS.q_ (t:=t.toNat) (b:=0) (g:=W.bits b.toNat) h su hk (by decide) l3
   exact TS.bits (W:=dw W t.toNat 0 (W.bits b.toNat)) g dC C0 (by decide) λh0=>absurd rfl h0
end Go.Proofs.YthgmgkabnffniaaGreatDoor
set_option linter.unusedVariables false
set_option linter.unusedSimpArgs false
set_option maxRecDepth 100000
namespace Go.Proofs.YthgmgkabnffniaaGreatDoor
open Go.RowKit Go.Sy
def eY (p:Nat->Bool):Nat->Nat
  |0=>0
  |i+1=>bif p i then eY p i else eY p i+1
def gT {α:Type} (z:α) (p:Nat->Bool) (t:Nat->α):Nat->Nat->α
  |0,_=>z
  |i+1,a=>bif !p i&&Nat.beq a (eY p i)then t i else gT z p t i a
theorem S8 (p:Nat->Bool): ∀i,eY p i<=i
  |0=>Nat.le_refl _
  |i+1=>by have:=S8 p i;simp only[eY];cases p i<;>simp<;>omega
def uP (l:Nat->Int) (x:Int) (k:Nat):Bool:=l k==x
def pW (n:Nat) (l:Nat->Int) (x:Int):Nat:=eY (uP l x) n
def lx (n:Nat) (l:Nat->Int) (x:Int):Nat->Int:=gT 0 (uP l x) l n
end Go.Proofs.YthgmgkabnffniaaGreatDoor
set_option linter.unusedVariables false
set_option linter.unusedSimpArgs false
set_option maxRecDepth 100000
namespace Go.Proofs.YthgmgkabnffniaaGreatDoor
open Go.RowKit Go.Sy
def fX (x:aM) (t:Int):aM:={x with aE:=bif x.aE==t then -1 else x.aE}
def LQ (W:Wd) (t:Int) (i:Nat):aM:=fX (ru W t.toNat (-1) 0 i) t
def pG (W:Wd) (t:Int) (i:Nat):Nat:=pW (W.ai i) (W.lines i) t
def pX (W:Wd) (t:Int) (i:Nat):Nat->Int:=lx (W.ai i) (W.lines i) t
def nF (W:Wd) (t:Int) (i:Nat):Nat:=pW (W.aq i) (W.ready i) t
def nT (W:Wd) (t:Int) (i:Nat):Nat->Int:=lx (W.aq i) (W.ready i) t
def bJ (W:Wd) (t:Int):Wd:={W with tasks:=LQ W t,ai:=pG W t,lines:=pX W t,ak:=dT W t,aq:=nF W t,ready:=nT W t}
end Go.Proofs.YthgmgkabnffniaaGreatDoor
set_option linter.unusedVariables false
set_option linter.unusedSimpArgs false
set_option maxRecDepth 100000
namespace Go.Proofs.YthgmgkabnffniaaGreatDoor
open Go.RowKit Go.Sy
def pf (W:Wd) (t:Int):Int:=bif decide (t<0)||decide ((W.aj:Int)<=t)then 2 else bif W.kinds t.toNat !=6 then 3 else 0
def jn (W:Wd) (t:Int):Int:=bif pf W t==0 then bif (W.tasks t.toNat).st==0 then 0 else 7 else pf W t
def kK (W:Wd) (t:Int) (i:Nat):aM:=bif jn W t==0 then(eM W t.toNat).tasks i else(W).tasks i
def kJ (W:Wd) (t:Int) (i:Nat):Nat:=bif jn W t==0 then(eM W t.toNat).aq i else(W).aq i
def kM (W:Wd) (t:Int) (i k:Nat):Int:=bif jn W t==0 then(eM W t.toNat).ready i k else(W).ready i k
def lR (W:Wd) (t:Int):Wd:={W with tasks:=kK W t,aq:=kJ W t,ready:=kM W t}
theorem RJ {W:Wd} {t:Int} (h:(jn W t==0)=true):lR W t=eM W t.toNat:=by
  have bP:kK W t=(eM W t.toNat).tasks:=by
    funext i
    unfold kK
    rw[h]
    rfl
  have cU:kJ W t=(eM W t.toNat).aq:=by
    funext i
    unfold kJ
    rw[h]
    rfl
  have cV:kM W t=(eM W t.toNat).ready:=by
    funext i k
    unfold kM
    rw[h]
    rfl
  show({W with tasks:=kK W t,aq:=kJ W t,ready:=kM W t}:Wd)=_
  rw[bP,cU,cV]<;>kernel_rfl
theorem IG {W:Wd} {t:Int} (h:(jn W t==0)=false):lR W t=W:=by
  have bP:kK W t=(W).tasks:=by
    funext i
    unfold kK
    rw[h]
    rfl
  have cU:kJ W t=(W).aq:=by
    funext i
    unfold kJ
    rw[h]
    rfl
  have cV:kM W t=(W).ready:=by
    funext i k
    unfold kM
    rw[h]
    rfl
  show({W with tasks:=kK W t,aq:=kJ W t,ready:=kM W t}:Wd)=_
  rw[bP,cU,cV]<;>kernel_rfl
structure rj (W:Wd):Prop where
  i:Inv 500 W
theorem U0 {W:Wd} {t:Int} (h:pf W t=0):0<=t/\t<W.aj/\W.kinds t.toNat=6:=by
  unfold pf at h
  cases J:(decide (t<0)||decide ((W.aj:Int)<=t))with
  |true=>rw[J]at h;exact absurd (show(2:Int)=0 from h) (by decide)
  |false=>
   cases h2:W.kinds t.toNat !=6 with
   |true=>rw[J,h2]at h;exact absurd (show(3:Int)=0 from h) (by decide)
   |false=>
    simp only[Bool.or_eq_false_iff,decide_eq_false_iff_not,bne_eq_false_iff_eq]at J h2
    omega
structure DE where
  (W:Wd) (t:Int)
def GZ:Sy.Spec:=⟨DE,λ⟨W,t⟩=> [dV W,.v (.int .i64 t)],λ_=> [],λ⟨W,_⟩=>bO W,λ⟨W,t⟩=> .v (.int .i64 (pf W t)),λ_=> [],
  λargs mem=>match args with| [a0,a1]=>some ⟨dR a0,aw (a1)⟩|_=>none⟩
def YZ:aT:=⟨[],(GZ).g,none⟩
def NK:DE->Prop:=λ⟨W,t⟩=>let a0:=cond (decide (t<0)) true (decide (((W.aj:Nat):Int)<=t));let b0:=pf W t;let c0:=W.kinds (Int.toNat t) !=6;(a0=true->2=b0/\True)/\(a0=false->(0<=t/\t<((W.aj:Nat):Int))/\(c0=true->3=b0/\True)/\(c0=false->0=b0/\True))
theorem XQ:aU Tryz.prog aY 46 YZ:=bf .nil false Tryz.call46 Tryz.func46 (λ_=> []) (V:=NK) (λ_=>by kernel_rfl) λ⟨W,t⟩ hp=>by
  dsimp only[GZ]at hp
  dsimp only[NK,tn,ar,aD,aI,aJ,aH]
  simp only[bn,bD,eq_self,implies_true,Bool.cond_self]
  try simp only[eP]
  unfold pf
  refine⟨λh=>by rw[h];rfl,λh=>?_⟩
  simp only[h,cond_false]
  simp only[Bool.or_eq_false_iff,decide_eq_false_iff_not]at h
  refine⟨by omega,λh2=>by rw[h2];rfl,λh2=>by rw[h2];rfl⟩
structure mW where
  (t:Int) (W:Wd)
def tX:Sy.Spec:=⟨mW,λ⟨t,_⟩=> [.ptr 0 0 none 0 0,.v (.int .i64 t)],λ⟨_,W⟩=>cP W,λ⟨_,W⟩=>rj W,λ⟨t,W⟩=> .v (.int .i64 (jn W t)),λ⟨t,W⟩=>cP (lR W t),
  λargs mem=>match args with| [a0,a1]=>some ⟨aw (a1),iG mem 0⟩|_=>none⟩
def XR:aT:=⟨[true],(tX).g,none⟩
def MR:mW->Prop:=λ⟨t,W⟩=>let a0:=W.ay;let b0:=W.aj;let c0:=W.al;let d0:=W.aP;let e0:=W.aW;let g0:=W.aN;let h0:=W.aC;let k0:=W.aS;let l0:=W.aQ;let o0:=W.aK;let q0:=Wd.mk a0 (λr0:Nat=>W.af (0+r0)) b0 (λu0:Nat=>W.kinds (0+u0)) c0 (λv0:Nat=>W.aa (0+v0)) d0 (λw0:Nat=>W.tasks (0+w0)) e0 (λx0:Nat=>W.ai (0+x0)) (λy0:Nat=>λz0:Nat=>W.lines (0+y0) (0+z0)) g0 (λa1:Nat=>W.bits (0+a1)) h0 (λb1:Nat=>W.ak (0+b1)) k0 (λc1:Nat=>W.aq (0+c1)) (λd1:Nat=>λe1:Nat=>W.ready (0+d1) (0+e1)) l0 (λg1:Nat=>W.aG (0+g1)) (λJ:Nat=>λk1:Nat=>W.aA (0+J) (0+k1)) o0 (λl1:Nat=>W.aB (0+l1)) W.time;let o1:=pf q0 t;let q1:=o1 !=0;let r1:=jn W t;let u1:={W with tasks:=kK W t,aq:=kJ W t,ready:=kM W t};let v1:=aD W u1 True;let w1:=Int.toNat t;let x1:=(W.tasks (0+w1)).st !=0;let y1:=SV.ptr 0 0 none 0 0;(((((((((((((True/\a0=a0/\(∀z1:Nat,z1<a0->True/\W.af (0+z1)=W.af (0+z1)))/\b0=b0/\(∀a2:Nat,let b2:=W.kinds (0+a2);a2<b0->True/\b2=b2))/\c0=c0/\(∀c2:Nat,let d2:=W.aa (0+c2);c2<c0->aJ d2 d2))/\d0=d0/\(∀e2:Nat,let g2:=W.tasks (0+e2);e2<d0->aI g2 g2))/\e0=e0/\(∀h2:Nat,let k2:=W.ai (0+h2);h2<e0->True/\k2=k2/\(∀l2:Nat,let o2:=W.lines (0+h2) (0+l2);l2<k2->True/\o2=o2)))/\g0=g0/\(∀q2:Nat,q2<g0->True/\W.bits (0+q2)=W.bits (0+q2)))/\h0=h0/\(∀r2:Nat,let u2:=W.ak (0+r2);r2<h0->True/\u2=u2))/\k0=k0/\(∀v2:Nat,let w2:=W.aq (0+v2);v2<k0->True/\w2=w2/\(∀x2:Nat,let y2:=W.ready (0+v2) (0+x2);x2<w2->True/\y2=y2)))/\l0=l0/\(∀z2:Nat,
    let a3:=W.aG (0+z2);z2<l0->True/\a3=a3/\(∀b3:Nat,let c3:=W.aA (0+z2) (0+b3);b3<a3->aH c3 c3)))/\o0=o0/\(∀d3:Nat,d3<o0->True/\W.aB (0+d3)=W.aB (0+d3)))/\W.time=W.time)/\t=t/\True)/\True/\GZ.match_1 (λe3:DE=>Prop) (DE.mk q0 t) (λg3:Wd=>λh3:Int=>bO g3))/\(q1=true->o1=r1/\v1)/\(q1=false->(0<=t/\t<(d0:Int))/\(x1=true->7=r1/\v1)/\(x1=false->((y1=y1/\t=t/\True)/\aD W W True/\H9.match_1 (λk3:Em=>Prop) (Em.mk t W) (λl3:Int=>λo3:Wd=>je o3 l3))/\0=r1/\aD {W with tasks:=mQ W w1,aq:=lz W w1,ready:=ml W w1} u1 True))
set_option maxHeartbeats 1000000 in
theorem Mr:aU Tryz.prog aY 18 XR:=bf (.cons XQ (.cons aak .nil)) false Tryz.call18 Tryz.func18 (λ_=> []) (V:=MR) (λ_=>by kernel_rfl) λ⟨t,W⟩ hp=>by
  dsimp only[tX]at hp
  dsimp only[MR,tn,ar,aD,aI,aJ,aH]
  simp only[bn,bD,eq_self,implies_true,Bool.cond_self]
  try simp only[eP]
  have hI:=hp.i
  have z1:=hI.z.tasks
  refine⟨hI.z,λh=>?_,λh=>?_⟩
  · have hq:(pf W t==0)=false:=by simpa using h
    have e:jn W t=pf W t:=by unfold jn;rw[hq];rfl
    have hc:(jn W t==0)=false:=by rw[e];exact hq
    refine⟨e.symm,?_⟩
    have e_:=IG hc
    have bP:kK W t=_:=congrArg Wd.tasks e_
    have cU:kJ W t=_:=congrArg Wd.aq e_
    have cV:kM W t=_:=congrArg Wd.ready e_
    simp only[bP,cU,cV]
    clear e_ bP cU cV
    repeat' (first|exact trivial|exact dk rfl|rfl|refine And.intro ?_ ?_|intro _|fail)
  have hq:(pf W t==0)=true:=by simpa using h
  obtain⟨t0,t1,hk⟩:=U0 (eq_of_beq hq)
  refine⟨⟨t0,by omega⟩,λh2=>?_,λh2=>?_⟩
  · have h2:((W.tasks t.toNat).st==0)=false:=by simpa using h2
    have e:jn W t=7:=by unfold jn;rw[hq,h2];rfl
    have hc:(jn W t==0)=false:=by rw[e];rfl
    refine⟨e.symm,?_⟩
    have e_:=IG hc
    have bP:kK W t=_:=congrArg Wd.tasks e_
    have cU:kJ W t=_:=congrArg Wd.aq e_
    have cV:kM W t=_:=congrArg Wd.ready e_
    simp only[bP,cU,cV]
    clear e_ bP cU cV
    repeat' (first|exact trivial|exact dk rfl|rfl|refine And.intro ?_ ?_|intro _|fail)
  · have h2:((W.tasks t.toNat).st==0)=true:=by simpa using h2
    have e:jn W t=0:=by unfold jn;rw[hq,h2];rfl
    have hc:(jn W t==0)=true:=by rw[e];rfl
    refine⟨H8 hI (by decide) t0 (by omega),e.symm,?_⟩
    have e_:=RJ hc
    have bP:kK W t=_:=congrArg Wd.tasks e_
    have cU:kJ W t=_:=congrArg Wd.aq e_
    have cV:kM W t=_:=congrArg Wd.ready e_
    simp only[bP,cU,cV]
    clear e_ bP cU cV
    repeat' (first|exact trivial|exact dk rfl|rfl|refine And.intro ?_ ?_|intro _|fail)
end Go.Proofs.YthgmgkabnffniaaGreatDoor
set_option linter.unusedVariables false
set_option linter.unusedSimpArgs false
set_option maxRecDepth 100000
namespace Go.Proofs.YthgmgkabnffniaaGreatDoor
open Go.RowKit Go.Sy
theorem T0.out {W:Wd} {c:Nat} (h:T0 W) (hc:c<W.aC):T0 (fF W c):=by
  unfold fF
  cases hg:ve W c with
  |false=>exact h
  |true=>
   show T0 (wW W c)
   unfold ve at hg
   simp only[Bool.and_eq_true,decide_eq_true_eq]at hg
   obtain⟨a1,a2,a3,a4⟩:=T0.core h hc (by omega)
   have et:((W.ak c).toNat:Int)=W.ak c:=by omega
   have hC: ∀d,d<W.aC->sk W c d=dT W ((W.ak c).toNat:Nat) d:=λd hd=>by
     rw[et]
     unfold sk dT
     rcases Decidable.em (d=c)with e|e
     · subst e;rw[aZ,beq_self_eq_true];rfl
     · rw[bh e]
       cases hb:W.ak d==W.ak c with
       |false=>rfl
       |true=>
        have hb:=eq_of_beq hb
        have:=(T0.core h hd (by omega)).2.2.2
        rw[hb,a4]at this
        exact absurd (Int.ofNat.inj this).symm e
   obtain⟨o1,o2,o3,o4⟩:=TS.UZ hC h (by omega) a2 id a3 ⟨c,hc,et.symm⟩
   exact(TS.CY (W:=zg W c) o1 (.inr rfl) (by show _<W.aj;omega) a2 o2 o3 o4).CZ λf _ hf=>hf.1.elim id λe=>hf.2 e
theorem RI {W:Wd} {c:Nat}:(dU W (eZ W c)=true->tv W c={W with ak:=ah W.ak c (W.ready (eZ W c) (pY W (eZ W c))),aq:=ah W.aq (eZ W c) (W.aq (eZ W c) -1),ready:=ah W.ready (eZ W c) (oN (W.ready (eZ W c)) (pY W (eZ W c)))})/\(dU W (eZ W c)=false->tv W c=W):=by
  constructor
  · intro hh
    have e1:sq W c=ah W.ak c (W.ready (eZ W c) (pY W (eZ W c))):=by funext j;unfold sq;rw[hh];rfl
    have e2:pZ W c=ah W.aq (eZ W c) (W.aq (eZ W c) -1):=by funext j;unfold pZ;rw[hh];rfl
    have e3:rv W c=ah W.ready (eZ W c) (oN (W.ready (eZ W c)) (pY W (eZ W c))):=by funext j k;unfold rv;rw[hh];rfl
    unfold tv
    rw[e1,e2,e3]
  · intro hh
    have e1:sq W c=W.ak:=by funext j;unfold sq;rw[hh];rfl
    have e2:pZ W c=W.aq:=by funext j;unfold pZ;rw[hh];rfl
    have e3:rv W c=W.ready:=by funext j k;unfold rv;rw[hh];rfl
    unfold tv
    rw[e1,e2,e3]
theorem acY {W:Wd} {c:Nat}:eZ W c/4=c:=by
  unfold eZ
  cases dU W (c*4+3)<;>cases dU W (c*4+2)<;>cases dU W (c*4+1)<;>simp only[cond_true,cond_false]<;>omega
theorem T0.LH {W:Wd} {c:Nat} (h:T0 W) (hc:c<W.aC):T0 (dc W c):=by
  have ho:=h.out hc
  have tH:c<(fF W c).aC:=by
    unfold fF;cases ve W c<;>exact hc
  unfold dc
  cases hd:decide ((fF W c).ak c<0)with
  |false=>exact ho
  |true=>
   show T0 (tv (fF W c) c)
   have hd:=of_decide_eq_true hd
   cases hh:dU (fF W c) (eZ (fF W c) c)with
   |false=>rw[RI.2 hh];exact ho
   |true=>
    rw[RI.1 hh]
    have hz:=ho.z.ready
    have hk:=acY (W:=fF W c) (c:=c)
    refine TS.run ho (by omega) (of_decide_eq_true (by rw[<-oL];exact hh)) tH hk ?_
    exact Classical.byContradiction λe=>by have:=(T0.core ho tH e).1;omega
theorem T0.tm {W:Wd} {t:Int} (he:pf W t=0):t.toNat<W.aj/\W.kinds t.toNat=6:=by
  obtain⟨a,b,c⟩:=U0 he
  exact⟨by omega,c⟩
theorem T0.start {W:Wd} {t:Int} (h:T0 W):T0 (lR W t):=by
  cases he:jn W t==0 with
  |false=>rw[IG he];exact h
  |true=>
   rw[RJ he]
   have he:=eq_of_beq he
   unfold jn at he
   cases J:pf W t==0 with
   |false=>rw[J]at he;exact absurd he (beq_eq_false_iff_ne.1 J)
   |true=>
    rw[J]at he
    obtain⟨ht,hk⟩:=T0.tm (eq_of_beq J)
    have hs:(W.tasks t.toNat).st=0:=by
      cases h2:(W.tasks t.toNat).st==0 with
      |true=>exact eq_of_beq h2
      |false=>rw[h2]at he;exact absurd (show(7:Int)=0 from he) (by decide)
    obtain⟨i1,i2,i3⟩:=(h.so _ ht hk id).idle (.inl hs)
    have ho:ca W t.toNat=0:=by
      have o:=h.o1 _ ht hk
      have:ca W t.toNat≠1:=λe=>by have:=(o.2 id).1 e;omega
      omega
    exact(TS.CY (h.wk (Y:=λf=>f=t.toNat) λ_ hf=>hf.elim) rfl ht hk i1 i2 ho).CZ λf _ hf=>(hf.2 hf.1).elim
end Go.Proofs.YthgmgkabnffniaaGreatDoor
set_option linter.unusedVariables false
set_option linter.unusedSimpArgs false
set_option maxRecDepth 100000
namespace Go.Proofs.YthgmgkabnffniaaGreatDoor
open Go.RowKit Go.Sy
theorem O9 {p:Nat->Bool} {i:Nat}: ∀{n:Nat},i<n->p i=true->bx i p+1<=bx n p
  |0,h,_=>absurd h (Nat.not_lt_zero _)
  |n+1,h,hp=>by
   rcases Nat.lt_or_ge i n with J|J
   · have:=O9 J hp
     show _<=bx n p+_
     omega
   · obtain rfl:i=n:=by omega
     show _<=bx i p+_
     rw[hp];exact Nat.le_refl _
theorem Ef {p:Nat->Bool} {n i j:Nat} (oR:i<j) (hj:j<n) (hi:p i=true) (hp:p j=true):2<=bx n p:=by
  have J:=O9 hj hp
  have h2:=uc oR hi
  omega
end Go.Proofs.YthgmgkabnffniaaGreatDoor
set_option linter.unusedVariables false
set_option linter.unusedSimpArgs false
set_option maxRecDepth 100000
namespace Go.Proofs.YthgmgkabnffniaaGreatDoor
open Go.RowKit Go.Sy
theorem RH {p:Nat->Bool} {l:Nat->Int} {x z:Int}: ∀n,cf (eY p n) (gT z p l n) x=bx n λk=>!p k&&l k==x
  |0=>rfl
  |n+1=>by
   have ih:=RH (p:=p) (l:=l) (x:=x) (z:=z) n
   rw[bx,<-ih]
   cases hp:p n with
   |true=>
    have e:gT z p l (n+1)=gT z p l n:=by funext a;rw[gT,hp];rfl
    rw[e,eY,hp];rfl
   |false=>
    rw[eY,hp]
    show cf (eY p n+1) _ x=_
    unfold cf
    rw[bx]
    congr 1
    · refine jA λk hk=>?_
      rw[gT,fD (by omega)]
      cases p n<;>rfl
    · rw[gT,hp,Nat.beq_refl];rfl
theorem IF {p:Nat->Bool} {l:Nat->Int} {z:Int}: ∀{n a},a<eY p n-> ∃j,j<n/\p j=false/\gT z p l n a=l j
  |0,_,h=>absurd h (Nat.not_lt_zero _)
  |n+1,a,h=>by
   rw[eY]at h
   cases hp:p n with
   |true=>
    rw[hp]at h
    obtain⟨j,J,h2,h3⟩:=IF (l:=l) (z:=z) (show a<eY p n from h)
    exact⟨j,by omega,h2,by rw[gT,hp];exact h3⟩
   |false=>
    rw[hp]at h
    have h:a<eY p n+1:=h
    rcases Nat.lt_or_ge a (eY p n)with e|e
    · obtain⟨j,J,h2,h3⟩:=IF (l:=l) (z:=z) e
      refine⟨j,by omega,h2,?_⟩
      rw[gT,hp,fD (by omega)];exact h3
    · obtain rfl:a=eY p n:=by omega
      exact⟨n,by omega,hp,by rw[gT,hp,Nat.beq_refl];rfl⟩
theorem Bg {n:Nat} {l:Nat->Int} {t x:Int}:cf (pW n l t) (lx n l t) x=bif x==t then 0 else cf n l x:=by
  unfold pW lx
  rw[RH]
  cases hx:x==t with
  |true=>
   refine mY.2 λi _=>?_
   unfold uP
   rw[eq_of_beq hx]
   cases l i==t<;>rfl
  |false=>
   refine jA λi _=>?_
   unfold uP
   cases hl:l i==x with
   |false=>simp
   |true=>
    rw[eq_of_beq hl,hx];rfl
theorem EF {n a:Nat} {l:Nat->Int} {t:Int} (h:a<pW n l t): ∃j,j<n/\l j≠t/\lx n l t a=l j:=by
  obtain⟨j,J,h2,h3⟩:=IF (l:=l) (z:=0) h
  exact⟨j,J,by simpa [uP]using h2,h3⟩
theorem T8 {n:Nat} {l:Nat->Int} {t:Int} (h:0<pW n l t):0<n:=by
  obtain⟨j,J,_⟩:=EF h;omega
theorem TS.leave {X:Nat->Prop} {W:Wd} {t:Nat} (h:TS X W):TS (λf=>X f\/f=t) {W with ai:=pG W t,lines:=pX W t,ak:=dT W t,aq:=nF W t,ready:=nT W t}/\cA {W with ai:=pG W t,lines:=pX W t,ak:=dT W t,aq:=nF W t,ready:=nT W t} t=0/\cu {W with ai:=pG W t,lines:=pX W t,ak:=dT W t,aq:=nF W t,ready:=nT W t} t=0:=by
  have eq: ∀x:Nat,x≠t->((x:Int)==(t:Int))=false:=λx hx=>beq_eq_false_iff_ne.2 (by omega)
  have c0: ∀x:Nat,x≠t->cf W.aC (dT W t) x=cf W.aC W.ak x:=λx hx=>jA λj hj=>by
    show(dT W t j==(x:Int))=(W.ak j==(x:Int))
    unfold dT
    cases hb:W.ak j==(t:Int)with
    |false=>rfl
    |true=>
     rw[eq_of_beq hb,beq_eq_false_iff_ne.2 (show(t:Int)≠x by omega)]
     exact beq_eq_false_iff_ne.2 (show(-1:Int)≠x by omega)
  refine⟨(h.wk (Y:=λf=>X f\/f=t) λf hf=> .inl hf).lists rfl rfl rfl rfl (λf hf hy=>⟨?_,?_,λa ha a_=>?_⟩) (λf hf=>?_) (λc hc=>?_) (λi hi=>?_),?_,?_⟩
  · exact AB λi _=>by show cf (pW _ _ _) (lx _ _ _) _=_;rw[Bg,eq f λe=>hy (.inr e)];rfl
  · show kt W.aS (λi=>cf (nF W t i) (nT W t i) f)+cf W.aC (dT W t) f=kt W.aS (λi=>cf (W.aq i) (W.ready i) f)+cf W.aC W.ak f
    rw[c0 f λe=>hy (.inr e)]
    congr 1
    exact AB λi _=>by show cf (pW _ _ _) (lx _ _ _) _=_;rw[Bg,eq f λe=>hy (.inr e)];rfl
  · rw[yo]at a_⊢
    show cf (pW _ _ _) (lx _ _ _) _≠0
    rw[Bg,eq f λe=>hy (.inr e)];exact a_
  · obtain⟨l1,l2,l3,l4⟩:=eh.1 (h.ln f hf)
    refine eh.2 ⟨λhl=>l1 (T8 hl),λhb=>⟨(l2 hb).1,?_⟩,l3,λk hk=>?_⟩
    · show pW (W.ai f) (W.lines f) t=0
      refine Classical.byContradiction λe=>?_
      have:=T8 (Nat.pos_of_ne_zero e)
      have:=(l2 hb).2
      omega
    · obtain⟨j,j1,_,j3⟩:=EF hk
      obtain⟨i,i1,_,i3⟩:=EF (Nat.lt_of_le_of_lt (Nat.zero_le _) hk)
      obtain⟨a,b,c,d⟩:=l4 j j1
      obtain⟨_,_,_,d'⟩:=l4 i i1
      show(0<=lx (W.ai f) (W.lines f) t k/\lx (W.ai f) (W.lines f) t k<W.aj)/\W.kinds (lx (W.ai f) (W.lines f) t k).toNat=6/\(W.tasks (lx (W.ai f) (W.lines f) t k).toNat).loc=f/\lu W (lx (W.ai f) (W.lines f) t k)=lu W (lx (W.ai f) (W.lines f) t 0)
      rw[j3,i3]
      exact⟨a,b,c,d.trans d'.symm⟩
  · refine lF.2 λhn=>?_
    have hn:dT W t c≠ -1:=hn
    show RD W (dT W t c) c (-1)
    have e:dT W t c=W.ak c:=by
      unfold dT at hn⊢
      cases hb:W.ak c==(t:Int)with
      |false=>rfl
      |true=>rw[hb]at hn;exact absurd rfl hn
    rw[e]at hn⊢
    exact lF.1 (h.co c hc) hn
  · refine kj.2 λk hk=>?_
    obtain⟨j,j1,_,j3⟩:=EF hk
    show RD W (lx (W.aq i) (W.ready i) t k) _ _
    rw[j3]
    exact kj.1 (h.rl i hi) j j1
  · exact AL.2 λi _=>by show cf (pW _ _ _) (lx _ _ _) _=0;rw[Bg,beq_self_eq_true];rfl
  · show kt W.aS (λi=>cf (nF W t i) (nT W t i) t)+cf W.aC (dT W t) t=0
    rw[AL.2 λi _=>by show cf (pW _ _ _) (lx _ _ _) _=0;rw[Bg,beq_self_eq_true];rfl,AK.2 λj hj=>by
     unfold dT
     cases hb:W.ak j==(t:Int)with
     |false=>simpa using hb
     |true=>show(-1:Int)≠t;omega]
theorem TS.stp {X:Nat->Prop} {W:Wd} {t:Nat} (h:TS X W) (ht:t<W.aj) (hk:W.kinds t=6):TS (λf=>X f/\f≠t) (bJ W t):=by
  obtain⟨J,s1,s2⟩:=h.leave (t:=t)
  have z:=h.z
  have zt:=z.tasks
  obtain⟨n1,n2,n3⟩:=h.nm t ht hk
  have h2:TS (λf=>X f\/f=t) {W with tasks:=λi=>fX (W.tasks i) t,ai:=pG W t,lines:=pX W t,ak:=dT W t,aq:=nF W t,ready:=nT W t}/\ca {W with tasks:=λi=>fX (W.tasks i) t,ai:=pG W t,lines:=pX W t,ak:=dT W t,aq:=nF W t,ready:=nT W t} t=0:=by
    have o0:ca {W with tasks:=λi=>fX (W.tasks i) t,ai:=pG W t,lines:=pX W t,ak:=dT W t,aq:=nF W t,ready:=nT W t} t=0:=mY.2 λi _=>by
      show((fX (W.tasks i) t).aE==(t:Int))=false
      unfold fX
      dsimp only
      cases hb:(W.tasks i).aE==(t:Int)with
      |false=>exact hb
      |true=>exact beq_eq_false_iff_ne.2 (show(-1:Int)≠t by omega)
    refine⟨?_,o0⟩
    rcases Classical.em (∃u,u<W.aj/\(W.tasks u).aE=(t:Int))with⟨u,hu,CX⟩|cj
    · have Gi:W.kinds u=6:=Classical.byContradiction λe=>by
        rw[h.bl u hu e]at CX
        exact absurd CX (show(-1:Int)≠t by omega)
      obtain⟨m1,m2⟩:=J.JM (u:=u) (v:= -1) hu Gi (.inr (by
        show X (W.tasks u).aE.toNat\/(W.tasks u).aE.toNat=t
        rw[CX];exact .inr (by omega))) (.inl rfl)
      refine TS.WE (W:={W with tasks:=ah W.tasks u {W.tasks u with aE:= -1},ai:=pG W t,lines:=pX W t,ak:=dT W t,aq:=nF W t,ready:=nT W t}) m1 λf hf=>?_
      show fX (W.tasks f) t=ah W.tasks u {W.tasks u with aE:= -1} f
      rcases Decidable.em (f=u)with e|e
      · subst e
        rw[aZ];unfold fX;rw[CX,beq_self_eq_true];rfl
      · rw[bh e]
        have ba:(W.tasks f).aE≠t:=λe2=>by
          have a:=(h.o1 t ht hk).1
          have hc:2<=ca W t:=by
            have WG:((W.tasks u).aE==(t:Int))=true:=beq_iff_eq.2 CX
            have WH:((W.tasks f).aE==(t:Int))=true:=beq_iff_eq.2 e2
            rcases Nat.lt_or_ge f u with g|g
            · exact Ef (p:=λi=>(W.tasks i).aE==(t:Int)) g (by omega) WH WG
            · exact Ef (p:=λi=>(W.tasks i).aE==(t:Int)) (show u<f by omega) (by have:f<W.aj:=hf;omega) WG WH
          omega
        unfold fX
        rw[beq_eq_false_iff_ne.2 ba];rfl
    · refine TS.WE (W:={W with ai:=pG W t,lines:=pX W t,ak:=dT W t,aq:=nF W t,ready:=nT W t}) J λf hf=>?_
      show fX (W.tasks f) t=W.tasks f
      unfold fX
      rw[beq_eq_false_iff_ne.2 λe=>cj ⟨f,hf,e⟩];rfl
  obtain⟨h2,o2⟩:=h2
  obtain⟨n1',Kn,n3'⟩:=h2.nm t ht hk
  have h3:=h2.set (t:=t) (r:={fX (W.tasks t) t with st:=0,loc:= -1}) ht hk n1' (vJ Kn (by decide)) n3' rfl (.inl ⟨.inr rfl,s1,s2⟩)
  have e:bJ W t={W with tasks:=ah (λi=>fX (W.tasks i) t) t {fX (W.tasks t) t with st:=0,loc:= -1},ai:=pG W t,lines:=pX W t,ak:=dT W t,aq:=nF W t,ready:=nT W t}:=by
    have:LQ W t=ah (λi=>fX (W.tasks i) t) t {fX (W.tasks t) t with st:=0,loc:= -1}:=by
      funext i
      unfold LQ ru
      rw[Int.toNat_natCast]
      rcases Decidable.em (i=t)with e|e
      · subst e;rw[aZ,aZ];rfl
      · rw[bh e,bh e]
    unfold bJ
    rw[this]
  rw[e]
  refine h3.lv λf hf h6 hx hy=>?_
  obtain rfl:f=t:=Classical.byContradiction λe=>hy ⟨hx.resolve_right e,e⟩
  have e1: ∀{α:Type} (p:aM->α),p (ah (λi=>fX (W.tasks i) f) f {fX (W.tasks f) f with st:=0,loc:= -1} f)=p {fX (W.tasks f) f with st:=0,loc:= -1}:=λp=>by rw[aZ]
  have eo:ca {W with tasks:=ah (λi=>fX (W.tasks i) f) f {fX (W.tasks f) f with st:=0,loc:= -1},ai:=pG W f,lines:=pX W f,ak:=dT W f,aq:=nF W f,ready:=nT W f} f=0:=
    (ug (W:={W with tasks:=λi=>fX (W.tasks i) f,ai:=pG W f,lines:=pX W f,ak:=dT W f,aq:=nF W f,ready:=nT W f}) (t:=f) (r:={fX (W.tasks f) f with st:=0,loc:= -1}) rfl f).trans o2
  rw[eo]
  refine⟨⟨λh=>absurd h (by decide),λh=>?_⟩,.o (.inl (e1 aM.st)) s1 s2 (e1 aM.loc),λ_=>?_⟩
  · have h:(ah (λi=>fX (W.tasks i) f) f {fX (W.tasks f) f with st:=0,loc:= -1} f).st=5:=h
    rw[e1 aM.st]at h;exact absurd (show(0:Int)=5 from h) (by decide)
  · show(ah (λi=>fX (W.tasks i) f) f {fX (W.tasks f) f with st:=0,loc:= -1} f).st≠4
    rw[e1 aM.st];exact(by decide:(0:Int)≠4)
end Go.Proofs.YthgmgkabnffniaaGreatDoor
set_option linter.unusedVariables false
set_option linter.unusedSimpArgs false
set_option maxRecDepth 100000
namespace Go.Proofs.YthgmgkabnffniaaGreatDoor
open Go.RowKit Go.Sy
def nQ (n:Nat) (af:Nat->Int) (e:dQ):Bool:=!((ja n af e.sp (16*e.pg)==0)&&(mi n af e.sp (16*e.pg)==e.fr)&&(mj n af e.sp (16*e.pg)==e.wr))
def C_ (f:Int) (e:dQ):Bool:=e.sp==f
def xR (p:dQ->Bool) (W:Wd) (c:Nat):Nat:=eY (λi=>p (W.aA c i)) (W.aG c)
def mS (p:dQ->Bool) (W:Wd) (c:Nat):Nat->dQ:=gT Am (λi=>p (W.aA c i)) (W.aA c) (W.aG c)
structure TlR (W:Wd):Prop where
  z:bO W
  af: ∀i,i<W.ay->p5 (W.af i)
  tn: ∀c,c<W.aQ->W.aG c<=1000
  pg: ∀c,c<W.aQ-> ∀k,k<W.aG c->0<=(W.aA c k).pg/\(W.aA c k).pg<=255
end Go.Proofs.YthgmgkabnffniaaGreatDoor
set_option linter.unusedVariables false
set_option linter.unusedSimpArgs false
set_option maxRecDepth 100000
namespace Go.Proofs.YthgmgkabnffniaaGreatDoor
open Go.RowKit Go.Sy
def jP (f:Nat->Nat) (i j:Nat):Nat:=bif Nat.blt j i then f j else 0
theorem Bi {f:Nat->Nat} {i j:Nat} (h:j<i):jP f i j=f j:=by unfold jP;rw[ji h];rfl
theorem yE {f:Nat->Nat} {i j:Nat} (h:i<=j):jP f i j=0:=by unfold jP;rw[nv h];rfl
theorem O_ {f:Nat->Nat} {i j:Nat}:(bif j.beq i then f i else jP f i j)=jP f (i+1) j:=by
  rcases Nat.lt_trichotomy j i with h|h|h
  · rw[fD (by omega),Bi h,Bi (by omega:j<i+1)];rfl
  · subst h;rw[Nat.beq_refl,Bi (Nat.lt_succ_self _)];rfl
  · rw[fD (by omega),yE (by omega),yE (by omega:i+1<=j)];rfl
theorem Bj {α:Type} {f:Nat->α} {i j:Nat}:(bif j.beq i then f i else f j)=f j:=by
  rcases Decidable.em (j=i)with h|h
  · subst h;cases j.beq j<;>rfl
  · rw[fD h];rfl
theorem afA {c:Bool} {f:Nat->dQ} {i j:Nat} (h:c=j.beq i):(((bif c then(f i).sp else(f j).sp)=(f j).sp/\(bif c then(f i).pg else(f j).pg)=(f j).pg)/\(bif c then(f i).fr else(f j).fr)=(f j).fr)/\(bif c then(f i).wr else(f j).wr)=(f j).wr:=by
  subst h
  exact⟨⟨⟨Bj (f:=λx=>(f x).sp),Bj (f:=λx=>(f x).pg)⟩,Bj (f:=λx=>(f x).fr)⟩,Bj (f:=λx=>(f x).wr)⟩
def adO (a b:Nat) (n:Nat) (ln:Nat->Nat) (l:Nat->Nat->Int):cG where
  σ:=Nat
  rt:= [(a,1)]
  sh i:= [(a,.aO 0 0 none 0 n),(b,.v (.int .i64 i))]
  mh i:= [(0,.row 1 n λj _=> .il 1 (jP ln i j) (iF (l j)))]
  inv i:=i<=n
  μ i:=n -i
  init:=0
def adP (a b:Nat) (n:Nat) (ln:Nat->Nat) (l:Nat->Nat->dQ):cG where
  σ:=Nat
  rt:= [(a,1)]
  sh i:= [(a,.aO 0 0 none 0 n),(b,.v (.int .i64 i))]
  mh i:= [(0,.row 1 n λj _=> .il 4 (jP ln i j) (rF λk=>kF (l j k)))]
  inv i:=i<=n
  μ i:=n -i
  init:=0
structure Lg (W:Wd):Prop where
  af:W.ay<=1000
  kinds:W.aj<=1000
  aa:W.al<=1000
  tasks:W.aP<=1000
  lines:W.aW<=1000
  bits:W.aN<=1000
  ak:W.aC<=1000
  ready:W.aS<=1000
  aA:W.aQ<=1000
  aB:W.aK<=1000
  ai: ∀i,i<W.aW->W.ai i<=1000
  aq: ∀i,i<W.aS->W.aq i<=1000
  aG: ∀i,i<W.aQ->W.aG i<=1000
structure m8 where
  (n:Nat) (l:Nat->Int)
def ud:Sy.Spec:=⟨m8,λ⟨n,l⟩=> [.sl true 1 n (λi_ _=> .v (.int .i64 (l i_)))],λ_=> [],λ⟨n,_⟩=>n<=100000,λ⟨n,_⟩=> .aO 0 0 none 0 n,λ⟨n,l⟩=> [.row 1 n (iF l)],
  λargs mem=>match args with| [a0]=>some ⟨bX a0,λi=>aw (bN a0 i 0)⟩|_=>none⟩
def aao:aT:=⟨[],(ud).g,none⟩
def O':m8->Prop:=λ⟨n,l⟩=> ∀a0:Bool,(a0=true->n=0)->(a0=true->(0=0/\0=n)/\(0=n/\(∀b0:Nat,b0<n->True/\SV.aF=SV.v (Value.int IntKind.i64 (l b0))))/\True)/\(a0=false->True/\(n*8<=140737488355328/\(∀c0:Nat,true=true))/\(0=0/\n=n)/\(n=n/\(∀d0:Nat,d0<n->True/\l d0=l d0))/\True)
theorem NL:aU Tryz.prog aY 80 aao:=bf .nil false Tryz.call80 Tryz.func80 (λ_=> []) (V:=O') (λ_=>by kernel_rfl) λ⟨n,l⟩ hp=>by
  dsimp only[ud]at hp
  dsimp only[O',tn,ar,aD,aI,aJ,aH]
  simp only[bn,eq_self,implies_true,Bool.cond_self]
  intro b hb
  refine⟨λh=>?_,λ_=>?_⟩
  · have:=hb h
    subst this
    exact⟨rfl,rfl,λi hi=>absurd hi (by omega)⟩
  · omega
structure D0 where
  (n:Nat) (l:Nat->bK)
def Hv:Sy.Spec:=⟨D0,λ⟨n,l⟩=> [.sl true 7 n (rF λi=>pS (l i))],λ_=> [],λ⟨n,_⟩=>n<=100000,λ⟨n,_⟩=> .aO 0 0 none 0 n,λ⟨n,l⟩=> [.row 7 n (rF λi=>pS (l i))],
  λargs mem=>match args with| [a0]=>some ⟨bX a0,λi=>Fq (λj=>bN a0 i j)⟩|_=>none⟩
def aap:aT:=⟨[],(Hv).g,none⟩
def Pa:D0->Prop:=λ⟨n,l⟩=> ∀a0:Bool,(a0=true->n=0)->(a0=true->(0=0/\0=n)/\(0=n/\(∀b0:Nat,let c0:=l b0;b0<n->((((((True/\SV.aF=SV.v (Value.int IntKind.i64 c0.kind))/\SV.aF=SV.v (Value.int IntKind.i64 c0.base))/\SV.aF=SV.v (Value.int IntKind.i64 c0.len))/\SV.aF=SV.v (Value.int IntKind.i64 c0.mark))/\SV.aF=SV.v (Value.int IntKind.i64 c0.cd))/\SV.aF=SV.v (Value.int IntKind.i64 c0.bL))/\SV.aF=SV.v (Value.int IntKind.i64 c0.from_)))/\True)/\(a0=false->True/\(n*56<=140737488355328/\(∀d0:Nat,true=true))/\(0=0/\n=n)/\(n=n/\(∀e0:Nat,e0<n->aJ (l e0) (l e0)))/\True)
theorem Y0:aU Tryz.prog aY 81 aap:=bf .nil false Tryz.call81 Tryz.func81 (λ_=> []) (V:=Pa) (λ_=>by kernel_rfl) λ⟨n,l⟩ hp=>by
  dsimp only[Hv]at hp
  dsimp only[Pa,tn,ar,aD,aI,aJ,aH]
  simp only[bn,eq_self,implies_true,Bool.cond_self]
  intro b hb
  refine⟨λh=>?_,λ_=>?_⟩
  · have:=hb h
    subst this
    exact⟨rfl,rfl,λi hi=>absurd hi (by omega)⟩
  · omega
structure D1 where
  (n:Nat) (l:Nat->aM)
def Hw:Sy.Spec:=⟨D1,λ⟨n,l⟩=> [.sl true 20 n (rF λi=>nD (l i))],λ_=> [],λ⟨n,_⟩=>n<=100000,λ⟨n,_⟩=> .aO 0 0 none 0 n,λ⟨n,l⟩=> [.row 20 n (rF λi=>nD (l i))],
  λargs mem=>match args with| [a0]=>some ⟨bX a0,λi=>E9 (λj=>bN a0 i j)⟩|_=>none⟩
def aaq:aT:=⟨[],(Hw).g,none⟩
def Pb:D1->Prop:=λ⟨n,l⟩=> ∀a0:Bool,(a0=true->n=0)->(a0=true->(0=0/\0=n)/\(0=n/\(∀b0:Nat,let c0:=l b0;b0<n->(((((((((((((((((((True/\SV.aF=SV.v (Value.int IntKind.i64 c0.r0))/\SV.aF=SV.v (Value.int IntKind.i64 c0.r1))/\SV.aF=SV.v (Value.int IntKind.i64 c0.r2))/\SV.aF=SV.v (Value.int IntKind.i64 c0.r3))/\SV.aF=SV.v (Value.int IntKind.i64 c0.r4))/\SV.aF=SV.v (Value.int IntKind.i64 c0.r5))/\SV.aF=SV.v (Value.int IntKind.i64 c0.r6))/\SV.aF=SV.v (Value.int IntKind.i64 c0.r7))/\SV.aF=SV.v (Value.int IntKind.i64 c0.pc))/\SV.aF=SV.v (Value.int IntKind.i64 c0.st))/\SV.aF=SV.v (Value.int IntKind.i64 c0.prio))/\SV.aF=SV.v (Value.int IntKind.i64 c0.node))/\SV.aF=SV.v (Value.int IntKind.i64 c0.space))/\SV.aF=SV.v (Value.int IntKind.i64 c0.helper))/\SV.aF=SV.v (Value.int IntKind.i64 c0.loc))/\SV.aF=SV.v (Value.int IntKind.i64 c0.word))/\SV.aF=SV.v (Value.int IntKind.i64 c0.bL))/\SV.aF=SV.v (Value.int IntKind.i64 c0.aE))/\SV.aF=SV.v (Value.int IntKind.i64 c0.core))/\SV.aF=SV.v (Value.int IntKind.i64 c0.cL)))/\True)/\(a0=false->True/\(n*160<=140737488355328/\(∀d0:Nat,true=true))/\(0=0/\n=n)/\(n=n/\(∀e0:Nat,e0<n->aI (l e0) (l e0)))/\True)
theorem Y1:aU Tryz.prog aY 82 aaq:=bf .nil false Tryz.call82 Tryz.func82 (λ_=> []) (V:=Pb) (λ_=>by kernel_rfl) λ⟨n,l⟩ hp=>by
  dsimp only[Hw]at hp
  dsimp only[Pb,tn,ar,aD,aI,aJ,aH]
  simp only[bn,eq_self,implies_true,Bool.cond_self]
  intro b hb
  refine⟨λh=>?_,λ_=>?_⟩
  · have:=hb h
    subst this
    exact⟨rfl,rfl,λi hi=>absurd hi (by omega)⟩
  · omega
structure QG where
  (n:Nat) (ln:Nat->Nat) (l:Nat->Nat->Int)
def QH:Sy.Spec:=⟨QG,λ⟨n,ln,l⟩=> [.sl true 1 n (λi _=> .sl true 1 (ln i) (iF (l i)))],λ_=> [],λ⟨n,ln,_⟩=>n<=1000/\ ∀i,i<n->ln i<=1000,λ⟨n,_,_⟩=> .aO 0 0 none 0 n,λ⟨n,ln,l⟩=> [.row 1 n λi _=> .il 1 (ln i) (iF (l i))],
  λargs mem=>match args with| [a0]=>some ⟨bX a0,λi=>bX (bN a0 i 0),λi k=>aw (bN (bN a0 i 0) k 0)⟩|_=>none⟩
def ab9:aT:=⟨[],(QH).g,none⟩
def QI:QG->Prop:=λ⟨n,ln,l⟩=>let a0:=(n:Int);let b0:=Int.toNat a0=n;let c0:=0=0/\n=n;a0<=9223372036854775807->(0<=a0/\a0<=a0/\((24:Nat):Int)*a0<=140737488355328)/\(a0<=9223372036854775807->(0=0/\b0)/\0=((0:Nat):Int)/\((b0/\(∀d0:Nat,d0<n->True/\0=jP ln 0 d0/\(∀e0:Nat,e0<jP ln 0 d0->True/\SV.aF=SV.v (Value.int IntKind.i64 (l d0 e0)))))/\True)/\0<=n/\(∀g0:Nat,let h0:=(g0:Int);let k0:=decide (h0<a0);let l0:=0<=h0/\h0<a0;let o0:=Int.toNat h0;let q0:=ln o0;let r0:Int:=h0+1;let u0:=0+o0;g0<=n->(k0=true->l0/\(((q0=q0/\(∀v0:Nat,v0<q0->True/\l o0 v0=l o0 v0))/\True)/\True/\ud.match_1 (λw0:m8=>Prop) (m8.mk q0 (l o0)) (λx0:Nat=>λy0:∀z0:Nat,Int=>x0<=100000))/\l0/\(∀a1:Nat,Nat.beq 1 1=true)/\ar r0=r0/\(∃b1:Nat,c0/\r0=(b1:Int)/\((n=n/\(∀c1:Nat,c1<n->True/\cond (Nat.beq c1 u0) q0 (jP ln g0 c1)=jP ln b1 c1/\(∀d1:Nat,d1<jP ln b1 c1->True/\cond (Nat.beq c1 u0) (l o0 d1) (l c1 d1)=l c1 d1)))/\True)/\b1<=n/\n-b1<n-g0))/\(k0=false->c0/\(n=n/\(∀e1:Nat,e1<n->True/\jP ln g0 e1=ln e1/\(∀g1:Nat,g1<ln e1->True/\l e1 g1=l e1 g1)))/\True)))
theorem aar:aU Tryz.prog aY 83 ab9:=bf (.cons NL .nil) false Tryz.call83 Tryz.func83 (λ⟨n,ln,l⟩=> [.inv (adO 3 11 n ln l)]) (V:=QI) (λ_=>by kernel_rfl) λ⟨n,ln,l⟩ hp=>by
  dsimp only[QH]at hp
  dsimp only[QI,tn,ar,aD,aI,aJ,aH]
  simp only[bn,bD,eq_self,implies_true,Bool.cond_self]
  refineλ_=>⟨by omega,λ_=>⟨λj hj=>⟨(yE (Nat.zero_le _)).symm,λk hk=>by rw[yE (Nat.zero_le _)]at hk;exact absurd hk (Nat.not_lt_zero _)⟩,λs hs=>⟨λh=>?_,λh=>?_⟩⟩⟩
  · have av:=fO h
    have:=hp.2 s av
    exact⟨by omega,by omega,by omega,λ_=>rfl,dA (by omega) (by omega),s+1,by omega,λj hj=>⟨O_,λk hk=>Bj (f:=λx=>l x k)⟩,by omega,by omega⟩
  · have dz:=ga h
    exactλj hj=>Bi (by omega)
structure QJ where
  (n:Nat) (ln:Nat->Nat) (l:Nat->Nat->dQ)
def QK:Sy.Spec:=⟨QJ,λ⟨n,ln,l⟩=> [.sl true 1 n (λi _=> .sl true 4 (ln i) (rF λk=>kF (l i k)))],λ_=> [],λ⟨n,ln,_⟩=>n<=1000/\ ∀i,i<n->ln i<=1000,λ⟨n,_,_⟩=> .aO 0 0 none 0 n,λ⟨n,ln,l⟩=> [.row 1 n λi _=> .il 4 (ln i) (rF λk=>kF (l i k))],
  λargs mem=>match args with| [a0]=>some ⟨bX a0,λi=>bX (bN a0 i 0),λi k=>uO (λj=>bN (bN a0 i 0) k j)⟩|_=>none⟩
def ab_:aT:=⟨[],(QK).g,none⟩
def QL:QJ->Prop:=λ⟨n,ln,l⟩=>let a0:=(n:Int);let b0:=Int.toNat a0=n;let c0:=0=0/\n=n;a0<=9223372036854775807->(0<=a0/\a0<=a0/\((24:Nat):Int)*a0<=140737488355328)/\(a0<=9223372036854775807->(0=0/\b0)/\0=((0:Nat):Int)/\((b0/\(∀d0:Nat,d0<n->True/\0=jP ln 0 d0/\(∀e0:Nat,let g0:=l d0 e0;e0<jP ln 0 d0->(((True/\SV.aF=SV.v (Value.int IntKind.i64 g0.sp))/\SV.aF=SV.v (Value.int IntKind.i64 g0.pg))/\SV.aF=SV.v (Value.int IntKind.i64 g0.fr))/\SV.aF=SV.v (Value.bool g0.wr))))/\True)/\0<=n/\(∀h0:Nat,let k0:=(h0:Int);let l0:=decide (k0<a0);let o0:=0<=k0/\k0<a0;let q0:=Int.toNat k0;let r0:=ln q0;let u0:Int:=k0+1;let v0:=0+q0;h0<=n->(l0=true->o0/\(((r0=r0/\(∀w0:Nat,w0<r0->aH (l q0 w0) (l q0 w0)))/\True)/\True/\Ht.match_1 (λx0:DY=>Prop) (DY.mk r0 (l q0)) (λy0:Nat=>λz0:∀a1:Nat,dQ=>y0<=100000))/\o0/\(∀b1:Nat,Nat.beq 4 4=true)/\ar u0=u0/\(∃c1:Nat,c0/\u0=(c1:Int)/\((n=n/\(∀d1:Nat,let e1:=Nat.beq d1 v0;d1<n->True/\cond e1 r0 (jP ln h0 d1)=jP ln c1 d1/\(∀g1:Nat,let J:=l q0 g1;let k1:=l d1 g1;g1<jP ln c1 d1->aH (dQ.mk (cond e1 J.sp k1.sp) (cond e1 J.pg k1.pg) (cond e1 J.fr k1.fr) (cond e1 J.wr k1.wr)) k1)))/\True)/\c1<=n/\n-c1<n-h0))/\(l0=false->c0/\(n=n/\(∀l1:Nat,l1<n->True/\jP ln h0 l1=ln l1/\(∀o1:Nat,o1<ln l1->aH (l l1 o1) (l l1 o1))))/\True)))
theorem aas:aU Tryz.prog aY 84 ab_:=bf (.cons YT .nil) false Tryz.call84 Tryz.func84 (λ⟨n,ln,l⟩=> [.inv (adP 3 11 n ln l)]) (V:=QL) (λ_=>by kernel_rfl) λ⟨n,ln,l⟩ hp=>by
  dsimp only[QK]at hp
  dsimp only[QL,tn,ar,aD,aI,aJ,aH]
  simp only[bn,bD,eq_self,implies_true,Bool.cond_self]
  refineλ_=>⟨by omega,λ_=>⟨λj hj=>⟨(yE (Nat.zero_le _)).symm,λk hk=>by rw[yE (Nat.zero_le _)]at hk;exact absurd hk (Nat.not_lt_zero _)⟩,λs hs=>⟨λh=>?_,λh=>?_⟩⟩⟩
  · have av:=fO h
    have:=hp.2 s av
    exact⟨by omega,by omega,by omega,λ_=>rfl,dA (by omega) (by omega),s+1,by omega,λj hj=>⟨O_,λk hk=>afA (f:=λx=>l x k) rfl⟩,by omega,by omega⟩
  · have dz:=ga h
    exactλj hj=>Bi (by omega)
structure ue where
  (W:Wd)
def AY:Sy.Spec:=⟨ue,λ⟨W⟩=> [ll W],λ_=> [],λ⟨W⟩=>Lg W,λ⟨W⟩=>zX 0 W,λ⟨W⟩=>wI W,
  λargs mem=>match args with| [a0]=>some ⟨nE a0⟩|_=>none⟩
def aat:aT:=⟨[],(AY).g,none⟩
def Pc:ue->Prop:=λ⟨W⟩=>let a0:=W.ay;let b0:=W.aj;let c0:=W.al;let d0:=W.aP;let e0:=W.aN;let g0:=W.aC;let h0:=W.aK;let k0:=W.aW;let l0:=W.aS;let o0:=W.aQ;tn 4 ((((a0=a0/\(∀q0:Nat,q0<a0->True/\W.af q0=W.af q0))/\True)/\True/\ud.match_1 (λr0:m8=>Prop) (m8.mk a0 W.af) (λu0:Nat=>λv0:∀w0:Nat,Int=>u0<=100000))/\tn 2 ((((b0=b0/\(∀x0:Nat,x0<b0->True/\W.kinds x0=W.kinds x0))/\True)/\True/\ud.match_1 (λy0:m8=>Prop) (m8.mk b0 W.kinds) (λz0:Nat=>λa1:∀b1:Nat,Int=>z0<=100000))/\tn 2 ((((c0=c0/\(∀c1:Nat,c1<c0->aJ (W.aa c1) (W.aa c1)))/\True)/\True/\Hv.match_1 (λd1:D0=>Prop) (D0.mk c0 W.aa) (λe1:Nat=>λg1:∀J:Nat,bK=>e1<=100000))/\tn 3 ((((d0=d0/\(∀k1:Nat,k1<d0->aI (W.tasks k1) (W.tasks k1)))/\True)/\True/\Hw.match_1 (λl1:D1=>Prop) (D1.mk d0 W.tasks) (λo1:Nat=>λq1:∀r1:Nat,aM=>o1<=100000))/\tn 6 ((((e0=e0/\(∀u1:Nat,u1<e0->True/\W.bits u1=W.bits u1))/\True)/\True/\ud.match_1 (λv1:m8=>Prop) (m8.mk e0 W.bits) (λw1:Nat=>λx1:∀y1:Nat,Int=>w1<=100000))/\tn 2 ((((g0=g0/\(∀z1:Nat,z1<g0->True/\W.ak z1=W.ak z1))/\True)/\True/\ud.match_1 (λa2:m8=>Prop) (m8.mk g0 W.ak) (λb2:Nat=>λc2:∀d2:Nat,Int=>b2<=100000))/\tn 3 ((((h0=h0/\(∀e2:Nat,e2<h0->True/\W.aB e2=W.aB e2))/\True)/\True/\ud.match_1 (λg2:m8=>Prop) (m8.mk h0 W.aB) (λh2:Nat=>λk2:∀l2:Nat,Int=>h2<=100000))/\tn 5 ((((k0=k0/\(∀o2:Nat,let q2:=W.ai o2;o2<k0->True/\q2=q2/\(∀r2:Nat,
    r2<q2->True/\W.lines o2 r2=W.lines o2 r2)))/\True)/\True/\k0<=1000/\(∀u2:Nat,u2<k0->W.ai u2<=1000))/\tn 3 ((((l0=l0/\(∀v2:Nat,let w2:=W.aq v2;v2<l0->True/\w2=w2/\(∀x2:Nat,x2<w2->True/\W.ready v2 x2=W.ready v2 x2)))/\True)/\True/\l0<=1000/\(∀y2:Nat,y2<l0->W.aq y2<=1000))/\tn 2 ((((o0=o0/\(∀z2:Nat,let a3:=W.aG z2;z2<o0->True/\a3=a3/\(∀b3:Nat,b3<a3->aH (W.aA z2 b3) (W.aA z2 b3))))/\True)/\True/\o0<=1000/\(∀c3:Nat,c3<o0->W.aG c3<=1000))/\True/\tn 10 True/\aD W W True))))))))))
theorem G0:aU Tryz.prog aY 49 aat:=bf (.cons NL (.cons Y0 (.cons Y1 (.cons aar (.cons aas .nil))))) false Tryz.call49 Tryz.func49 (λ_=> []) (V:=Pc) (λ_=>by kernel_rfl) λ⟨W⟩ hp=>by
  dsimp only[AY]at hp
  dsimp only[Pc,tn,ar,aD,aI,aJ,aH]
  simp only[bn,bD,eq_self,implies_true,Bool.cond_self]
  obtain⟨J,h2,h3,h4,h5,h6,h7,h8,h9,ib,fL,jM,lj⟩:=hp
  exact⟨by omega,by omega,by omega,by omega,by omega,by omega,by omega,⟨h5,fL⟩,⟨h8,jM⟩,h9,lj⟩
end Go.Proofs.YthgmgkabnffniaaGreatDoor
set_option linter.unusedVariables false
set_option linter.unusedSimpArgs false
set_option maxRecDepth 100000
namespace Go.Proofs.YthgmgkabnffniaaGreatDoor
open Go.RowKit Go.Sy
def sw (W:Wd) (f:Int) (i:Nat):Int:=bif Nat.blt i W.ay&&((W.kinds (i/16)==3||W.kinds (i/16)==4)&&(W.af i !=0)&&(W.af i%1024==f))then 0 else W.af i
def umW (W:Wd) (f:Int):Wd:={W with af:=sw W f,aG:=xR (nQ W.ay (sw W f)) W,aA:=mS (nQ W.ay (sw W f)) W}
end Go.Proofs.YthgmgkabnffniaaGreatDoor
set_option linter.unusedVariables false
set_option linter.unusedSimpArgs false
set_option maxRecDepth 100000
namespace Go.Proofs.YthgmgkabnffniaaGreatDoor
open Go.RowKit Go.Sy
end Go.Proofs.YthgmgkabnffniaaGreatDoor
set_option linter.unusedVariables false
set_option linter.unusedSimpArgs false
set_option maxRecDepth 100000
namespace Go.Proofs.YthgmgkabnffniaaGreatDoor
open Go.RowKit Go.Sy
end Go.Proofs.YthgmgkabnffniaaGreatDoor
set_option linter.unusedVariables false
set_option linter.unusedSimpArgs false
set_option maxRecDepth 100000
namespace Go.Proofs.YthgmgkabnffniaaGreatDoor
open Go.RowKit Go.Sy
structure JW (W:Wd):Prop where
  i:Inv 1000 W
  pg: ∀c,c<W.aQ-> ∀k,k<W.aG c->0<=(W.aA c k).pg/\(W.aA c k).pg<=255
  hp: ∀i,i<W.aP-> ∀f,f<W.aj->(W.tasks i).helper=f->W.kinds f=7
theorem JW.tl {W:Wd} (h:JW W):TlR W:=⟨h.i.z,h.i.af,h.i.tl,h.pg⟩
def qS (W:Wd):Nat:=bx W.al λi=>(W.aa i).kind !=0
def kz (W:Wd) (f:Int):Wd:={W with kinds:=ah W.kinds f.toNat 0}
def Gr (W:Wd) (f:Int):Wd:=umW (kz W f) f
def vj (f:Int) (x:aM):aM:={x with space:=bif x.space==f then -1 else x.space}
def vk (f:Int) (x:aM):aM:={x with node:=bif x.node==f then -1 else x.node}
def vh (k f:Int) (x:aM):aM:={x with helper:=bif k==7&&x.helper==f then -1 else x.helper}
def WO (W:Wd) (f:Int):Wd:={W with kinds:=ah W.kinds f.toNat 0,tasks:=λi=>vj f (W.tasks i),aG:=xR (C_ f) W,aA:=mS (C_ f) W}
def LN (W:Wd) (f:Int):Wd:={W with kinds:=ah W.kinds f.toNat 0,tasks:=λi=>vk f (W.tasks i)}
def tQ (D:Wd->Int->Wd) (W:Wd) (f:Int):Nat->Wd
  |0=>LN W f
  |i+1=>D (tQ D W f i) (f*16+(15 -i))
def Ae (S:Wd) (f:Int) (i:Nat):aM:=bif Nat.beq i f.toNat then aM.blank else bif decide (0<=(S.tasks f.toNat).aE)&&Nat.beq i (S.tasks f.toNat).aE.toNat then{S.tasks i with st:=0}else S.tasks i
def Gh (W:Wd) (f:Int):Wd:={bJ (kz W f) f with tasks:=Ae (bJ (kz W f) f) f}
def pd (W:Wd) (f:Int) (i:Nat):aM:=vh (W.kinds f.toNat) f (bif cF (W.ai f.toNat) (W.lines f.toNat) i then{W.tasks i with st:=0,loc:= -1}else W.tasks i)
def CW (W:Wd) (f:Int):Wd:={W with kinds:=ah W.kinds f.toNat 0,tasks:=pd W f,ai:=ah W.ai f.toNat 0,bits:=ah W.bits f.toNat 0}
def kV (D:Wd->Int->Wd) (W:Wd) (f:Int):Wd:=
  bif W.kinds f.toNat==2||W.kinds f.toNat==3 then Gr W f else bif W.kinds f.toNat==4 then WO W f else bif W.kinds f.toNat==5 then tQ D W f 16 else
  bif W.kinds f.toNat==6 then Gh W f else bif W.kinds f.toNat==7||W.kinds f.toNat==8 then CW W f else kz W f
def iE (W:Wd) (s:Int):Wd:={W with aa:=ah (λj=>cp s (W.aa s.toNat).from_ (W.aa j)) s.toNat f_}
def BH (W:Wd) (k:bK):Bool:=dY W.al λi=>(W.aa i).kind==k.kind&&(W.aa i).base==k.base
def wu (G:Wd->Int->Wd) (W:Wd) (s:Int):Wd:=
  bif iR W s==0 then(bif (W.aa s.toNat).kind==1||BH (iE W s) (W.aa s.toNat)then iE W s else G (iE W s) (W.aa s.toNat).base)else W
def CV:Nat->Wd->Int->Wd
  |0=>kV λW _=>W
  |n+1=>kV (wu (CV n))
theorem abg {D:Wd->Int->Wd} {W:Wd} {f:Int} (h:W.kinds f.toNat=2\/W.kinds f.toNat=3):kV D W f=Gr W f:=by unfold kV;rcases h with h|h<;>rw[h]<;>rfl
theorem abh {D:Wd->Int->Wd} {W:Wd} {f:Int} (h:W.kinds f.toNat=4):kV D W f=WO W f:=by unfold kV;rw[h];rfl
theorem abi {D:Wd->Int->Wd} {W:Wd} {f:Int} (h:W.kinds f.toNat=5):kV D W f=tQ D W f 16:=by unfold kV;rw[h];rfl
theorem abj {D:Wd->Int->Wd} {W:Wd} {f:Int} (h:W.kinds f.toNat=6):kV D W f=Gh W f:=by unfold kV;rw[h];rfl
theorem abk {D:Wd->Int->Wd} {W:Wd} {f:Int} (h:W.kinds f.toNat=7\/W.kinds f.toNat=8):kV D W f=CW W f:=by unfold kV;rcases h with h|h<;>rw[h]<;>rfl
theorem gq.sp {W:Wd} {x:aM} {f:Int} (h:gq W x):gq W (vj f x):=by
  refine⟨h.cN,h.pc,h.word,h.bL,h.st,h.prio,h.core,h.cL,h.node,?_,h.helper,h.loc,h.aE⟩
  unfold vj
  have:=h.space
  cases x.space==f
  · exact this
  · exact⟨Int.le_refl _,show(-1:Int)<_ by omega⟩
theorem gq.nd {W:Wd} {x:aM} {f:Int} (h:gq W x):gq W (vk f x):=by
  refine⟨h.cN,h.pc,h.word,h.bL,h.st,h.prio,h.core,h.cL,?_,h.space,h.helper,h.loc,h.aE⟩
  unfold vk
  have:=h.node
  cases x.node==f
  · exact this
  · exact⟨Int.le_refl _,show(-1:Int)<_ by omega⟩
theorem gq.hp {W:Wd} {x:aM} {k f:Int} (h:gq W x):gq W (vh k f x):=by
  refine⟨h.cN,h.pc,h.word,h.bL,h.st,h.prio,h.core,h.cL,h.node,h.space,?_,h.loc,h.aE⟩
  unfold vh
  have:=h.helper
  cases k==7&&x.helper==f
  · exact this
  · exact⟨Int.le_refl _,show(-1:Int)<_ by omega⟩
theorem gq.still {W:Wd} {x:aM} (h:gq W x):gq W {x with st:=0}:=⟨h.cN,h.pc,h.word,h.bL,⟨Int.le_refl 0,show(0:Int)<=6 by decide⟩,h.prio,h.core,h.cL,h.node,h.space,h.helper,h.loc,h.aE⟩
theorem gq.off {W:Wd} {x:aM} (h:gq W x):gq W {x with loc:= -1}:=⟨h.cN,h.pc,h.word,h.bL,h.st,h.prio,h.core,h.cL,h.node,h.space,h.helper,⟨Int.le_refl _,show(-1:Int)<_ by have:=h.loc;omega⟩,h.aE⟩
theorem gq.qZ {W:Wd} (h:bO W):gq W aM.blank:=by
  have:=h.c0
  have:=h.k0
  refine⟨by decide,by decide,by decide,by decide,by decide,by decide,?_,by decide,?_,?_,?_,?_,?_⟩<;>simp only[aM.blank]<;>omega
end Go.Proofs.YthgmgkabnffniaaGreatDoor
