/- Lines of a text, and numbers in them. -/
import Derived.Test.YthgmgkabnffniaaGreatDoorYO
import Derived.Test.YthgmgkabnffniaaGreatDoorYM
import Derived.Test.YthgmgkabnffniaaGreatDoorYN
set_option linter.unusedVariables false
set_option linter.unusedSimpArgs false
set_option linter.unusedVariables false
set_option linter.unusedSimpArgs false
set_option maxRecDepth 100000
namespace Go.Proofs.YthgmgkabnffniaaGreatDoor
open Go.RowKit Go.Sy
def j9 (s:ByteArray):Nat:=bif Nat.beq (dt s 10 (gO s 10 -1)).size 0 then gO s 10 -1 else gO s 10
def xS:ByteArray:={data:= #[45]}
def lC (s:ByteArray):Bool:=(s.toList==xS.toList)||decide (0<=bu s)
def iK (n:Nat) (f:Nat->ByteArray):Int:=bif dE n (λi=>lC (f i))then 0 else 1
def rB (n:Nat) (f:Nat->ByteArray):Nat:=bif dE n (λi=>lC (f i))then n else 0
def WT (f:Nat->Int):Nat->Nat->SV:=λi _=> .v (.int .i64 (f i))
def afD (f:Nat->ByteArray) (n:Nat):cG where
  σ:=Nat
  rt:= [(4,1)]
  sh i:= [(4,.aO 0 0 none 0 i),(5,.v (.int .i64 i))]
  mh i:= [(0,.row 1 i (WT λj=>bu (f j)))]
  inv i:=i<=n/\ ∀j,j<i->lC (f j)=true
  μ i:=n -i
  init:=0
structure D3 where
  (s:ByteArray)
def Hx:Sy.Spec:=⟨D3,λ⟨s⟩=> [.v (.string s)],λ_=> [],λ⟨s⟩=>s.size<=4000,λ⟨s⟩=> .aO 0 0 none 0 (j9 s),λ⟨s⟩=> [.row 1 (gO s 10) (sF (dt s 10))],
  λargs mem=>match args with| [a0]=>some ⟨wN (a0)⟩|_=>none⟩
def aay:aT:=⟨[],(Hx).g,none⟩
def Pe:D3->Prop:=λ⟨s⟩=>let a0:=gO s 10;let b0:=(a0:Int);let c0:=b0<=9223372036854775807;let d0:Int:=b0-1;let e0:=ar d0=d0;let g0:=0<=d0;let h0:=Int.toNat d0;let k0:=ByteArray.toList (dt s 10 (0+h0))==ByteArray.toList (ByteArray.mk (List.toArray List.nil));let l0:=(a0=a0/\(∀o0:Nat,o0<a0->True/\dt s 10 o0=dt s 10 o0))/\True;((s=s/\(10:Int)=10/\True)/\True/\EN.match_1 (λq0:yF=>Prop) (yF.mk s 10) (λr0:ByteArray=>λu0:Int=>ByteArray.size r0<=4000))/\(c0->e0/\(g0/\d0<b0)/\(k0=true->c0->e0/\((0:Int)<=0/\g0/\d0<=b0)/\(0=0/\h0-Int.toNat 0=j9 s)/\l0)/\(k0=false->(0=0/\a0=j9 s)/\l0))
set_option maxHeartbeats 1000000 in
theorem Y5:aU Tryz.prog aY 38 aay:=bf (.cons QP .nil) false Tryz.call38 Tryz.func38 (λ_=> []) (V:=Pe) (λ_=>by kernel_rfl) λ⟨s⟩ hp=>by
  dsimp only[Hx]at hp
  dsimp only[Pe,tn,ar]
  simp only[bn,bD,eq_self,implies_true,Bool.cond_self]
  have h:=Bk s 10 s.size
  have hc:gO s 10=df s 10 s.size+1:=rfl
  have hd:j9 s=bif Nat.beq (dt s 10 (gO s 10 -1)).size 0 then gO s 10 -1 else gO s 10:=rfl
  have e:((gO s 10:Int) -1).toNat=gO s 10 -1:=by omega
  rw[WU,e]
  refine⟨hp,λ_=>⟨cS (by omega) (by omega),by omega,λJ _=>⟨cS (by omega) (by omega),by omega,?_⟩,λJ=>?_⟩⟩
  · rw[hd,J];rfl
  · rw[hd,J];rfl
structure QR where
  (n:Nat) (f:Nat->ByteArray)
def QS:Sy.Spec:=⟨QR,λ⟨n,f⟩=> [.sl true 1 n (λi_ _=> .v (.string (f i_)))],λ_=> [],λ⟨n,f⟩=>n<=4000/\ ∀i,i<n->(f i).size<=4000,λ⟨n,f⟩=> .tp 2 (aL [.sl false 1 (rB n f) (WT λj=>bu (f j)),.v (.int .i64 (iK n f))]),λ_=> [],
  λargs mem=>match args with| [a0]=>some ⟨bX a0,λi=>wN (bN a0 i 0)⟩|_=>none⟩
def acd:aT:=⟨[],(QS).g,none⟩
def QT:QR->Prop:=λ⟨n,f⟩=>let a0:=(n:Int);let b0:=ByteArray.toList (ByteArray.mk (List.toArray [(45:UInt8)]));let c0:=rB n f;(0=0/\0=0)/\0=((0:Nat):Int)/\((0=0/\(∀d0:Nat,d0<0->True/\SV.aF=SV.v (Value.int IntKind.i64 (bu (f d0)))))/\True)/\(0<=n/\(∀e0:Nat,e0<0->lC (f e0)=true))/\(∀g0:Nat,let h0:=(g0:Int);let k0:=decide (h0<a0);let l0:=0<=h0/\h0<a0;let o0:=f (Int.toNat h0);let q0:=bu o0;let r0:=cond (ByteArray.toList o0 !=b0) (decide (q0<0)) false;let u0:Int:=h0+1;g0<=n/\(∀v0:Nat,v0<g0->lC (f v0)=true)->a0<=9223372036854775807->(k0=true->l0/\((o0=o0/\True)/\True/\IS.match_1 (λw0:EO=>Prop) (EO.mk o0) (λx0:ByteArray=>ByteArray.size x0<=4000))/\l0/\(r0=true->((True/\c0=0)/\1=iK n f)/\True)/\(r0=false->True/\((g0+1)*8<=140737488355328/\(∀y0:Nat,true=true))/\ar u0=u0/\(∃z0:Nat,(0=0/\g0+1=z0)/\u0=(z0:Int)/\((g0+1=z0/\(∀a1:Nat,a1<z0->True/\cond (Nat.blt a1 g0) (bu (f (0+a1))) (List.getD [q0] (0+(a1-g0)) 0)=bu (f a1)))/\True)/\(z0<=n/\(∀b1:Nat,b1<z0->lC (f b1)=true))/\n-z0<n-g0)))/\(k0=false->((True/\g0=c0/\(∀c1:Nat,c1<c0->True/\bu (f (0+c1))=bu (f c1)))/\0=iK n f)/\True))
set_option maxHeartbeats 1000000 in
theorem Pd:aU Tryz.prog aY 62 acd:=bf (.cons ace .nil) false Tryz.call62 Tryz.func62 (λ⟨n,f⟩=> [.inv (afD f n)]) (V:=QT) (λ_=>by kernel_rfl) λ⟨n,f⟩ hp=>by
  dsimp only[QS]at hp
  dsimp only[QT,tn,ar]
  simp only[bn,bD,eq_self,implies_true,Bool.cond_self]
  have WV:rB n f=bif dE n (λi=>lC (f i))then n else 0:=rfl
  have WW:iK n f=bif dE n (λi=>lC (f i))then 0 else 1:=rfl
  refineλi hi _=>⟨λJ=>?_,λJ=>?_⟩
  · have av:i<n:=by have:=of_decide_eq_true J;omega
    have hb:lC (f i)=!((f i).toList !=xS.toList&&decide (bu (f i)<0)):=by
      unfold lC
      show _=!(!((f i).toList==xS.toList)&&decide (bu (f i)<0))
      cases (f i).toList==xS.toList
      · show decide (0<=bu (f i))=!decide (bu (f i)<0)
        rcases Int.lt_or_le (bu (f i)) 0 with e|e
        · rw[decide_eq_true e,decide_eq_false (by omega)];rfl
        · rw[decide_eq_false (show¬bu (f i)<0 by omega),decide_eq_true e];rfl
      · rfl
    refine⟨by omega,hp.2 i av,by omega,λh2=>?_,λh2=>?_⟩
    · have hf:dE n (λi=>lC (f i))=false:=by
        cases q:dE n (λi=>lC (f i))with
        |false=>rfl
        |true=>have:=gG.1 q i av;rw[hb,show((f i).toList !=xS.toList&&decide (bu (f i)<0))=true from h2]at this;cases this
      rw[WV,WW,hf];exact⟨rfl,rfl⟩
    · rw[show((f i).toList !=xS.toList&&decide (bu (f i)<0))=false from h2]at hb
      refine⟨by omega,cS (by omega) (by omega),i+1,rfl,by omega,⟨rfl,λk hk=>?_⟩,⟨by omega,λk hk=>?_⟩,by omega⟩
      · rcases Nat.lt_or_ge k i with e|e
        · rw[pU e];rfl
        · rw[show k=i by omega,Da (Nat.le_refl _),Nat.sub_self];rfl
      · rcases Nat.lt_or_ge k i with e|e
        · exact hi.2 k e
        · rw[show k=i by omega];exact hb
  · obtain⟨a,b⟩:=hi
    obtain rfl:i=n:=by have:=of_decide_eq_false J;omega
    rw[WV,WW,gG.2 b];exact⟨rfl,rfl⟩
end Go.Proofs.YthgmgkabnffniaaGreatDoor
set_option linter.unusedVariables false
set_option linter.unusedSimpArgs false
set_option maxRecDepth 100000
namespace Go.Proofs.YthgmgkabnffniaaGreatDoor
open Go.RowKit Go.Sy
structure My where
  (bY ak:Int) (n:Nat) (aB:Nat->Int)
def Mz:Sy.Spec:=⟨My,λ⟨bY,ak,n,aB⟩=> [.v (.int .i64 bY),.v (.int .i64 ak),.sl true 1 n (λi_ _=> .v (.int .i64 (aB i_)))],λ_=> [],λ⟨bY,ak,n,aB⟩=>rS bY ak n aB=true,λ⟨bY,ak,n,aB⟩=> .tp 2 (aL [zX 0 (BE bY ak n aB),.ag 2 (aL [.v (.int .i64 0),.v (.int .i64 (-1))])]),λ⟨bY,ak,n,aB⟩=>wI (BE bY ak n aB),
  λargs mem=>match args with| [a0,a1,a2]=>some ⟨aw (a0),aw (a1),bX a2,λi=>aw (bN a2 i 0)⟩|_=>none⟩
def Xs:aT:=⟨[],(Mz).g,none⟩
def MA:My->Prop:=λ⟨bY,ak,n,aB⟩=>let a0:=(n:Int);let b0:=cond (cond (cond (cond (cond (decide (bY<1)) true (decide (24<bY))) true (decide (ak<1))) true (decide (4<ak))) true (decide (a0<1))) true (decide (8<a0));let c0:=True/\True;let d0:=True/\c0;let e0:=tn 8 d0;let g0:=(0:Int)=0;let h0:=True/\((((((((((True/\False)/\False)/\False)/\False)/\False)/\False)/\False)/\False)/\False)/\False)/\g0;let k0:=True/\(2:Int)=0;let l0:=((-1):Int)=(-1);let o0:=SV.ptr 0 0 none 0 0;let q0:=o0=o0;let r0:=SV.ptr 1 0 none 0 0;let u0:=r0=r0;let v0:=0=((0:Nat):Int);let w0:=Value.slice none 0 0=Value.slice none 0 0;let x0:=((((((((((True/\w0)/\w0)/\w0)/\w0)/\w0)/\w0)/\w0)/\w0)/\w0)/\w0)/\g0;let y0:=True/\g0;let z0:=y0/\g0;let a1:=x0/\z0/\True;let b1:Int:=bY*16;let c1:=ar b1=b1;let d1:=0<=bY/\bY<=bY/\((8:Nat):Int)*bY<=140737488355328;let e1:Int:=ak*4;let g1:=true=true;let J:=SV.ptr 2 0 none 0 0;let k1:=J=J;let l1:=0=0;let o1:=Int.toNat b1;let q1:=o1=o1;let r1:=l1/\q1;let u1:=Int.toNat bY;let v1:=u1=u1;let w1:=l1/\v1;let x1:=(True/\r1)/\w1;let y1:=0=0;let z1:=y1/\y1;let a2:=Int.toNat e1;let b2:=a2=a2;let c2:=l1/\b2;let d2:=Int.toNat ak;let e2:=d2=d2;let g2:=l1/\e2;let h2:=l1/\n=n;let k2:=q1/\(∀l2:Nat,l2<o1->y0);let o2:=v1/\(∀q2:Nat,q2<u1->y0);let r2:=SV.aF=SV.v (Value.int IntKind.i64 0);let u2:=True/\r2;let v2:=(u2/\r2)/\r2;let w2:=((v2/\r2)/\r2)/\r2;let x2:=SV.aF=SV.v (Value.int IntKind.i64 (-1));let y2:=True/\y1/\(∀z2:Nat,z2<0->c0);let a3:=v1/\(∀b3:Nat,b3<u1->y2);let c3:=(n=n/\(∀d3:Nat,d3<n->True/\aB d3=aB d3))/\True;
    let e3:=(b2/\(∀g3:Nat,g3<a2->y2))/\(e2/\(∀h3:Nat,h3<d2->True/\y1/\(∀k3:Nat,k3<0->((c0/\True)/\True)/\True)))/\c3;let l3:=a3/\o2/\e3;let o3:=bK.mk 0 0 0 0 0 0 (-1);let q3:=aJ o3 o3;let r3:=x1/\r1;let u3:=aM.mk 0 0 0 0 0 0 0 0 0 0 0 (-1) (-1) (-1) (-1) 0 0 (-1) 0 0;let v3:=aI u3 u3;let w3:=((r3/\w1)/\w1)/\w1;let x3:=True/\y1/\(∀y3:Nat,y3<0->u2);tn 2 ((b0=true->(((2:Int)=2/\True)/\c0)/\e0/\c0/\(h0/\k0/\l0)/\False)/\(b0=false->q0/\u0/\v0/\a1/\(0<=n/\(∀z3:Nat,z3<0->az (aB z3) 3=false))/\(∀a4:Nat,let b4:=(a4:Int);let c4:=decide (b4<a0);let d4:Int:=aB (Int.toNat b4);let e4:=az d4 3;let g4:Int:=b4+1;a4<=n/\(∀h4:Nat,h4<a4->az (aB h4) 3=false)->a0<=9223372036854775807->(c4=true->(0<=b4/\b4<a0)/\((d4=d4/\(3:Int)=3/\True)/\c0)/\(e4=true->e0/\c0/\(h0/\k0/\b4=(-1))/\False)/\(e4=false->ar g4=g4/\(∃k4:Nat,q0/\u0/\g4=(k4:Int)/\a1/\(k4<=n/\(∀l4:Nat,l4<k4->az (aB l4) 3=false))/\n-k4<n-a4)))/\(c4=false->True/\c1/\(0<=b1/\b1<=b1/\((8:Nat):Int)*b1<=140737488355328)/\True/\d1/\True/\d1/\True/\(0<=bY/\bY<=bY/\((24:Nat):Int)*bY<=140737488355328)/\True/\ar e1=e1/\(0<=e1/\e1<=e1/\((24:Nat):Int)*e1<=140737488355328)/\True/\(0<=ak/\ak<=ak/\((24:Nat):Int)*ak<=140737488355328)/\tn 2 ((n*8<=140737488355328/\(∀o4:Nat,g1))/\tn 2 (e0/\q0/\u0/\k1/\v0/\(x0/\z0/\(((((((((x1/\z1)/\w0)/\w1)/\w1)/\w0)/\c2)/\g2)/\h2)/\g0)/\k2/\o2/\(y1/\(∀q4:Nat,q4<0->w2/\x2))/\l3)/\0<=o1/\(∀r4:Nat,let u4:=decide ((r4:Int)<b1);let v4:Int:=(r4:Int)+1;let w4:=r4=r4/\(∀x4:Nat,x4<r4->q3);r4<=o1->c1/\(u4=true->True/\((r4+1)*56<=140737488355328/\(∀y4:Nat,g1))/\True/\ar v4=v4/\(∃z4:Nat,q0/\u0/\k1/\v4=(z4:Int)/\(x0/\z0/\(((((((((x1/\l1/\
    r4+1=z4)/\w0)/\w1)/\w1)/\w0)/\c2)/\g2)/\h2)/\g0)/\k2/\o2/\(r4+1=z4/\(∀a5:Nat,let b5:Int:=cond (Nat.blt a5 r4) 0 0;a5<z4->aJ (bK.mk b5 b5 b5 b5 b5 b5 (cond (Nat.blt a5 r4) (-1) (-1))) o3))/\l3)/\z4<=o1/\o1-z4<o1-r4))/\(u4=false->q0/\u0/\k1/\v0/\(x0/\z0/\(((((((((x1/\l1/\r4=o1)/\z1)/\w1)/\w1)/\w0)/\c2)/\g2)/\h2)/\g0)/\k2/\o2/\w4/\(y1/\(∀c5:Nat,c5<0->(((((((((((((w2/\r2)/\r2)/\r2)/\r2)/\r2)/\x2)/\x2)/\x2)/\x2)/\r2)/\r2)/\x2)/\r2)/\r2))/\l3)/\0<=u1/\(∀d5:Nat,let e5:=decide ((d5:Int)<bY);let g5:Int:=(d5:Int)+1;let h5:=d5=d5/\(∀k5:Nat,k5<d5->v3);d5<=u1->(e5=true->tn 2 (d0/\True/\((d5+1)*160<=140737488355328/\(∀l5:Nat,g1))/\True/\ar g5=g5/\(∃o5:Nat,q0/\u0/\k1/\g5=(o5:Int)/\(x0/\z0/\((((((((r3/\l1/\d5+1=o5)/\w1)/\w1)/\w0)/\c2)/\g2)/\h2)/\g0)/\k2/\o2/\w4/\(d5+1=o5/\(∀q5:Nat,let r5:Int:=cond (Nat.blt q5 d5) 0 0;let u5:Int:=cond (Nat.blt q5 d5) (-1) (-1);q5<o5->aI (aM.mk r5 r5 r5 r5 r5 r5 r5 r5 r5 r5 r5 u5 u5 u5 u5 r5 r5 u5 r5 r5) u3))/\l3)/\o5<=u1/\u1-o5<u1-d5)))/\(e5=false->q0/\u0/\k1/\v0/\(x0/\z0/\((((((((r3/\l1/\d5=u1)/\w1)/\w1)/\z1)/\c2)/\g2)/\h2)/\g0)/\k2/\o2/\w4/\h5/\a3/\o2/\(y1/\(∀v5:Nat,v5<0->True/\x2))/\e3)/\0<=d2/\(∀w5:Nat,let x5:=decide ((w5:Int)<ak);let y5:Int:=(w5:Int)+1;w5<=d2->(x5=true->True/\((w5+1)*8<=140737488355328/\(∀z5:Nat,g1))/\True/\ar y5=y5/\(∃a6:Nat,q0/\u0/\k1/\y5=(a6:Int)/\(x0/\z0/\(((((w3/\l1/\w5+1=a6)/\c2)/\g2)/\h2)/\g0)/\k2/\o2/\w4/\h5/\a3/\o2/\(w5+1=a6/\(∀b6:Nat,b6<a6->True/\cond (Nat.blt b6 w5) (-1) (List.getD [((-1):Int)] (0+(b6-w5)) 0)=(-1)))/\e3)/\a6<=d2/\d2-a6<d2-w5))/\(x5=false->True/\d0/\e0/\c0/\((True/\((((w3/\l1/\w5=d2)/\c2)/\g2)/\h2)/\g0)/\y0/\l0)/\k2/\o2/\(r4=o1/\(∀c6:Nat,c6<o1->q3))/\(d5=u1/\(∀d6:Nat,d6<u1->
    v3))/\(v1/\(∀e6:Nat,e6<u1->x3))/\o2/\(w5=d2/\(∀g6:Nat,g6<d2->True/\l0))/\(b2/\(∀h6:Nat,h6<a2->x3))/\(e2/\(∀k6:Nat,k6<d2->True/\y1/\(∀l6:Nat,l6<0->v2/\SV.aF=SV.v (Value.bool false))))/\c3))))))))))))
set_option maxHeartbeats 1000000 in
theorem Mi:aU Tryz.prog aY 63 Xs:=bf (.cons RW (.cons PW (.cons Bh (.cons ZG .nil)))) false Tryz.call63 Tryz.func63 (λ⟨bY,ak,n,aB⟩=> [.inv (ad0 n aB),.inv (ad1 bY ak n),.inv (ad2 bY ak n),.inv (ad3 bY ak n)]) (V:=MA) (λ_=>by kernel_rfl) λ⟨bY,ak,n,aB⟩ hp=>by
  dsimp only[Mz]at hp
  dsimp only[MA,tn,ar,aD,aI,aJ,aH]
  simp only[bn,eq_self,implies_true,Bool.cond_self]
  have Gk:rS bY ak n aB=true:=hp
  unfold rS at Gk
  rw[Bool.and_eq_true,Bool.not_eq_true']at Gk
  obtain⟨hB,hL⟩:=Gk
  have hr:1<=bY/\bY<=24/\1<=ak/\ak<=4/\1<=n/\n<=8:=by
    simp[yN]at hB;omega
  have hL:=Nat.le_of_ble_eq_true hL
  have hA: ∀i,i<n->az (aB i) 3=false:=λi hi=>by
    cases e:az (aB i) 3 with
    |false=>rfl
    |true=>have:=uh (p:=λi=>az (aB i) 3) hi e;unfold E5 at hL;omega
  clear hB hp
  obtain⟨r1,r2,r3,r4,r5,r6⟩:=hr
  refine⟨λh=>?_,λh=>?_⟩
  · revert h
    rw[decide_eq_false (show¬bY<1 by omega),decide_eq_false (show¬24<bY by omega),decide_eq_false (show¬ak<1 by omega),decide_eq_false (show¬4<ak by omega),decide_eq_false (show¬(n:Int)<1 by omega),decide_eq_false (show¬8<(n:Int) by omega)]
    intro h;cases h
  have wr: ∀x:Int,0<=x->x<=100000->IntKind.i64.wrap x=x:=λx J h2=>by rw[IntKind.wrap_i64];omega
  intro s hs _
  refine⟨λJ=>?_,λJ=>?_⟩
  · have av:=fO J
    refine⟨by omega,λh2=>?_,λh2=>⟨wr _ (by omega) (by omega),s+1,by omega,⟨by omega,λj hj=>hA j (by omega)⟩,by omega⟩⟩
    rw[hA s (by omega)]at h2;cases h2
  refine⟨wr _ (by omega) (by omega),by omega,by omega,by omega,by omega,wr _ (by omega) (by omega),by omega,by omega,by omega,λs1 i1=>⟨wr _ (by omega) (by omega),λh=>?_,λh=>?_⟩⟩
  · have av:(s1:Int)<bY*16:=by simpa using h
    exact⟨by omega,wr _ (by omega) (by omega),s1+1,by omega,rfl,by omega,by omega⟩
  have dz: ¬(s1:Int)<bY*16:=by simpa using h
  refine⟨by omega,λs2 i2=>⟨λh=>?_,λh=>?_⟩⟩
  · have av:(s2:Int)<bY:=by simpa using h
    exact⟨by omega,wr _ (by omega) (by omega),s2+1,by omega,rfl,by omega,by omega⟩
  have dz: ¬(s2:Int)<bY:=by simpa using h
  refine⟨by omega,λs3 i3=>⟨λh=>?_,λh=>?_⟩⟩
  · have av:(s3:Int)<ak:=by simpa using h
    refine⟨by omega,wr _ (by omega) (by omega),s3+1,by omega,⟨rfl,rfl,λi hi=>?_⟩,by omega,by omega⟩
    rcases Nat.lt_or_ge i s3 with h4|h4
    · rw[oL,decide_eq_true h4];rfl
    · obtain rfl:i=s3:=by omega
      rw[oL];simp
  have dz: ¬(s3:Int)<ak:=by simpa using h
  omega
end Go.Proofs.YthgmgkabnffniaaGreatDoor
set_option linter.unusedVariables false
set_option linter.unusedSimpArgs false
set_option maxRecDepth 100000
namespace Go.Proofs.YthgmgkabnffniaaGreatDoor
open Go.RowKit Go.Sy
def tO (f:Nat->ByteArray) (i:Nat):Int:=bu (f (i+2))
def Ge (n:Nat) (f:Nat->ByteArray):Prop:=n<=4000/\(∀i,i<n->(f i).size<=4000)/\iK n f=0/\3<=n/\rS (bu (f 0)) (bu (f 1)) (n -2) (tO f)=true
def lr (n:Nat) (f:Nat->ByteArray):Wd:={BE (bu (f 0)) (bu (f 1)) (n -2) (tO f)with
  kinds:=λi=>bif Nat.beq i 0 then 5 else 0,aa:=λi=>bif Nat.beq i 0 then⟨5,0,1,0,7,0,-1⟩else yM}
structure Mv where
  (n:Nat) (f:Nat->ByteArray)
def Mw:Sy.Spec:=⟨Mv,λ⟨n,f⟩=> [.sl true 1 n (λi_ _=> .v (.string (f i_)))],λ_=> [],λ⟨n,f⟩=>Ge n f,λ⟨n,f⟩=> .tp 2 (aL [zX 0 (lr n f),.v (.int .i64 0)]),λ⟨n,f⟩=>wI (lr n f),
  λargs mem=>match args with| [a0]=>some ⟨bX a0,λi=>wN (bN a0 i 0)⟩|_=>none⟩
def Xr:aT:=⟨[],(Mw).g,none⟩
def Mx:Mv->Prop:=λ⟨n,f⟩=>let a0:=iK n f !=0;let b0:=tn 10 True;let c0:=(0:Int)=0;let d0:=True/\((((((((((True/\False)/\False)/\False)/\False)/\False)/\False)/\False)/\False)/\False)/\False)/\c0;let e0:=((rB n f:Nat):Int);let g0:=decide (e0<3);let h0:=(0:Int)<=0;let k0:=bu (f (Int.toNat 0));let l0:=bu (f (Int.toNat 1));let o0:=Int.toNat 2;let q0:=Int.toNat e0-o0;let r0:=Int.toNat k0;let u0:=false=false;let v0:=Int.toNat (k0*16);let w0:=Int.toNat (bu (f 0)*16);let x0:=v0=w0;let y0:=0=0/\x0;let z0:=Int.toNat (bu (f 0));let a1:=r0=z0;let b1:=0=0/\a1;let c1:=Int.toNat (bu (f 1));let d1:=Int.toNat l0=c1;let e1:=0=0/\d1;let g1:=Int.toNat (bu (f 1)*4);let J:=Int.toNat (l0*4)=g1;let k1:=q0=n-2;let l1:=True/\c0;let o1:=aM.mk 0 0 0 0 0 0 0 0 0 0 0 (-1) (-1) (-1) (-1) 0 0 (-1) 0 0;let q1:=True/\0=0/\(∀r1:Nat,r1<0->l1);let u1:=dQ.mk 0 0 0 false;True/\(((n=n/\(∀v1:Nat,v1<n->True/\f v1=f v1))/\True)/\True/\n<=4000/\(∀w1:Nat,w1<n->ByteArray.size (f w1)<=4000))/\(a0=true->b0/\(d0/\iK n f=0)/\False)/\(a0=false->e0<=9223372036854775807->(g0=true->b0/\(d0/\(10:Int)=0)/\False)/\(g0=false->True/\(h0/\0<e0)/\tn 2 (((0:Int)<=1/\1<e0)/\tn 2 (((0:Int)<=2/\2<=e0/\e0<=e0)/\((k0=k0/\l0=l0/\(q0=q0/\(∀x1:Nat,x1<q0->True/\bu (f (o0+x1))=bu (f (o0+x1))))/\True)/\True/\rS k0 l0 q0 (λy1:Nat=>bu (f (o0+y1)))=true)/\tn 5 (b0/\(True/\True)/\(((0:Int) !=0)=true->tn 3 ((d0/\c0)/\False))/\(((0:Int) !=0)=false->(h0/\0<(r0:Int))/\(∀z1:Nat,u0)/\(h0/\0<(v0:Int))/\((∀a2:Nat,u0)/\(∀b2:Nat,u0)/\(∀c2:Nat,u0)/\(∀d2:Nat,u0)/\(∀e2:Nat,u0)/\(∀g2:Nat,u0)/\(∀h2:Nat,u0))/\b0/\((True/\((((((((((True/\y0)/\b1)/\y0)/\b1)/\b1)/\
    b1)/\e1)/\0=0/\J)/\e1)/\0=0/\k1)/\c0)/\c0)/\(x0/\(∀k2:Nat,k2<w0->l1))/\(a1/\(∀l2:Nat,l2<z0->True/\(cond (Nat.beq l2 0) 5 0:Int)=cond (Nat.beq l2 0) 5 0))/\(x0/\(∀o2:Nat,let q2:=Nat.beq o2 0;let r2:Int:=cond q2 0 0;o2<w0->aJ (bK.mk (cond q2 5 0) r2 (cond q2 1 0) r2 (cond q2 7 0) r2 (cond q2 (-1) (-1))) (cond (Nat.beq o2 0) (bK.mk 5 0 1 0 7 0 (-1)) (bK.mk 0 0 0 0 0 0 (-1)))))/\(a1/\(∀u2:Nat,u2<z0->aI o1 o1))/\(a1/\(∀v2:Nat,v2<z0->q1))/\(a1/\(∀w2:Nat,w2<z0->l1))/\(d1/\(∀x2:Nat,x2<c1->True/\((-1):Int)=(-1)))/\(J/\(∀y2:Nat,y2<g1->q1))/\(d1/\(∀z2:Nat,z2<c1->True/\0=0/\(∀a3:Nat,a3<0->aH u1 u1)))/\(k1/\(∀b3:Nat,b3<n-2->True/\bu (f (o0+b3))=tO f b3))/\True))))))
set_option maxHeartbeats 1000000 in
theorem Xa:aU Tryz.prog aY 40 Xr:=bf (.cons Pd (.cons Mi .nil)) false Tryz.call40 Tryz.func40 (λ_=> []) (V:=Mx) (λ_=>by kernel_rfl) λ⟨n,f⟩ hp=>by
  dsimp only[Mw]at hp
  dsimp only[Mx,tn,ar,aD,aI,aJ,aH]
  simp only[bn,bD,eq_self,implies_true,Bool.cond_self]
  obtain⟨J,h2,h3,h4,h5⟩:=hp
  have hN:rB n f=n:=by
    unfold iK at h3;unfold rB
    cases q:dE n (λi=>lC (f i))with
    |true=>rfl
    |false=>rw[q]at h3;cases h3
  have e0:f (Int.toNat 0)=f 0:=rfl
  have e1:f (Int.toNat 1)=f 1:=rfl
  have e2:(λy=>bu (f (Int.toNat 2+y)))=tO f:=by
    funext y;show bu (f (2+y))=bu (f (y+2));rw[Nat.add_comm]
  have hr:1<=bu (f 0):=by
    unfold rS yN at h5
    rw[Bool.and_eq_true,Bool.not_eq_true']at h5
    have:=h5.1
    simp only[Bool.or_eq_false_iff,decide_eq_false_iff_not]at this
    omega
  simp only[e0,e1,hN]
  refine⟨⟨J,h2⟩,λh=>?_,λ_ _=>⟨λh=>?_,λ_=>⟨by omega,by omega,by omega,?_,λh=>(by cases h),λ_=>⟨by omega,by omega,?_⟩⟩⟩⟩
  · rw[h3]at h;cases h
  · have:=of_decide_eq_true h;omega
  · rw[e2];exact h5
  · refine⟨?_,by first|exact trivial|rfl,by first|exact trivial|rfl,⟨by first|exact trivial|rfl,λi _=>?_⟩,by first|exact trivial|rfl,by first|exact trivial|rfl,by first|exact trivial|rfl,by first|exact trivial|rfl,by first|exact trivial|rfl,by first|exact trivial|rfl,by first|exact trivial|rfl,λk _=>?_⟩
    · repeat' (first|exact trivial|rfl|refine And.intro ?_ ?_)
    · cases i.beq 0<;>exact⟨⟨⟨⟨⟨⟨rfl,rfl⟩,rfl⟩,rfl⟩,rfl⟩,rfl⟩,rfl⟩
    · show bu (f (2+k))=bu (f (k+2));rw[Nat.add_comm]
end Go.Proofs.YthgmgkabnffniaaGreatDoor
set_option linter.unusedVariables false
set_option linter.unusedSimpArgs false
set_option maxRecDepth 100000
namespace Go.Proofs.YthgmgkabnffniaaGreatDoor
open Go.RowKit Go.Sy
def gR (W:Wd) (f k:Int):Int:=bif decide (f<0)||decide ((W.aj:Int)<=f)then 2 else bif W.kinds f.toNat !=k then 3 else 0
def xL (W:Wd) (f k:Int):Int:=bif f== -1 then 0 else gR W f k
def LJ (i:Nat):Int:= [0,5,4,7].getD i 0
def dZ (W:Wd) (l:Nat->Int):Nat->Int
  |0=>gR W (l 0) 6
  |i+1=>bif dZ W l i==0 then xL W (l (i+1)) (LJ (i+1))else dZ W l i
def fM (W:Wd) (l:Nat->Int):Int:=bif dZ W l 3==0 then bif decide (l 4<0)||decide ((W.aC:Int)<=l 4)||az (l 5) 3||az (l 6) 3 then 2 else bif (W.tasks (l 0).toNat).st==0 then 0 else 7 else dZ W l 3
def afG (W:Wd) (l:Nat->Int):cG where
  σ:=Nat
  rt:= []
  sh i:= [(0,de 0),(5,.v (.int .i64 (dZ W l i))),(6,.v (.int .i64 (i+1)))]
  mh _:= []
  inv i:=i<=3
  μ i:=3 -i
  init:=0
def Aa (W:Wd) (l:Nat->Int):Nat->aM:=ah W.tasks (l 0).toNat {W.tasks (l 0).toNat with node:=l 1,space:=l 2,helper:=l 3,core:=l 4,prio:=l 5,cL:=l 6}
theorem Jf {W:Wd} {l:Nat->Int}: ∀{i},dZ W l i=0->gR W (l 0) 6=0
  |0,h=>h
  |i+1,h=>by
   cases q:dZ W l i==0 with
   |true=>exact Jf (eq_of_beq q)
   |false=>rw[dZ,q]at h;rw[show dZ W l i=0 from h]at q;cases q
theorem Uy {W:Wd} {l:Nat->Int} {i:Nat} (h:(dZ W l i==0)=false): ∀{d},dZ W l (i+d)=dZ W l i
  |0=>rfl
  |d+1=>by
   rw[<-Nat.add_assoc,dZ,Uy h,h];rfl
theorem wU {W:Wd} {f k:Int} (h:gR W f k=0):0<=f/\f<W.aj/\W.kinds f.toNat=k:=by
  unfold gR at h
  cases J:(decide (f<0)||decide ((W.aj:Int)<=f))with
  |true=>rw[J]at h;exact absurd (show(2:Int)=0 from h) (by decide)
  |false=>
   cases h2:W.kinds f.toNat !=k with
   |true=>rw[J,h2]at h;exact absurd (show(3:Int)=0 from h) (by decide)
   |false=>
    simp only[Bool.or_eq_false_iff,decide_eq_false_iff_not,bne_eq_false_iff_eq]at J h2
    omega
def oc (W:Wd) (l:Nat->Int) (i:Nat):aM:=bif fM W l==0 then({W with tasks:=Aa W l}).tasks i else(W).tasks i
def rp (W:Wd) (l:Nat->Int):Wd:={W with tasks:=oc W l}
theorem E6 {W:Wd} {l:Nat->Int} (h:(fM W l==0)=true):rp W l={W with tasks:=Aa W l}:=by
  have bP:oc W l=({W with tasks:=Aa W l}).tasks:=by
    funext i
    unfold oc
    rw[h]
    rfl
  show({W with tasks:=oc W l}:Wd)=_
  rw[bP]<;>kernel_rfl
theorem yQ {W:Wd} {l:Nat->Int} (h:(fM W l==0)=false):rp W l=W:=by
  have bP:oc W l=(W).tasks:=by
    funext i
    unfold oc
    rw[h]
    rfl
  show({W with tasks:=oc W l}:Wd)=_
  rw[bP]<;>kernel_rfl
structure rC where
  (W:Wd) (f k:Int)
def xX:Sy.Spec:=⟨rC,λ⟨W,f,k⟩=> [dV W,.v (.int .i64 f),.v (.int .i64 k)],λ_=> [],λ⟨W,_,_⟩=>bO W,λ⟨W,f,k⟩=> .v (.int .i64 (gR W f k)),λ_=> [],
  λargs mem=>match args with| [a0,a1,a2]=>some ⟨dR a0,aw (a1),aw (a2)⟩|_=>none⟩
def XW:aT:=⟨[],(xX).g,none⟩
def MS:rC->Prop:=λ⟨W,f,k⟩=>let a0:=cond (decide (f<0)) true (decide (((W.aj:Nat):Int)<=f));let b0:=gR W f k;let c0:=W.kinds (Int.toNat f) !=k;(a0=true->2=b0/\True)/\(a0=false->(0<=f/\f<((W.aj:Nat):Int))/\(c0=true->3=b0/\True)/\(c0=false->0=b0/\True))
theorem Gx:aU Tryz.prog aY 99 XW:=bf .nil false Tryz.call99 Tryz.func99 (λ_=> []) (V:=MS) (λ_=>by kernel_rfl) λ⟨W,f,k⟩ hp=>by
  dsimp only[xX]at hp
  dsimp only[MS,tn,ar,aD,aI,aJ,aH]
  simp only[bn,bD,eq_self,implies_true,Bool.cond_self]
  try simp only[eP]
  unfold gR
  refine⟨λh=>by rw[h];rfl,λh=>?_⟩
  simp only[h,cond_false]
  simp only[Bool.or_eq_false_iff,decide_eq_false_iff_not]at h
  refine⟨by omega,λh2=>by rw[h2];rfl,λh2=>by rw[h2];rfl⟩
structure Pf where
  (n:Nat) (l:Nat->Int) (W:Wd)
def Pg:Sy.Spec:=⟨Pf,λ⟨n,l,_⟩=> [.ptr 0 0 none 0 0,.sl true 1 n (λi_ _=> .v (.int .i64 (l i_)))],λ⟨_,_,W⟩=>cP W,λ⟨n,_,W⟩=>bO W/\n=7,λ⟨_,l,W⟩=> .v (.int .i64 (fM W l)),λ⟨_,l,W⟩=>cP (rp W l),
  λargs mem=>match args with| [a0,a1]=>some ⟨bX a1,λi=>aw (bN a1 i 0),iG mem 0⟩|_=>none⟩
def aaz:aT:=⟨[true],(Pg).g,none⟩
def Ph:Pf->Prop:=λ⟨n,l,W⟩=>let a0:=(n:Int);let b0:=(0:Int)<=0/\0<a0;let c0:=W.ay;let d0:=W.aj;let e0:=W.al;let g0:=W.aP;let h0:=W.aW;let k0:=W.aN;let l0:=W.aC;let o0:=W.aS;let q0:=W.aQ;let u0:=W.aK;let v0:=((((((((((True/\c0=c0/\(∀w0:Nat,w0<c0->True/\W.af (0+w0)=W.af (0+w0)))/\d0=d0/\(∀x0:Nat,let y0:=W.kinds (0+x0);x0<d0->True/\y0=y0))/\e0=e0/\(∀z0:Nat,let a1:=W.aa (0+z0);z0<e0->aJ a1 a1))/\g0=g0/\(∀b1:Nat,let c1:=W.tasks (0+b1);b1<g0->aI c1 c1))/\h0=h0/\(∀d1:Nat,let e1:=W.ai (0+d1);d1<h0->True/\e1=e1/\(∀g1:Nat,let J:=W.lines (0+d1) (0+g1);g1<e1->True/\J=J)))/\k0=k0/\(∀k1:Nat,k1<k0->True/\W.bits (0+k1)=W.bits (0+k1)))/\l0=l0/\(∀l1:Nat,let o1:=W.ak (0+l1);l1<l0->True/\o1=o1))/\o0=o0/\(∀q1:Nat,let u1:=W.aq (0+q1);q1<o0->True/\u1=u1/\(∀v1:Nat,let w1:=W.ready (0+q1) (0+v1);v1<u1->True/\w1=w1)))/\q0=q0/\(∀x1:Nat,let y1:=W.aG (0+x1);x1<q0->True/\y1=y1/\(∀z1:Nat,let a2:=W.aA (0+x1) (0+z1);z1<y1->aH a2 a2)))/\u0=u0/\(∀b2:Nat,b2<u0->True/\W.aB (0+b2)=W.aB (0+b2)))/\W.time=W.time;let c2:Int:=l (Int.toNat 0);let d2:=Wd.mk c0 (λe2:Nat=>W.af (0+e2)) d0 (λg2:Nat=>W.kinds (0+g2)) e0 (λh2:Nat=>W.aa (0+h2)) g0 (λk2:Nat=>W.tasks (0+k2)) h0 (λl2:Nat=>W.ai (0+l2)) (λo2:Nat=>λq2:Nat=>W.lines (0+o2) (0+q2)) k0 (λu2:Nat=>W.bits (0+u2)) l0 (λv2:Nat=>W.ak (0+v2)) o0 (λw2:Nat=>W.aq (0+w2)) (λx2:Nat=>λy2:Nat=>W.ready (0+x2) (0+y2)) q0 (λz2:Nat=>W.aG (0+z2)) (λa3:Nat=>λb3:Nat=>W.aA (0+a3) (0+b3)) u0 (λc3:Nat=>W.aB (0+c3)) W.time;
    let d3:=SV.ptr 0 0 none 0 0;let e3:=d3=d3;let g3:=aD W W True;let h3:=[(0:Int),5,4,7];let k3:=fM W l;let l3:={W with tasks:=oc W l};let o3:=aD W l3 True;let q3:=(0:Int)<=4/\4<a0;let u3:Int:=l (Int.toNat 4);let v3:=decide (u3<0);let w3:=cond v3 true (decide ((l0:Int)<=u3));let x3:=w3=false;let y3:=(0:Int)<=5/\5<a0;let z3:Int:=l (Int.toNat 5);let a4:=(3:Int)=3/\True;let b4:=cond w3 true (az z3 3);let c4:=b4=false;let d4:=(0:Int)<=6/\6<a0;let e4:Int:=l (Int.toNat 6);let g4:=cond b4 true (az e4 3);let h4:=0<=c2/\c2<(g0:Int);let k4:=0+Int.toNat c2;let l4:=(W.tasks k4).st !=0;let o4:=false=false;b0/\((v0/\c2=c2/\(6:Int)=6/\True)/\True/\xX.match_1 (λq4:rC=>Prop) (rC.mk d2 c2 6) (λu4:Wd=>λv4:Int=>λw4:Int=>bO u4))/\e3/\gR d2 c2 6=dZ W l 0/\1=((0:Nat):Int)+1/\g3/\0<=3/\(∀x4:Nat,let y4:Int:=(x4:Int)+1;let z4:=dZ W l x4;let a5:=cond (decide (y4<4)) (z4==0) false;let b5:=0<=y4;let c5:=b5/\y4<a0;let d5:=Int.toNat y4;let e5:Int:=l d5;let g5:=e5 !=(-1);let h5:=List.getD h3 (0+d5) 0;let k5:Int:=y4+1;let l5:=ar k5=k5;let o5:=z4 !=0;x4<=3->(a5=true->c5/\(g5=true->tn 3 (c5/\tn 3 ((b5/\y4<((4:Nat):Int))/\True/\((v0/\e5=e5/\h5=h5/\True)/\True/\xX.match_1 (λq5:rC=>Prop) (rC.mk d2 e5 h5) (λu5:Wd=>λv5:Int=>λw5:Int=>bO u5))/\l5/\(∃x5:Nat,e3/\gR d2 e5 h5=dZ W l x5/\k5=(x5:Int)+1/\g3/\x5<=3/\3-x5<3-x4))))/\(g5=false->l5/\(∃y5:Nat,e3/\z4=dZ W l y5/\k5=(y5:Int)+1/\g3/\y5<=3/\3-y5<3-x4)))/\(a5=false->(o5=true->z4=k3/\o3)/\(o5=false->True/\q3/\tn 4 ((v3=false->q3)/\
    tn 6 ((x3->y3)/\(x3->(z3=z3/\a4)/\True/\True)/\(c4->d4)/\(c4->(e4=e4/\a4)/\True/\True)/\(g4=true->2=k3/\o3)/\(g4=false->tn 5 (b0/\True/\h4/\(l4=true->7=k3/\o3)/\(l4=false->tn 5 (b0/\tn 2 (((0:Int)<=1/\1<a0)/\True/\h4/\(∀z5:Nat,o4)/\tn 5 (b0/\tn 2 (((0:Int)<=2/\2<a0)/\True/\h4/\(∀a6:Nat,o4)/\tn 5 (b0/\tn 2 (((0:Int)<=3/\3<a0)/\True/\h4/\(∀b6:Nat,o4)/\tn 5 (b0/\tn 2 (q3/\True/\h4/\(∀c6:Nat,o4)/\tn 5 (b0/\tn 2 (y3/\True/\h4/\(∀d6:Nat,o4)/\tn 5 (b0/\tn 2 (d4/\True/\h4/\(∀e6:Nat,o4)/\0=k3/\aD {W with tasks:=λg6:Nat=>let h6:=W.tasks g6;let k6:=Nat.beq g6 k4;{h6 with prio:=cond k6 z3 h6.prio,node:=cond k6 (l (Int.toNat 1)) h6.node,space:=cond k6 (l (Int.toNat 2)) h6.space,helper:=cond k6 (l (Int.toNat 3)) h6.helper,core:=cond k6 u3 h6.core,cL:=cond k6 e4 h6.cL}} l3 True))))))))))))))))))))
set_option maxHeartbeats 1000000 in
theorem Y6:aU Tryz.prog aY 71 aaz:=bf (.cons Bh (.cons Gx .nil)) false Tryz.call71 Tryz.func71 (λ⟨_,l,W⟩=> [.inv (afG W l)]) (V:=Ph) (λ_=>by kernel_rfl) λ⟨n,l,W⟩ hp=>by
  dsimp only[Pg]at hp
  dsimp only[Ph,tn,ar,aD,aI,aJ,aH]
  simp only[bn,bD,eq_self,implies_true,Bool.cond_self]
  try simp only[eP]
  obtain⟨hz,rfl⟩:=hp
  have z1:=hz.tasks
  have t0:Int.toNat 0=0:=rfl
  have t1:Int.toNat 1=1:=rfl
  have t2:Int.toNat 2=2:=rfl
  have t3:Int.toNat 3=3:=rfl
  have t4:Int.toNat 4=4:=rfl
  have t5:Int.toNat 5=5:=rfl
  have t6:Int.toNat 6=6:=rfl
  simp only[t0,t1,t2,t3,t4,t5,t6]
  refine⟨by omega,hz,rfl,rfl,λi hi=>⟨λh=>?_,λh=>?_⟩⟩
  · rw[Bool.and_eq_true,decide_eq_true_eq]at h
    obtain⟨J,h2⟩:=h
    have e:((i:Int)+1).toNat=i+1:=by omega
    have hg:dZ W l (i+1)=xL W (l (i+1)) (LJ (i+1)):=by rw[dZ,h2];rfl
    simp only[e]
    refine⟨by omega,λh3=>⟨by omega,by omega,hz,cS (by omega) (by omega),i+1,?_,by omega,by omega,by omega⟩,λh3=>⟨cS (by omega) (by omega),i+1,?_,by omega,by omega,by omega⟩⟩
    · rw[hg];unfold xL
      rw[show(l (i+1)== -1)=false by simpa using h3];rfl
    · rw[hg];unfold xL
      rw[show(l (i+1)== -1)=true by simpa using h3];exact eq_of_beq h2
  · have hx:dZ W l 3=dZ W l i:=by
      rcases Nat.eq_or_lt_of_le hi with rfl|J
      · rfl
      · have h:(dZ W l i==0)=false:=by rw[decide_eq_true (show(i:Int)+1<4 by omega)]at h;exact h
        have:=Uy h (d:=3 -i)
        rwa [show i+(3 -i)=3 by omega]at this
    refine⟨λh3=>?_,λh3=>?_⟩
    · have hq:(dZ W l i==0)=false:=by simpa using h3
      have e:fM W l=dZ W l i:=by unfold fM;rw[hx,hq];rfl
      have hc:(fM W l==0)=false:=by rw[e];exact hq
      refine⟨e.symm,?_⟩
      have e_:=yQ hc
      have bP:oc W l=_:=congrArg Wd.tasks e_
      simp only[bP]
      clear e_ bP
      repeat' (first|exact trivial|exact dk rfl|rfl|refine And.intro ?_ ?_|intro _|fail)
    · have hq:(dZ W l i==0)=true:=by simpa using h3
      obtain⟨f0,f1,f2⟩:=wU (Jf (eq_of_beq hq))
      have hE:fM W l=bif decide (l 4<0)||decide ((W.aC:Int)<=l 4)||az (l 5) 3||az (l 6) 3 then 2 else bif (W.tasks (l 0).toNat).st==0 then 0 else 7:=by unfold fM;rw[hx,hq];rfl
      refine⟨by omega,λ_=>by omega,λ_=>by omega,λ_=>by omega,λh4=>?_,λh4=>⟨by omega,by omega,λh5=>?_,λh5=>?_⟩⟩
      · have e:fM W l=2:=by rw[hE,h4];rfl
        have hc:(fM W l==0)=false:=by rw[e];rfl
        refine⟨e.symm,?_⟩
        have e_:=yQ hc
        have bP:oc W l=_:=congrArg Wd.tasks e_
        simp only[bP]
        clear e_ bP
        repeat' (first|exact trivial|exact dk rfl|rfl|refine And.intro ?_ ?_|intro _|fail)
      · have h5:((W.tasks (l 0).toNat).st==0)=false:=by simpa using h5
        have e:fM W l=7:=by rw[hE,h4,h5];rfl
        have hc:(fM W l==0)=false:=by rw[e];rfl
        refine⟨e.symm,?_⟩
        have e_:=yQ hc
        have bP:oc W l=_:=congrArg Wd.tasks e_
        simp only[bP]
        clear e_ bP
        repeat' (first|exact trivial|exact dk rfl|rfl|refine And.intro ?_ ?_|intro _|fail)
      · have h5:((W.tasks (l 0).toNat).st==0)=true:=by simpa using h5
        have e:fM W l=0:=by rw[hE,h4,h5];rfl
        have hc:(fM W l==0)=true:=by rw[e];rfl
        have e_:=E6 hc
        have bP:oc W l=_:=congrArg Wd.tasks e_
        simp only[bP]
        clear e_ bP
        have e:=e.symm
        unfold Aa ah
        repeat' (first|exact e|omega|refine And.intro ?_ ?_)
        intro j _
        cases hj:j.beq (l 0).toNat<;>(try rw[Nat.eq_of_beq_eq_true hj])<;>repeat' (first|exact trivial|exact dk rfl|rfl|refine And.intro ?_ ?_|intro _|fail)
end Go.Proofs.YthgmgkabnffniaaGreatDoor
set_option linter.unusedVariables false
set_option linter.unusedSimpArgs false
set_option maxRecDepth 100000
namespace Go.Proofs.YthgmgkabnffniaaGreatDoor
open Go.RowKit Go.Sy
def gS (l:Nat->Int):Int:=l 0*16+l 1/16
def mf (W:Wd) (l:Nat->Int):Int:=W.af (gS l).toNat%1024*16+l 1%16
def z_ (W:Wd) (l:Nat->Int):Bool:=az (l 1) 255||az (l 3) 1||decide (l 2<0)||decide ((W.aj:Int)<=l 2)
def dJ (W:Wd) (l:Nat->Int):Int:=bif gR W (l 0) 4==0 then bif z_ W l then 2 else bif W.kinds (l 2).toNat==3 then(bif W.af (gS l).toNat==0 then 0 else 12)else bif W.kinds (l 2).toNat==2 then(bif W.af (gS l).toNat==0 then 9 else bif W.af (mf W l).toNat==0 then 0 else 12)else 3 else gR W (l 0) 4
def tP (W:Wd) (l:Nat->Int):Nat:=bif W.kinds (l 2).toNat==3 then(gS l).toNat else(mf W l).toNat
def rn (W:Wd) (l:Nat->Int):Int:=bif W.kinds (l 2).toNat==3 then 32768+l 2 else 32768+l 3*16384+l 2
def kP (W:Wd) (l:Nat->Int) (i:Nat):Int:=bif dJ W l==0 then({W with af:=ah W.af (tP W l) (rn W l)}).af i else(W).af i
def sb (W:Wd) (l:Nat->Int):Wd:={W with af:=kP W l}
theorem BF {W:Wd} {l:Nat->Int} (h:(dJ W l==0)=true):sb W l={W with af:=ah W.af (tP W l) (rn W l)}:=by
  have dg:kP W l=({W with af:=ah W.af (tP W l) (rn W l)}).af:=by
    funext i
    unfold kP
    rw[h]
    rfl
  show({W with af:=kP W l}:Wd)=_
  rw[dg]<;>kernel_rfl
theorem sX {W:Wd} {l:Nat->Int} (h:(dJ W l==0)=false):sb W l=W:=by
  have dg:kP W l=(W).af:=by
    funext i
    unfold kP
    rw[h]
    rfl
  show({W with af:=kP W l}:Wd)=_
  rw[dg]<;>kernel_rfl
structure Pj where
  (n:Nat) (l:Nat->Int) (W:Wd)
def Pk:Sy.Spec:=⟨Pj,λ⟨n,l,_⟩=> [.ptr 0 0 none 0 0,.sl true 1 n (λi_ _=> .v (.int .i64 (l i_)))],λ⟨_,_,W⟩=>cP W,λ⟨n,_,W⟩=>bU W/\n=4,λ⟨_,l,W⟩=> .v (.int .i64 (dJ W l)),λ⟨_,l,W⟩=>cP (sb W l),
  λargs mem=>match args with| [a0,a1]=>some ⟨bX a1,λi=>aw (bN a1 i 0),iG mem 0⟩|_=>none⟩
def aaA:aT:=⟨[true],(Pk).g,none⟩
def Pl:Pj->Prop:=λ⟨n,l,W⟩=>let a0:=(n:Int);let b0:=(0:Int)<=0/\0<a0;let c0:=W.ay;let d0:=W.aj;let e0:=W.al;let g0:=W.aP;let h0:=W.aW;let k0:=W.aN;let l0:=W.aC;let o0:=W.aS;let q0:=W.aQ;let r0:=W.aK;let u0:Int:=l (Int.toNat 0);let v0:=Wd.mk c0 (λw0:Nat=>W.af (0+w0)) d0 (λx0:Nat=>W.kinds (0+x0)) e0 (λy0:Nat=>W.aa (0+y0)) g0 (λz0:Nat=>W.tasks (0+z0)) h0 (λa1:Nat=>W.ai (0+a1)) (λb1:Nat=>λc1:Nat=>W.lines (0+b1) (0+c1)) k0 (λd1:Nat=>W.bits (0+d1)) l0 (λe1:Nat=>W.ak (0+e1)) o0 (λg1:Nat=>W.aq (0+g1)) (λJ:Nat=>λk1:Nat=>W.ready (0+J) (0+k1)) q0 (λl1:Nat=>W.aG (0+l1)) (λo1:Nat=>λq1:Nat=>W.aA (0+o1) (0+q1)) r0 (λr1:Nat=>W.aB (0+r1)) W.time;let u1:=gR v0 u0 4;let v1:=u1 !=0;let w1:=dJ W l;let x1:={W with af:=kP W l};let y1:=aD W x1 True;let z1:=(0:Int)<=1/\1<a0;let a2:Int:=l (Int.toNat 1);let b2:=az a2 255;let c2:=b2=false;let d2:=(0:Int)<=3/\3<a0;let e2:Int:=l (Int.toNat 3);let g2:=cond b2 true (az e2 1);let h2:=(0:Int)<=2/\2<a0;let k2:Int:=l (Int.toNat 2);let l2:=cond g2 true (decide (k2<0));let o2:=cond l2 true (decide ((d0:Int)<=k2));let q2:Int:=u0*16;let r2:=0<=a2;let u2:Int:=a2/16;let v2:Int:=q2+u2;let w2:=0<=k2/\k2<(d0:Int);let x2:=W.kinds (0+Int.toNat k2);let y2:=x2==3;let z2:=0<=v2/\v2<(c0:Int);let a3:=0+Int.toNat v2;let b3:=W.af a3;let c3:=b3 !=0;let d3:=12=w1/\y1;let e3:Int:=32768+k2;let g3:=0=w1;let h3:=x2 !=2;let k3:=b3==0;let l3:Int:=b3%1024*16;let o3:Int:=l3+a2%16;let q3:=0<=o3/\o3<(c0:Int);
    let r3:=0+Int.toNat o3;let u3:=W.af r3 !=0;let v3:Int:=e2*16384;let w3:Int:=32768+v3;let x3:Int:=w3+k2;b0/\(((((((((((((True/\c0=c0/\(∀y3:Nat,y3<c0->True/\W.af (0+y3)=W.af (0+y3)))/\d0=d0/\(∀z3:Nat,let a4:=W.kinds (0+z3);z3<d0->True/\a4=a4))/\e0=e0/\(∀b4:Nat,let c4:=W.aa (0+b4);b4<e0->aJ c4 c4))/\g0=g0/\(∀d4:Nat,let e4:=W.tasks (0+d4);d4<g0->aI e4 e4))/\h0=h0/\(∀g4:Nat,let h4:=W.ai (0+g4);g4<h0->True/\h4=h4/\(∀k4:Nat,let l4:=W.lines (0+g4) (0+k4);k4<h4->True/\l4=l4)))/\k0=k0/\(∀o4:Nat,o4<k0->True/\W.bits (0+o4)=W.bits (0+o4)))/\l0=l0/\(∀q4:Nat,let r4:=W.ak (0+q4);q4<l0->True/\r4=r4))/\o0=o0/\(∀u4:Nat,let v4:=W.aq (0+u4);u4<o0->True/\v4=v4/\(∀w4:Nat,let x4:=W.ready (0+u4) (0+w4);w4<v4->True/\x4=x4)))/\q0=q0/\(∀y4:Nat,let z4:=W.aG (0+y4);y4<q0->True/\z4=z4/\(∀a5:Nat,let b5:=W.aA (0+y4) (0+a5);a5<z4->aH b5 b5)))/\r0=r0/\(∀c5:Nat,c5<r0->True/\W.aB (0+c5)=W.aB (0+c5)))/\W.time=W.time)/\u0=u0/\(4:Int)=4/\True)/\True/\xX.match_1 (λd5:rC=>Prop) (rC.mk v0 u0 4) (λe5:Wd=>λg5:Int=>λh5:Int=>bO e5))/\(v1=true->u1=w1/\y1)/\(v1=false->True/\z1/\True/\((a2=a2/\(255:Int)=255/\True)/\True/\True)/\tn 2 ((c2->d2)/\True/\(c2->(e2=e2/\(1:Int)=1/\True)/\True/\True)/\tn 3 ((g2=false->h2)/\tn 5 ((l2=false->h2)/\tn 6 ((o2=true->2=w1/\y1)/\(o2=false->True/\b0/\True/\ar q2=q2/\True/\z1/\True/\(r2/\(0:Int)<16/\ar u2=u2)/\ar v2=v2/\tn 5 (h2/\True/\w2/\(y2=true->z2/\(c3=true->d3)/\(c3=false->tn 6 (h2/\True/\ar e3=e3/\z2/\(∀k5:Nat,false=false)/\g3/\aD {W with af:=λl5:Nat=>cond (Nat.beq l5 a3) e3 (W.af l5)} x1 True)))/\(y2=false->
    tn 5 (h2/\True/\w2/\(h3=true->3=w1/\y1)/\(h3=false->z2/\(k3=true->9=w1/\y1)/\(k3=false->tn 5 (z2/\True/\(0<=b3/\(0:Int)<1024)/\ar l3=l3/\True/\z1/\True/\(r2/\(0:Int)<16)/\ar o3=o3/\q3/\(u3=true->d3)/\(u3=false->tn 6 (d2/\True/\ar v3=v3/\ar w3=w3/\True/\h2/\True/\ar x3=x3/\q3/\(∀o5:Nat,false=false)/\g3/\aD {W with af:=λq5:Nat=>cond (Nat.beq q5 r3) x3 (W.af q5)} x1 True))))))))))))))
set_option maxHeartbeats 1000000 in
theorem Y7:aU Tryz.prog aY 70 aaA:=bf (.cons Bh (.cons Gx .nil)) false Tryz.call70 Tryz.func70 (λ_=> []) (V:=Pl) (λ_=>by kernel_rfl) λ⟨n,l,W⟩ hp=>by
  dsimp only[Pk]at hp
  dsimp only[Pl,tn,ar,aD,aI,aJ,aH]
  simp only[bn,bD,eq_self,implies_true,Bool.cond_self]
  try simp only[eP]
  obtain⟨hw,rfl⟩:=hp
  have hz:=hw.z
  have z1:=hz.af
  have z2:=hz.k1
  have t0:Int.toNat 0=0:=rfl
  have t1:Int.toNat 1=1:=rfl
  have t2:Int.toNat 2=2:=rfl
  have t3:Int.toNat 3=3:=rfl
  simp only[t0,t1,t2,t3]
  refine⟨by omega,hz,λh=>?_,λh=>⟨by omega,λ_=>by omega,λ_=>by omega,λ_=>by omega,λJ=>?_,λJ=>?_⟩⟩
  · have hq:(gR W (l 0) 4==0)=false:=by simpa using h
    have e:dJ W l=gR W (l 0) 4:=by unfold dJ;rw[hq];rfl
    have hc:(dJ W l==0)=false:=by rw[e];exact hq
    refine⟨e.symm,?_⟩
    have e_:=sX hc
    have dg:kP W l=_:=congrArg Wd.af e_
    simp only[dg]
    clear e_ dg
    repeat' (first|exact trivial|exact dk rfl|rfl|refine And.intro ?_ ?_|intro _|fail)
  · have hq:(gR W (l 0) 4==0)=true:=by simpa using h
    have e:dJ W l=2:=by unfold dJ;rw[hq,show z_ W l=true from J];rfl
    have hc:(dJ W l==0)=false:=by rw[e];rfl
    refine⟨e.symm,?_⟩
    have e_:=sX hc
    have dg:kP W l=_:=congrArg Wd.af e_
    simp only[dg]
    clear e_ dg
    repeat' (first|exact trivial|exact dk rfl|rfl|refine And.intro ?_ ?_|intro _|fail)
  have hq:(gR W (l 0) 4==0)=true:=by simpa using h
  obtain⟨f0,f1,f2⟩:=wU (eq_of_beq hq)
  have ho:z_ W l=false:=J
  simp only[Bool.or_eq_false_iff,decide_eq_false_iff_not]at J
  have b1:=dL J.1.1.1
  have b3:=dL J.1.1.2
  have hE:dJ W l=bif W.kinds (l 2).toNat==3 then(bif W.af (gS l).toNat==0 then 0 else 12)else bif W.kinds (l 2).toNat==2 then(bif W.af (gS l).toNat==0 then 9 else bif W.af (mf W l).toNat==0 then 0 else 12)else 3:=by unfold dJ;rw[hq,ho];rfl
  have hd:gS l=l 0*16+l 1/16:=rfl
  have hP:mf W l=W.af (gS l).toNat%1024*16+l 1%16:=rfl
  have hI:tP W l=bif W.kinds (l 2).toNat==3 then(gS l).toNat else(mf W l).toNat:=rfl
  rw[<-hd]
  have d0:0<=gS l/\gS l<W.ay/\(gS l).toNat/16=(l 0).toNat:=by rw[hd];omega
  generalize gS l=d at*
  refine⟨by omega,cS (by omega) (by omega),by omega,⟨by omega,by omega,cS (by omega) (by omega)⟩,cS (by omega) (by omega),by omega,by omega,λh2=>⟨by omega,λh3=>?_,λh3=>⟨by omega,cS (by omega) (by omega),by omega,?_⟩⟩,λh2=>⟨by omega,by omega,λh3=>?_,λh3=>⟨by omega,λh4=>?_,λh4=>?_⟩⟩⟩
  · have e:dJ W l=12:=by rw[hE,h2,show(W.af d.toNat==0)=false by simpa using h3];rfl
    have hc:(dJ W l==0)=false:=by rw[e];rfl
    refine⟨e.symm,?_⟩
    have e_:=sX hc
    have dg:kP W l=_:=congrArg Wd.af e_
    simp only[dg]
    clear e_ dg
    repeat' (first|exact trivial|exact dk rfl|rfl|refine And.intro ?_ ?_|intro _|fail)
  · have e:dJ W l=0:=by rw[hE,h2,show(W.af d.toNat==0)=true by simpa using h3];rfl
    have hc:(dJ W l==0)=true:=by rw[e];rfl
    have eI:tP W l=d.toNat:=by rw[hI,h2];rfl
    have eV:rn W l=32768+l 2:=by unfold rn;rw[h2];rfl
    refine⟨e.symm,?_⟩
    have e_:=BF hc
    have dg:kP W l=_:=congrArg Wd.af e_
    simp only[dg]
    clear e_ dg
    intro i _
    rw[eI,eV]
    repeat' (first|exact trivial|exact dk rfl|rfl|refine And.intro ?_ ?_|intro _|fail)
  · have e:dJ W l=3:=by rw[hE,h2,show(W.kinds (l 2).toNat==2)=false by simpa using h3];rfl
    have hc:(dJ W l==0)=false:=by rw[e];rfl
    refine⟨e.symm,?_⟩
    have e_:=sX hc
    have dg:kP W l=_:=congrArg Wd.af e_
    simp only[dg]
    clear e_ dg
    repeat' (first|exact trivial|exact dk rfl|rfl|refine And.intro ?_ ?_|intro _|fail)
  · have e:dJ W l=9:=by rw[hE,h2,show(W.kinds (l 2).toNat==2)=true by simpa using h3,h4];rfl
    have hc:(dJ W l==0)=false:=by rw[e];rfl
    refine⟨e.symm,?_⟩
    have e_:=sX hc
    have dg:kP W l=_:=congrArg Wd.af e_
    simp only[dg]
    clear e_ dg
    repeat' (first|exact trivial|exact dk rfl|rfl|refine And.intro ?_ ?_|intro _|fail)
  have hm:=hw.mg.rm d.toNat (by omega)
  have hk:=hw.mg.e4 d.toNat (by omega) (λq=>by rw[q]at h4;cases h4) (by rw[d0.2.2];exact f2)
  have hk:=iO (W:=W) (f:=W.af d.toNat%1024) (by rw[hk.2];decide)
  rw[<-hP]
  have p0:0<=mf W l/\mf W l<W.ay:=by rw[hP];omega
  have WX:dJ W l=bif W.af (mf W l).toNat==0 then 0 else 12:=by rw[hE,h2,show(W.kinds (l 2).toNat==2)=true by simpa using h3,h4];rfl
  have wP: -9223372036854775808<=W.af d.toNat%1024*16/\W.af d.toNat%1024*16<=9223372036854775807:=by omega
  generalize W.af d.toNat%1024*16=w at*
  generalize mf W l=p at*
  refine⟨by omega,⟨hm.1,by decide⟩,cS wP.1 wP.2,by omega,⟨by omega,by decide⟩,cS (by omega) (by omega),p0,λh5=>?_,λh5=>⟨by omega,cS (by omega) (by omega),cS (by omega) (by omega),by omega,cS (by omega) (by omega),p0,?_⟩⟩
  · have e:dJ W l=12:=by rw[WX,show(W.af p.toNat==0)=false by simpa using h5];rfl
    have hc:(dJ W l==0)=false:=by rw[e];rfl
    refine⟨e.symm,?_⟩
    have e_:=sX hc
    have dg:kP W l=_:=congrArg Wd.af e_
    simp only[dg]
    clear e_ dg
    repeat' (first|exact trivial|exact dk rfl|rfl|refine And.intro ?_ ?_|intro _|fail)
  · have e:dJ W l=0:=by rw[WX,show(W.af p.toNat==0)=true by simpa using h5];rfl
    have hc:(dJ W l==0)=true:=by rw[e];rfl
    have eI:tP W l=p.toNat:=by rw[hI,h2];rfl
    have eV:rn W l=32768+l 3*16384+l 2:=by unfold rn;rw[h2];rfl
    refine⟨e.symm,?_⟩
    have e_:=BF hc
    have dg:kP W l=_:=congrArg Wd.af e_
    simp only[dg]
    clear e_ dg
    intro i _
    rw[eI,eV]
    repeat' (first|exact trivial|exact dk rfl|rfl|refine And.intro ?_ ?_|intro _|fail)
end Go.Proofs.YthgmgkabnffniaaGreatDoor
set_option linter.unusedVariables false
set_option linter.unusedSimpArgs false
set_option maxRecDepth 100000
namespace Go.Proofs.YthgmgkabnffniaaGreatDoor
open Go.RowKit Go.Sy
def Ab (W:Wd) (l:Nat->Int):Bool:=decide (l 0<0)||decide ((W.al:Int)<=l 0)||decide (l 1<0)||decide (l 2<1)||decide ((W.aj:Int)<l 1+l 2)
def tV (W:Wd) (f:Nat) (i:Nat):Bool:=(W.aa i).kind==1&&decide ((W.aa i).base<=(f:Int))&&decide ((f:Int)<(W.aa i).base+(W.aa i).len)
def mN (W:Wd) (f:Nat):Bool:=W.kinds f !=0||!dE W.al λi=>!tV W f i
def fu (W:Wd) (l:Nat->Int):Int:=bif Ab W l then 2 else bif iC W (l 0)==0 then bif dE (l 2).toNat (λk=>!mN W ((l 1).toNat+k))then 0 else 7 else iC W (l 0)
def Db (W:Wd) (l:Nat->Int):Nat->bK:=ah W.aa (l 0).toNat ⟨1,l 1,l 2,0,7,0,-1⟩
def mZ (W:Wd) (l:Nat->Int) (i:Nat):bK:=bif fu W l==0 then({W with aa:=Db W l}).aa i else(W).aa i
def sf (W:Wd) (l:Nat->Int):Wd:={W with aa:=mZ W l}
theorem E7 {W:Wd} {l:Nat->Int} (h:(fu W l==0)=true):sf W l={W with aa:=Db W l}:=by
  have kl:mZ W l=({W with aa:=Db W l}).aa:=by
    funext i
    unfold mZ
    rw[h]
    rfl
  show({W with aa:=mZ W l}:Wd)=_
  rw[kl]<;>kernel_rfl
theorem wJ {W:Wd} {l:Nat->Int} (h:(fu W l==0)=false):sf W l=W:=by
  have kl:mZ W l=(W).aa:=by
    funext i
    unfold mZ
    rw[h]
    rfl
  show({W with aa:=mZ W l}:Wd)=_
  rw[kl]<;>kernel_rfl
theorem Te {n k:Nat} {p:Nat->Bool} (hk:k<n) (h:p k=true):dE n (λk=>!p k)=false:=by
  cases r:dE n (λk=>!p k)with
  |false=>rfl
  |true=>have:=gG.1 r k hk;rw[h]at this;cases this
def afH (W:Wd) (l:Nat->Int):cG where
  σ:=Nat
  rt:= []
  sh i:= [(0,de 0),(6,.v (.int .i64 (l 1+i)))]
  mh _:= []
  inv i:=i<=(l 2).toNat/\ ∀k,k<i->mN W ((l 1).toNat+k)=false
  μ i:=(l 2).toNat -i
  init:=0
def afI (W:Wd) (l:Nat->Int) (i:Nat):cG where
  σ:=Nat
  rt:= []
  sh j:= [(0,de 0),(6,.v (.int .i64 (l 1+i))),(7,.v (.int .i64 j))]
  mh _:= []
  inv j:=j<=W.al/\ ∀k,k<j->tV W ((l 1).toNat+i) k=false
  μ j:=W.al -j
  init:=0
structure QV where
  (n:Nat) (l:Nat->Int) (W:Wd)
def QW:Sy.Spec:=⟨QV,λ⟨n,l,_⟩=> [.ptr 0 0 none 0 0,.sl true 1 n (λi_ _=> .v (.int .i64 (l i_)))],λ⟨_,_,W⟩=>cP W,λ⟨n,l,W⟩=>bU W/\n=3/\ ∀i,i<n-> -1<=l i/\l i<=99999,λ⟨_,l,W⟩=> .v (.int .i64 (fu W l)),λ⟨_,l,W⟩=>cP (sf W l),
  λargs mem=>match args with| [a0,a1]=>some ⟨bX a1,λi=>aw (bN a1 i 0),iG mem 0⟩|_=>none⟩
def acf:aT:=⟨[true],(QW).g,none⟩
def QX:QV->Prop:=λ⟨n,l,W⟩=>let a0:=(0:Int)<=0/\0<(n:Int);let b0:Int:=l (Int.toNat 0);let c0:=decide (b0<0);let d0:=W.al;let e0:=(d0:Int);let g0:=cond c0 true (decide (e0<=b0));let h0:=(0:Int)<=1/\1<(n:Int);let k0:Int:=l (Int.toNat 1);let l0:=cond g0 true (decide (k0<0));let o0:=(0:Int)<=2/\2<(n:Int);let q0:Int:=l (Int.toNat 2);let r0:=cond l0 true (decide (q0<1));let u0:=r0=false;let v0:Int:=k0+q0;let w0:=ar v0=v0;let x0:=W.aj;let y0:=cond r0 true (decide ((x0:Int)<v0));let z0:=fu W l;let a1:={W with aa:=mZ W l};let b1:=aD W a1 True;let c1:=W.ay;let d1:=W.aP;let e1:=W.aW;let g1:=W.aN;let J:=W.aC;let k1:=W.aS;let l1:=W.aQ;let o1:=W.aK;let q1:=iC (Wd.mk c1 (λr1:Nat=>W.af (0+r1)) x0 (λu1:Nat=>W.kinds (0+u1)) d0 (λv1:Nat=>W.aa (0+v1)) d1 (λw1:Nat=>W.tasks (0+w1)) e1 (λx1:Nat=>W.ai (0+x1)) (λy1:Nat=>λz1:Nat=>W.lines (0+y1) (0+z1)) g1 (λa2:Nat=>W.bits (0+a2)) J (λb2:Nat=>W.ak (0+b2)) k1 (λc2:Nat=>W.aq (0+c2)) (λd2:Nat=>λe2:Nat=>W.ready (0+d2) (0+e2)) l1 (λg2:Nat=>W.aG (0+g2)) (λh2:Nat=>λk2:Nat=>W.aA (0+h2) (0+k2)) o1 (λl2:Nat=>W.aB (0+l2)) W.time) b0;let o2:=q1 !=0;let q2:=SV.ptr 0 0 none 0 0;let r2:=q2=q2;let u2:Int:=l 1;let v2:=aD W W True;let w2:=Int.toNat (l 2);let x2:=Int.toNat u2;let y2:=7=z0/\b1;let z2:=false=false;let a3:=0+Int.toNat b0;True/\a0/\tn 4 ((c0=false->a0)/\tn 10 ((g0=false->h0)/\tn 5 ((l0=false->o0)/\tn 5 ((u0->h0)/\tn 2 ((u0->o0)/\True/\(u0->w0)/\tn 5 ((y0=true->2=z0/\b1)/\(y0=false->a0/\
    (((((((((((((True/\c1=c1/\(∀b3:Nat,b3<c1->True/\W.af (0+b3)=W.af (0+b3)))/\x0=x0/\(∀c3:Nat,let d3:=W.kinds (0+c3);c3<x0->True/\d3=d3))/\d0=d0/\(∀e3:Nat,let g3:=W.aa (0+e3);e3<d0->aJ g3 g3))/\d1=d1/\(∀h3:Nat,let k3:=W.tasks (0+h3);h3<d1->aI k3 k3))/\e1=e1/\(∀l3:Nat,let o3:=W.ai (0+l3);l3<e1->True/\o3=o3/\(∀q3:Nat,let r3:=W.lines (0+l3) (0+q3);q3<o3->True/\r3=r3)))/\g1=g1/\(∀u3:Nat,u3<g1->True/\W.bits (0+u3)=W.bits (0+u3)))/\J=J/\(∀v3:Nat,let w3:=W.ak (0+v3);v3<J->True/\w3=w3))/\k1=k1/\(∀x3:Nat,let y3:=W.aq (0+x3);x3<k1->True/\y3=y3/\(∀z3:Nat,let a4:=W.ready (0+x3) (0+z3);z3<y3->True/\a4=a4)))/\l1=l1/\(∀b4:Nat,let c4:=W.aG (0+b4);b4<l1->True/\c4=c4/\(∀d4:Nat,let e4:=W.aA (0+b4) (0+d4);d4<c4->aH e4 e4)))/\o1=o1/\(∀g4:Nat,g4<o1->True/\W.aB (0+g4)=W.aB (0+g4)))/\W.time=W.time)/\b0=b0/\True)/\True/\d0<=100000/\d0<=x0*16)/\(o2=true->q1=z0/\b1)/\(o2=false->h0/\r2/\k0=u2+((0:Nat):Int)/\v2/\(0<=w2/\(∀h4:Nat,h4<0->mN W (x2+h4)=false))/\(∀k4:Nat,let l4:Int:=u2+(k4:Int);let o4:=decide (l4<v0);let q4:=W.kinds (0+Int.toNat l4) !=0;let r4:=l4=l4;let u4:Int:=l 1+(k4:Int);let v4:Int:=l4+1;k4<=w2/\(∀w4:Nat,w4<k4->mN W (x2+w4)=false)->tn 2 (h0/\tn 2 (o0/\True/\w0/\(o4=true->(0<=l4/\l4<(x0:Int))/\(q4=true->y2)/\(q4=false->r2/\r4/\0=((0:Nat):Int)/\v2/\(0<=d0/\(∀x4:Nat,x4<0->tV W (x2+k4) x4=false))/\(∀y4:Nat,let z4:=(y4:Int);let a5:=decide (z4<e0);let b5:=W.aa (0+Int.toNat z4);let c5:=b5.base;let d5:=cond (b5.kind==1) (decide (c5<=l4)) false;let e5:Int:=c5+b5.len;let g5:=cond d5 (decide (l4<e5)) false;let h5:Int:=z4+1;y4<=d0/\(∀k5:Nat,k5<y4->
    tV W (x2+k4) k5=false)->e0<=9223372036854775807->(a5=true->(0<=z4/\z4<e0)/\True/\tn 5 True/\(d5=true->ar e5=e5)/\(g5=true->y2)/\(g5=false->ar h5=h5/\(∃l5:Nat,r2/\r4/\h5=(l5:Int)/\v2/\(l5<=d0/\(∀o5:Nat,o5<l5->tV W (x2+k4) o5=false))/\d0-l5<d0-y4)))/\(a5=false->ar v4=v4/\(∃q5:Nat,r2/\v4=u2+(q5:Int)/\v2/\(q5<=w2/\(∀r5:Nat,r5<q5->mN W (x2+r5)=false))/\w2-q5<w2-k4)))))/\(o4=false->tn 5 (a0/\tn 2 (h0/\tn 2 (o0/\tn 3 ((0<=b0/\b0<e0)/\((∀u5:Nat,z2)/\(∀v5:Nat,z2)/\(∀w5:Nat,z2)/\(∀x5:Nat,z2)/\(∀y5:Nat,z2)/\(∀z5:Nat,z2)/\(∀a6:Nat,z2))/\0=z0/\aD {W with aa:=λb6:Nat=>let c6:=Nat.beq b6 a3;let d6:=W.aa b6;bK.mk (cond c6 1 d6.kind) (cond c6 k0 d6.base) (cond c6 q0 d6.len) (cond c6 0 d6.mark) (cond c6 7 d6.cd) (cond c6 0 d6.bL) (cond c6 (-1) d6.from_)} a1 True))))))))))))))))
set_option maxHeartbeats 1000000 in
theorem aaB:aU Tryz.prog aY 67 acf:=bf (.cons Ob .nil) false Tryz.call67 Tryz.func67 (λ⟨_,l,W⟩=> [.Jo (afH W l) λi=> [.inv (afI W l i)],.Ib 0]) (V:=QX) (λ_=>by kernel_rfl) λ⟨n,l,W⟩ hp=>by
  dsimp only[QW]at hp
  dsimp only[QX,tn,ar,aD,aI,aJ,aH]
  simp only[bn,bD,eq_self,implies_true,Bool.cond_self]
  try simp only[eP]
  obtain⟨hw,rfl,hl⟩:=hp
  have hz:=hw.z
  have z1:=hz.aa
  have z2:=hz.k1
  have l0:=hl 0 (by decide)
  have l1:=hl 1 (by decide)
  have l2:=hl 2 (by decide)
  have t0:Int.toNat 0=0:=rfl
  have t1:Int.toNat 1=1:=rfl
  have t2:Int.toNat 2=2:=rfl
  simp only[t0,t1,t2]
  refine⟨by omega,λ_=>by omega,λ_=>by omega,λ_=>by omega,λ_=>by omega,λ_=>by omega,λ_=>cS (by omega) (by omega),λh=>?_,λh=>⟨by omega,by omega,λJ=>?_,λJ=>⟨by omega,by omega,λi hi=>⟨by omega,by omega,cS (by omega) (by omega),λh2=>⟨?_,λh3=>?_,λh3 j hj _=>⟨λh4=>⟨?_,λ_=>?_,λh5=>?_,λh5=>?_⟩,λh4=>?_⟩⟩,λh2=>?ex⟩⟩⟩⟩
  · have e:fu W l=2:=by unfold fu;rw[show Ab W l=true from h];rfl
    have hc:(fu W l==0)=false:=by rw[e];first|rfl|exact ho
    refine⟨e.symm,?_⟩
    have e_:=wJ hc
    have kl:mZ W l=_:=congrArg Wd.aa e_
    simp only[kl]
    clear e_ kl
    repeat' (first|exact trivial|exact dk rfl|rfl|refine And.intro ?_ ?_|intro _|fail)
  all_goals have hO:Ab W l=false:=h
  all_goals simp only[Bool.or_eq_false_iff,decide_eq_false_iff_not]at h
  · have ho:(iC W (l 0)==0)=false:=by simpa using J
    have e:fu W l=iC W (l 0):=by unfold fu;rw[hO,ho];rfl
    have hc:(fu W l==0)=false:=by rw[e];first|rfl|exact ho
    refine⟨e.symm,?_⟩
    have e_:=wJ hc
    have kl:mZ W l=_:=congrArg Wd.aa e_
    simp only[kl]
    clear e_ kl
    repeat' (first|exact trivial|exact dk rfl|rfl|refine And.intro ?_ ?_|intro _|fail)
  all_goals have ho:(iC W (l 0)==0)=true:=by simpa using J
  all_goals have hE:fu W l=bif dE (l 2).toNat (λk=>!mN W ((l 1).toNat+k))then 0 else 7:=by unfold fu;rw[hO,ho];rfl
  case ex=>
    have h2:=of_decide_eq_false h2
    obtain⟨i1,i2⟩:=hi
    have e:fu W l=0:=by rw[hE,gG.2 λk hk=>by rw[i2 k (by omega)];rfl];rfl
    have hc:(fu W l==0)=true:=by rw[e];rfl
    refine⟨by omega,by omega,by omega,by omega,e.symm,?_⟩
    have e_:=E7 hc
    have kl:mZ W l=_:=congrArg Wd.aa e_
    simp only[kl]
    clear e_ kl
    unfold Db ah
    intro j _
    cases hj:j.beq (l 0).toNat
    repeat' (first|exact trivial|exact dk rfl|rfl|refine And.intro ?_ ?_|intro _|fail)
  all_goals have h2:=of_decide_eq_true h2
  all_goals have hn:(l 1+(i:Int)).toNat=(l 1).toNat+i:=by omega
  all_goals have av:i<(l 2).toNat:=by omega
  all_goals have h7:mN W ((l 1).toNat+i)=true->fu W l=7:=λq=>by rw[hE,Te (p:=λk=>mN W ((l 1).toNat+k)) av q];rfl
  · omega
  · have e:=h7 (by unfold mN;rw[<-hn,h3];rfl)
    have hc:(fu W l==0)=false:=by rw[e];first|rfl|exact ho
    refine⟨e.symm,?_⟩
    have e_:=wJ hc
    have kl:mZ W l=_:=congrArg Wd.aa e_
    simp only[kl]
    clear e_ kl
    repeat' (first|exact trivial|exact dk rfl|rfl|refine And.intro ?_ ?_|intro _|fail)
  all_goals rw[hn]at h3
  · have:=of_decide_eq_true h4;omega
  · have h4:=of_decide_eq_true h4
    have L_:=kN (Ei (hw.sl j (by omega)))
    exact cS (by omega) (by omega)
  · have h4:=of_decide_eq_true h4
    have hs:tV W ((l 1).toNat+i) j=true:=by
      unfold tV
      rw[show(((l 1).toNat+i:Nat):Int)=l 1+i by omega];exact h5
    have e:=h7 (by
      unfold mN
      rw[Te (p:=λk=>tV W ((l 1).toNat+i) k) (by omega) hs]
      exact Bool.or_true _)
    have hc:(fu W l==0)=false:=by rw[e];first|rfl|exact ho
    refine⟨e.symm,?_⟩
    have e_:=wJ hc
    have kl:mZ W l=_:=congrArg Wd.aa e_
    simp only[kl]
    clear e_ kl
    repeat' (first|exact trivial|exact dk rfl|rfl|refine And.intro ?_ ?_|intro _|fail)
  · have h4:=of_decide_eq_true h4
    refine⟨cS (by omega) (by omega),j+1,by omega,⟨by omega,λk hk=>?_⟩,by omega⟩
    rcases Nat.lt_or_ge k j with q|q
    · exact hj.2 k q
    · rw[show k=j by omega]
      unfold tV
      rw[show(((l 1).toNat+i:Nat):Int)=l 1+i by omega];exact h5
  · have h4:=of_decide_eq_false h4
    refine⟨cS (by omega) (by omega),i+1,by omega,⟨by omega,λk hk=>?_⟩,by omega⟩
    rcases Nat.lt_or_ge k i with q|q
    · exact hi.2 k q
    · rw[show k=i by omega]
      unfold mN
      rw[h3,gG.2 λk hk=>by rw[hj.2 k (by omega)];rfl];rfl
end Go.Proofs.YthgmgkabnffniaaGreatDoor
set_option linter.unusedVariables false
set_option linter.unusedSimpArgs false
set_option maxRecDepth 100000
namespace Go.Proofs.YthgmgkabnffniaaGreatDoor
open Go.RowKit Go.Sy
def iZ (W:Wd) (l:Nat->Int):Int:=bif gR W (l 0) 2==0 then bif az (l 1) 15 then 2 else bif az (l 2) 65535 then 1 else 0 else gR W (l 0) 2
def oz (W:Wd) (l:Nat->Int) (i:Nat):Int:=bif iZ W l==0 then({W with af:=ah W.af (l 0*16+l 1).toNat (l 2)}).af i else(W).af i
def Ac (W:Wd) (l:Nat->Int):Wd:={W with af:=oz W l}
theorem T7 {W:Wd} {l:Nat->Int} (h:(iZ W l==0)=true):Ac W l={W with af:=ah W.af (l 0*16+l 1).toNat (l 2)}:=by
  have dg:oz W l=({W with af:=ah W.af (l 0*16+l 1).toNat (l 2)}).af:=by
    funext i
    unfold oz
    rw[h]
    rfl
  show({W with af:=oz W l}:Wd)=_
  rw[dg]<;>kernel_rfl
theorem E8 {W:Wd} {l:Nat->Int} (h:(iZ W l==0)=false):Ac W l=W:=by
  have dg:oz W l=(W).af:=by
    funext i
    unfold oz
    rw[h]
    rfl
  show({W with af:=oz W l}:Wd)=_
  rw[dg]<;>kernel_rfl
structure Tf where
  (n:Nat) (l:Nat->Int) (W:Wd)
def Tg:Sy.Spec:=⟨Tf,λ⟨n,l,_⟩=> [.ptr 0 0 none 0 0,.sl true 1 n (λi_ _=> .v (.int .i64 (l i_)))],λ⟨_,_,W⟩=>cP W,λ⟨n,_,W⟩=>bO W/\n=3,λ⟨_,l,W⟩=> .v (.int .i64 (iZ W l)),λ⟨_,l,W⟩=>cP (Ac W l),
  λargs mem=>match args with| [a0,a1]=>some ⟨bX a1,λi=>aw (bN a1 i 0),iG mem 0⟩|_=>none⟩
def ad6:aT:=⟨[true],(Tg).g,none⟩
def Th:Tf->Prop:=λ⟨n,l,W⟩=>let a0:=(0:Int)<=0/\0<(n:Int);let b0:=W.ay;let c0:=W.aj;let d0:=W.al;let e0:=W.aP;let g0:=W.aW;let h0:=W.aN;let k0:=W.aC;let l0:=W.aS;let o0:=W.aQ;let q0:=W.aK;let r0:Int:=l (Int.toNat 0);let u0:=Wd.mk b0 (λv0:Nat=>W.af (0+v0)) c0 (λw0:Nat=>W.kinds (0+w0)) d0 (λx0:Nat=>W.aa (0+x0)) e0 (λy0:Nat=>W.tasks (0+y0)) g0 (λz0:Nat=>W.ai (0+z0)) (λa1:Nat=>λb1:Nat=>W.lines (0+a1) (0+b1)) h0 (λc1:Nat=>W.bits (0+c1)) k0 (λd1:Nat=>W.ak (0+d1)) l0 (λe1:Nat=>W.aq (0+e1)) (λg1:Nat=>λJ:Nat=>W.ready (0+g1) (0+J)) o0 (λk1:Nat=>W.aG (0+k1)) (λl1:Nat=>λo1:Nat=>W.aA (0+l1) (0+o1)) q0 (λq1:Nat=>W.aB (0+q1)) W.time;let r1:=gR u0 r0 2;let u1:=r1 !=0;let v1:=iZ W l;let w1:={W with af:=oz W l};let x1:=aD W w1 True;let y1:=(0:Int)<=1/\1<(n:Int);let z1:Int:=l (Int.toNat 1);let a2:=az z1 15;let b2:=(0:Int)<=2/\2<(n:Int);let c2:Int:=l (Int.toNat 2);let d2:=az c2 65535;let e2:Int:=r0*16;let g2:Int:=e2+z1;a0/\(((((((((((((True/\b0=b0/\(∀h2:Nat,h2<b0->True/\W.af (0+h2)=W.af (0+h2)))/\c0=c0/\(∀k2:Nat,let l2:=W.kinds (0+k2);k2<c0->True/\l2=l2))/\d0=d0/\(∀o2:Nat,let q2:=W.aa (0+o2);o2<d0->aJ q2 q2))/\e0=e0/\(∀r2:Nat,let u2:=W.tasks (0+r2);r2<e0->aI u2 u2))/\g0=g0/\(∀v2:Nat,let w2:=W.ai (0+v2);v2<g0->True/\w2=w2/\(∀x2:Nat,let y2:=W.lines (0+v2) (0+x2);x2<w2->True/\y2=y2)))/\h0=h0/\(∀z2:Nat,z2<h0->True/\W.bits (0+z2)=W.bits (0+z2)))/\k0=k0/\(∀a3:Nat,let b3:=W.ak (0+a3);a3<k0->True/\b3=b3))/\l0=l0/\(∀c3:Nat,
    let d3:=W.aq (0+c3);c3<l0->True/\d3=d3/\(∀e3:Nat,let g3:=W.ready (0+c3) (0+e3);e3<d3->True/\g3=g3)))/\o0=o0/\(∀h3:Nat,let k3:=W.aG (0+h3);h3<o0->True/\k3=k3/\(∀l3:Nat,let o3:=W.aA (0+h3) (0+l3);l3<k3->aH o3 o3)))/\q0=q0/\(∀q3:Nat,q3<q0->True/\W.aB (0+q3)=W.aB (0+q3)))/\W.time=W.time)/\r0=r0/\(2:Int)=2/\True)/\True/\xX.match_1 (λr3:rC=>Prop) (rC.mk u0 r0 2) (λu3:Wd=>λv3:Int=>λw3:Int=>bO u3))/\(u1=true->r1=v1/\x1)/\(u1=false->y1/\((z1=z1/\(15:Int)=15/\True)/\True/\True)/\(a2=true->2=v1/\x1)/\(a2=false->b2/\((c2=c2/\(65535:Int)=65535/\True)/\True/\True)/\(d2=true->1=v1/\x1)/\(d2=false->tn 5 (a0/\True/\ar e2=e2/\True/\y1/\True/\ar g2=g2/\True/\b2/\True/\(0<=g2/\g2<(b0:Int))/\(∀x3:Nat,false=false)/\0=v1/\aD {W with af:=λy3:Nat=>cond (Nat.beq y3 (0+Int.toNat g2)) c2 (W.af y3)} w1 True))))
set_option maxHeartbeats 1000000 in
theorem acg:aU Tryz.prog aY 68 ad6:=bf (.cons Bh (.cons Gx .nil)) false Tryz.call68 Tryz.func68 (λ_=> []) (V:=Th) (λ_=>by kernel_rfl) λ⟨n,l,W⟩ hp=>by
  dsimp only[Tg]at hp
  dsimp only[Th,tn,ar,aD,aI,aJ,aH]
  simp only[bn,bD,eq_self,implies_true,Bool.cond_self]
  try simp only[eP]
  obtain⟨hz,rfl⟩:=hp
  have z1:=hz.af
  have z2:=hz.k1
  have t0:Int.toNat 0=0:=rfl
  have t1:Int.toNat 1=1:=rfl
  have t2:Int.toNat 2=2:=rfl
  simp only[t0,t1,t2]
  refine⟨by omega,hz,λh=>?_,λh=>⟨by omega,λJ=>?_,λJ=>⟨by omega,λh2=>?_,λh2=>?_⟩⟩⟩
  · have hq:(gR W (l 0) 2==0)=false:=by simpa using h
    have e:iZ W l=gR W (l 0) 2:=by unfold iZ;rw[hq];rfl
    have hc:(iZ W l==0)=false:=by rw[e];first|rfl|exact hq
    refine⟨e.symm,?_⟩
    have e_:=E8 hc
    have dg:oz W l=_:=congrArg Wd.af e_
    simp only[dg]
    clear e_ dg
    repeat' (first|exact trivial|exact dk rfl|rfl|refine And.intro ?_ ?_|intro _|fail)
  all_goals have hq:(gR W (l 0) 2==0)=true:=by simpa using h
  · have e:iZ W l=2:=by unfold iZ;rw[hq,J];rfl
    have hc:(iZ W l==0)=false:=by rw[e];first|rfl|exact hq
    refine⟨e.symm,?_⟩
    have e_:=E8 hc
    have dg:oz W l=_:=congrArg Wd.af e_
    simp only[dg]
    clear e_ dg
    repeat' (first|exact trivial|exact dk rfl|rfl|refine And.intro ?_ ?_|intro _|fail)
  · have e:iZ W l=1:=by unfold iZ;rw[hq,J,h2];rfl
    have hc:(iZ W l==0)=false:=by rw[e];first|rfl|exact hq
    refine⟨e.symm,?_⟩
    have e_:=E8 hc
    have dg:oz W l=_:=congrArg Wd.af e_
    simp only[dg]
    clear e_ dg
    repeat' (first|exact trivial|exact dk rfl|rfl|refine And.intro ?_ ?_|intro _|fail)
  have e:iZ W l=0:=by unfold iZ;rw[hq,J,h2];rfl
  have hc:(iZ W l==0)=true:=by rw[e];rfl
  obtain⟨f0,f1,f2⟩:=wU (eq_of_beq hq)
  have b1:=dL J
  have e:=e.symm
  have w1:IntKind.i64.wrap (l 0*16)=l 0*16:=cS (by omega) (by omega)
  have w2:IntKind.i64.wrap (l 0*16+l 1)=l 0*16+l 1:=cS (by omega) (by omega)
  repeat' (first|exact e|exact w1|exact w2|omega|refine And.intro ?_ ?_)
  have e_:=T7 hc
  have dg:oz W l=_:=congrArg Wd.af e_
  simp only[dg]
  clear e_ dg
  repeat' (first|exact trivial|exact dk rfl|rfl|refine And.intro ?_ ?_|intro _|fail)
end Go.Proofs.YthgmgkabnffniaaGreatDoor
set_option linter.unusedVariables false
set_option linter.unusedSimpArgs false
set_option maxRecDepth 100000
namespace Go.Proofs.YthgmgkabnffniaaGreatDoor
open Go.RowKit Go.Sy
theorem KG.af {P:Nat->Prop} {W:Wd} (h:KG P W) (R:Nat->Int):KG P {W with af:=R}:=⟨h.z.cg rfl rfl,h.kd,h.e0,h.s1,h.s2,h.rk,h.cl,h.ky,h.ex⟩
theorem T0.af {W:Wd} (h:T0 W) (R:Nat->Int):T0 {W with af:=R}:=TS.other h R W.aa W.aG W.aA
theorem Sx.Ww {W:Wd} (h:Sx W) {R:Nat->Int} (m:MG {W with af:=R}):Sx {W with af:=R}:=SP.snd ⟨h.sp.k.af R,h.sp.t.af R,m,h.sp.d⟩
theorem Sx.UU {W:Wd} (h:Sx W) {R:Nat->Int} (hR: ∀i,i<W.ay->0<=R i/\R i<=65535) (h0: ∀i,i<W.ay->R i≠W.af i->W.kinds (i/16)≠3/\W.kinds (i/16)≠4):Sx {W with af:=R}:=
  h.Ww (MG.new (k:=0) h.sp.m h.1.z (λ_ _=> .inl rfl) hR (λi hi e=>⟨h0 i hi e,.inr rfl⟩) λ_ _ e=>absurd rfl e)
def xJ (W:Wd):Prop:= ∀c,c<W.aQ->W.aG c=0
theorem MG.tell {W:Wd} {A:Nat} {v:Int} (h:MG W) (hT:xJ W) (hv:0<=v/\v<=65535) (h4:W.kinds (A/16)=4->v -v%1024=32768/\bH W (v%1024)=3) (h3:W.kinds (A/16)=3->(v -v%1024=32768\/v -v%1024=49152)/\bH W (v%1024)=2):MG {W with af:=ah W.af A v}:=by
  refine⟨λi hi=>?_,λi hi hn hk=>?_,λi hi hn hk=>?_,λc hc=>?_⟩
  · show 0<=ah W.af A v i/\ah W.af A v i<=65535
    rcases Decidable.em (i=A)with e|e
    · rw[e,aZ];exact hv
    · rw[bh e];exact h.rm i hi
  · have hn:ah W.af A v i≠0:=hn
    show ah W.af A v i -ah W.af A v i%1024=32768/\bH W (ah W.af A v i%1024)=3
    rcases Decidable.em (i=A)with e|e
    · rw[e,aZ];exact h4 (by rw[<-e];exact hk)
    · rw[bh e]at hn⊢;exact h.e4 i hi hn hk
  · have hn:ah W.af A v i≠0:=hn
    show(ah W.af A v i -ah W.af A v i%1024=32768\/ah W.af A v i -ah W.af A v i%1024=49152)/\bH W (ah W.af A v i%1024)=2
    rcases Decidable.em (i=A)with e|e
    · rw[e,aZ];exact h3 (by rw[<-e];exact hk)
    · rw[bh e]at hn⊢;exact h.e3 i hi hn hk
  · have e:W.aG c=0:=hT c hc
    exact⟨by show W.aG c<=4;omega,λk hk=>absurd hk (by show¬k<W.aG c;omega),λj k _ hk=>absurd hk (by show¬k<W.aG c;omega)⟩
theorem Sx.enter {W:Wd} (h:Sx W) (hT:xJ W) (l:Nat->Int):Sx (sb W l):=by
  cases he:dJ W l==0 with
  |false=>rw[sX he];exact h
  |true=>
   rw[BF he]
   have he:=eq_of_beq he
   have z:=h.1.z
   have zr:=z.af
   have zk:=z.k1
   have m:=h.sp.m
   unfold dJ at he
   cases J:gR W (l 0) 4==0 with
   |false=>rw[J]at he;exact absurd he (beq_eq_false_iff_ne.1 J)
   |true=>
    obtain⟨a1,a2,a3⟩:=wU (eq_of_beq J)
    rw[J]at he
    cases h2:z_ W l with
    |true=>rw[h2]at he;exact absurd (show(2:Int)=0 from he) (by decide)
    |false=>
     rw[h2]at he
     have he:(bif W.kinds (l 2).toNat==3 then(bif W.af (gS l).toNat==0 then 0 else 12)else bif W.kinds (l 2).toNat==2 then(bif W.af (gS l).toNat==0 then 9 else bif W.af (mf W l).toNat==0 then 0 else 12)else 3)=(0:Int):=he
     unfold z_ at h2
     simp only[Bool.or_eq_false_iff,decide_eq_false_iff_not]at h2
     obtain⟨⟨⟨b1,b2⟩,b3⟩,b4⟩:=h2
     have b1:=dL b1
     have b2:=dL b2
     have dI:(gS l).toNat/16=(l 0).toNat/\(gS l).toNat<W.ay:=by unfold gS;omega
     have ko: ∀c:Int,W.kinds (l 2).toNat=c->bH W (l 2)=c:=λc hc=>by rw[fS ⟨by omega,by omega⟩];exact hc
     refine h.Ww (m.tell hT ?_ ?_ ?_)
     · unfold rn
       cases W.kinds (l 2).toNat==3
       · show 0<=32768+l 3*16384+l 2/\32768+l 3*16384+l 2<=65535;omega
       · show 0<=32768+l 2/\32768+l 2<=65535;omega
     · unfold tP rn
       cases q:W.kinds (l 2).toNat==3 with
       |true=>
        show W.kinds ((gS l).toNat/16)=4->(32768+l 2) -(32768+l 2)%1024=32768/\bH W ((32768+l 2)%1024)=3
        have e:(32768+l 2)%1024=l 2:=by omega
        rw[e]
        exactλ_=>⟨by omega,ko 3 (eq_of_beq q)⟩
       |false=>
        rw[q]at he
        cases q2:W.kinds (l 2).toNat==2 with
        |false=>rw[q2]at he;exact absurd (show(3:Int)=0 from he) (by decide)
        |true=>
         rw[q2]at he
         cases q3:W.af (gS l).toNat==0 with
         |true=>rw[q3]at he;exact absurd (show(9:Int)=0 from he) (by decide)
         |false=>
          obtain⟨c1,c2⟩:=m.e4 _ dI.2 (beq_eq_false_iff_ne.1 q3) (by rw[dI.1];exact a3)
          have c3:=iO (W:=W) (f:=W.af (gS l).toNat%1024) (by rw[c2];decide)
          rw[fS c3]at c2
          have e:(mf W l).toNat/16=(W.af (gS l).toNat%1024).toNat:=by unfold mf;omega
          show W.kinds ((mf W l).toNat/16)=4->_
          rw[e,c2]
          intro hh;exact absurd hh (by decide)
     · unfold tP rn
       cases q:W.kinds (l 2).toNat==3 with
       |true=>
        show W.kinds ((gS l).toNat/16)=3->_
        rw[dI.1,a3]
        intro hh;exact absurd hh (by decide)
       |false=>
        rw[q]at he
        cases q2:W.kinds (l 2).toNat==2 with
        |false=>rw[q2]at he;exact absurd (show(3:Int)=0 from he) (by decide)
        |true=>
         show W.kinds ((mf W l).toNat/16)=3->((32768+l 3*16384+l 2) -(32768+l 3*16384+l 2)%1024=32768\/(32768+l 3*16384+l 2) -(32768+l 3*16384+l 2)%1024=49152)/\bH W ((32768+l 3*16384+l 2)%1024)=2
         have e:(32768+l 3*16384+l 2)%1024=l 2:=by omega
         rw[e]
         exactλ_=>⟨by omega,ko 2 (eq_of_beq q2)⟩
theorem T0.Jd {W:Wd} (h:T0 W) (l:Nat->Int):T0 (rp W l):=by
  cases he:fM W l==0 with
  |false=>rw[yQ he];exact h
  |true=>
   rw[E6 he]
   have he:=eq_of_beq he
   have z:=h.z
   have zc:=z.c0
   unfold fM at he
   cases J:dZ W l 3==0 with
   |false=>rw[J]at he;exact absurd he (beq_eq_false_iff_ne.1 J)
   |true=>
    have g:=eq_of_beq J
    rw[J]at he
    have he:(bif decide (l 4<0)||decide ((W.aC:Int)<=l 4)||az (l 5) 3||az (l 6) 3 then 2 else bif (W.tasks (l 0).toNat).st==0 then 0 else 7)=(0:Int):=he
    cases h2:decide (l 4<0)||decide ((W.aC:Int)<=l 4)||az (l 5) 3||az (l 6) 3 with
    |true=>rw[h2]at he;exact absurd (show(2:Int)=0 from he) (by decide)
    |false=>
     rw[h2]at he
     have hs:(W.tasks (l 0).toNat).st=0:=by
       cases q:(W.tasks (l 0).toNat).st==0 with
       |true=>exact eq_of_beq q
       |false=>rw[q]at he;exact absurd (show(7:Int)=0 from he) (by decide)
     simp only[Bool.or_eq_false_iff,decide_eq_false_iff_not]at h2
     obtain⟨⟨⟨b1,b2⟩,b3⟩,b4⟩:=h2
     have b3:=dL b3
     have b4:=dL b4
     obtain⟨a1,a2,a3⟩:=wU (Jf g)
     have ht:(l 0).toNat<W.aj:=by omega
     have step: ∀i,dZ W l (i+1)=0->dZ W l i=0/\xL W (l (i+1)) (LJ (i+1))=0:=λi hi=>by
       rw[dZ]at hi
       cases q:dZ W l i==0 with
       |true=>rw[q]at hi;exact⟨eq_of_beq q,hi⟩
       |false=>rw[q]at hi;exact absurd hi (beq_eq_false_iff_ne.1 q)
     obtain⟨g2,e3⟩:=step 2 g
     obtain⟨g1,e2⟩:=step 1 g2
     obtain⟨_,e1⟩:=step 0 g1
     have ok: ∀(f k:Int),xL W f k=0->okF W f k=true:=λf k hf=>by
       unfold xL at hf
       unfold okF
       cases q:f== -1 with
       |true=>rfl
       |false=>
        rw[q]at hf
        obtain⟨c1,c2,c3⟩:=wU hf
        rw[fS ⟨c1,c2⟩,c3]
        exact beq_self_eq_true _
     obtain⟨n1,n2,n3⟩:=h.nm _ ht a3
     obtain⟨p1,p2,p3⟩:=(h.so _ ht a3 id).idle (.inl hs)
     have key: ∀R:aM,R={W.tasks (l 0).toNat with node:=l 1,space:=l 2,helper:=l 3,core:=l 4,prio:=l 5,cL:=l 6}->T0 {W with tasks:=ah W.tasks (l 0).toNat R}:=λR hR=>by
       have hn:fT W R=false:=by
         obtain⟨J,h2,h3,h4,h5,h6,h7⟩:=yc n2
         rw[hR]
         unfold fT
         simp only[Bool.or_eq_false_iff]
         exact⟨⟨⟨⟨⟨⟨fQ J,fQ h2⟩,fQ h3⟩,fQ h4⟩,fQ b3⟩,fQ (by omega)⟩,fQ b4⟩
       have hr:gv W R=true:=by
         rw[hR]
         unfold gv at n3⊢
         simp only[Bool.and_eq_true]at n3⊢
         exact⟨⟨⟨ok _ _ e1,ok _ _ e2⟩,ok _ _ e3⟩,n3.2⟩
       have hg:jg R=false:=by rw[hR];exact n1
       have ho:R.aE=(W.tasks (l 0).toNat).aE:=by rw[hR]
       have rs:R.st=0:=by rw[hR];exact hs
       have rl:R.loc= -1:=by rw[hR];exact p3
       clear hR
       refine((h.wk (Y:=λf=>f=(l 0).toNat) λ_ hf=>hf.elim).set (r:=R) ht a3 hg hn hr ho (.inl ⟨rfl,p1,p2⟩)).lv λf hf h6 hx _=>?_
       have ot:(ah W.tasks (l 0).toNat R f).st=0:=by rw[hx,aZ];exact rs
       have o1:ca {W with tasks:=ah W.tasks (l 0).toNat R} f=ca W f:=ug ho _
       have o2:ca W f=1↔(W.tasks f).st=5:=(h.o1 f hf (by rw[hx];exact a3)).2 id
       have fZ:(W.tasks f).st=0:=by rw[hx];exact hs
       refine⟨?_,?_,λ_=>?_⟩
       · rw[o1]
         show ca W f=1↔(ah W.tasks (l 0).toNat R f).st=5
         rw[ot,o2,fZ]
       · refine⟨λe=>?_,λe=>?_,λe=>?_,λ_ _ _ _ _=>⟨by rw[hx];exact p1,by rw[hx];exact p2,?_⟩⟩
         · have e:(ah W.tasks (l 0).toNat R f).st=2\/(ah W.tasks (l 0).toNat R f).st=3\/(ah W.tasks (l 0).toNat R f).st=4:=e
           rw[ot]at e;omega
         · have e:(ah W.tasks (l 0).toNat R f).st=6:=e
           rw[ot]at e;omega
         · have e:(ah W.tasks (l 0).toNat R f).st=1:=e
           rw[ot]at e;omega
         · show(ah W.tasks (l 0).toNat R f).loc= -1
           rw[hx,aZ];exact rl
       · show(ah W.tasks (l 0).toNat R f).st≠4
         rw[ot];decide
     have e: ∀R:aM,R={W.tasks (l 0).toNat with node:=l 1,space:=l 2,helper:=l 3,core:=l 4,prio:=l 5,cL:=l 6}->Aa W l=ah W.tasks (l 0).toNat R:=λR hR=>by rw[hR];rfl
     obtain⟨R,hR⟩: ∃R:aM,R={W.tasks (l 0).toNat with node:=l 1,space:=l 2,helper:=l 3,core:=l 4,prio:=l 5,cL:=l 6}:=⟨_,rfl⟩
     rw[e R hR]
     exact key R hR
theorem Sx.Jd {W:Wd} (h:Sx W) (l:Nat->Int):Sx (rp W l):=h.xI (h.sp.t.Jd l) rfl rfl rfl rfl rfl rfl rfl rfl
theorem Xl {b l:Int} (hb:0<=b) (hl:1<=l) (h:b+l<=24):dX 1 b l 0 7 0=0:=by
  unfold dX sI sJ az
  simp only[cond_eq_ite,bne,Bool.or_eq_true,Bool.and_eq_true,Bool.not_eq_true',decide_eq_true_eq,beq_iff_eq,beq_eq_false_iff_ne]
  repeat' split
  all_goals first|rfl|omega
theorem KG.tu {W:Wd} {B:Nat} {b n:Int} (h:KG (λ_=>False) W) (hB:B<W.al) (sd:(W.aa B).kind=0) (jL:W.kinds (B/16)=5) (hb:0<=b) (hn:1<=n) (hbn:b+n<=W.aj) (ct: ∀f:Nat,b<=f->(f:Int)<b+n->W.kinds f=0) (dx: ∀f:Nat,b<=f->(f:Int)<b+n-> ∀i,i<W.al->bW (W.aa i) f=false):KG (λ_=>False) {W with aa:=ah W.aa B ⟨1,b,n,0,7,0,-1⟩}:=by
  have z:=h.z
  have z1:=z.k1
  have eB:ah W.aa B (⟨1,b,n,0,7,0,-1⟩:bK) B=⟨1,b,n,0,7,0,-1⟩:=aZ
  have ne: ∀{i},i≠B->ah W.aa B (⟨1,b,n,0,7,0,-1⟩:bK) i=W.aa i:=λe=>bh e
  have xM:=h.e0 B hB sd
  have nf: ∀{i},i<W.al->(W.aa i).from_≠(B:Int):=λ{i} hi e=>by
    obtain⟨_,_,c,_⟩:=h.full hi (by omega)
    rw[e,Int.toNat_natCast]at c
    exact c sd
  have ci: ∀f:Nat,bW (⟨1,b,n,0,7,0,-1⟩:bK) f=true↔b<=f/\(f:Int)<b+n:=λf=>by
    rw[vR];exact⟨λh=>⟨h.2.1,h.2.2⟩,λh=>⟨rfl,h.1,h.2⟩⟩
  have Wx: ∀f,bW (W.aa B) f=false:=λf=>by rw[xM];rfl
  have kC: ∀f,cE (⟨1,b,n,0,7,0,-1⟩:bK) f=false:=λf=>rfl
  have eC: ∀(p:bK->Bool),bx W.al (λi=>p (ah W.aa B ⟨1,b,n,0,7,0,-1⟩ i))+b1 (p (W.aa B))=bx W.al (λi=>p (W.aa i))+b1 (p ⟨1,b,n,0,7,0,-1⟩):=λp=>by
    have:=DT (n:=W.al) (a:=B) (p:=λi=>p (W.aa i)) (v:=p ⟨1,b,n,0,7,0,-1⟩) hB
    have e:bx W.al (λi=>p (ah W.aa B ⟨1,b,n,0,7,0,-1⟩ i))=bx W.al (ah (λi=>p (W.aa i)) B (p ⟨1,b,n,0,7,0,-1⟩)):=jA λi _=>by
      rcases Decidable.em (i=B)with e|e
      · subst e;rw[aZ,aZ]
      · rw[bh e,bh e]
    rw[e];exact this
  refine⟨z.cg rfl rfl,h.kd,λi hi hk=>?_,λi hi hk=>?_,λi hi hk=>?_,?_,λf hf=>?_,λf hf h0=>?_,λi hi hk cK c hc wV=>?_⟩
  · have hk:(ah W.aa B ⟨1,b,n,0,7,0,-1⟩ i).kind=0:=hk
    show ah W.aa B ⟨1,b,n,0,7,0,-1⟩ i=_
    rcases Decidable.em (i=B)with e|e
    · subst e;rw[eB]at hk;exact absurd (show(1:Int)=0 from hk) (by decide)
    · rw[ne e]at hk⊢;exact h.e0 i hi hk
  · have hk:(ah W.aa B ⟨1,b,n,0,7,0,-1⟩ i).kind≠0:=hk
    show(W.kinds (i/16)=5\/False)/\fi (ah W.aa B ⟨1,b,n,0,7,0,-1⟩ i)=0/\(ah W.aa B ⟨1,b,n,0,7,0,-1⟩ i).base+(ah W.aa B ⟨1,b,n,0,7,0,-1⟩ i).len<=W.aj/\((ah W.aa B ⟨1,b,n,0,7,0,-1⟩ i).kind=1\/W.kinds (ah W.aa B ⟨1,b,n,0,7,0,-1⟩ i).base.toNat=(ah W.aa B ⟨1,b,n,0,7,0,-1⟩ i).kind)
    rcases Decidable.em (i=B)with e|e
    · subst e;rw[eB];exact⟨.inl jL,Xl (b:=b) (l:=n) hb hn (by omega),hbn,.inl rfl⟩
    · rw[ne e]at hk⊢;exact h.s1 i hi hk
  · have hk:(ah W.aa B ⟨1,b,n,0,7,0,-1⟩ i).kind≠0:=hk
    show(ah W.aa B ⟨1,b,n,0,7,0,-1⟩ i).from_= -1\/((0<=(ah W.aa B ⟨1,b,n,0,7,0,-1⟩ i).from_/\(ah W.aa B ⟨1,b,n,0,7,0,-1⟩ i).from_<W.al)/\eG (ah W.aa B ⟨1,b,n,0,7,0,-1⟩ i) (ah W.aa B ⟨1,b,n,0,7,0,-1⟩ (ah W.aa B ⟨1,b,n,0,7,0,-1⟩ i).from_.toNat)=true)
    rcases Decidable.em (i=B)with e|e
    · subst e;rw[eB];exact .inl rfl
    · rw[ne e]at hk⊢
      refine(h.s2 i hi hk).imp_right λg=>⟨g.1,?_⟩
      rw[ne λe2=>nf hi (by omega)];exact g.2
  · obtain⟨r,hr⟩:=h.rk
    refine⟨r,λi hi h0=>?_⟩
    have h0:0<=(ah W.aa B ⟨1,b,n,0,7,0,-1⟩ i).from_:=h0
    show r (ah W.aa B ⟨1,b,n,0,7,0,-1⟩ i).from_.toNat<r i
    rcases Decidable.em (i=B)with e|e
    · subst e
      rw[eB]at h0;exact absurd (show(0:Int)<= -1 from h0) (by decide)
    · rw[ne e]at h0⊢;exact hr i hi h0
  · show bx W.al (λi=>bW (ah W.aa B ⟨1,b,n,0,7,0,-1⟩ i) f)<=1
    have e:=eC λs=>bW s f
    have e:bx W.al (λi=>bW (ah W.aa B ⟨1,b,n,0,7,0,-1⟩ i) f)+b1 (bW (W.aa B) f)=bx W.al (λi=>bW (W.aa i) f)+b1 (bW (⟨1,b,n,0,7,0,-1⟩:bK) f):=e
    cases q:bW (⟨1,b,n,0,7,0,-1⟩:bK) f with
    |false=>rw[q,Wx]at e;have:=h.cl f hf;unfold b1 at e;simp only[cond_false]at e;omega
    |true=>
     have q:=(ci f).1 q
     have e0:bx W.al (λi=>bW (W.aa i) f)=0:=mY.2 λi hi=>dx f q.1 q.2 i hi
     rw[(ci f).2 q,Wx,e0]at e
     unfold b1 at e
     simp only[cond_true,cond_false]at e
     omega
  · obtain⟨a,d⟩:=h.ky f hf h0
    refine⟨?_,λi hi=>?_⟩
    · show 0<bx W.al (λi=>cE (ah W.aa B ⟨1,b,n,0,7,0,-1⟩ i) f)
      have e:=eC λs=>cE s f
      have e:bx W.al (λi=>cE (ah W.aa B ⟨1,b,n,0,7,0,-1⟩ i) f)+b1 (cE (W.aa B) f)=bx W.al (λi=>cE (W.aa i) f)+b1 (cE (⟨1,b,n,0,7,0,-1⟩:bK) f):=e
      rw[kC f,xM,show cE f_ f=false from rfl]at e
      omega
    · show iP (ah W.aa B ⟨1,b,n,0,7,0,-1⟩ i) f=false
      rcases Decidable.em (i=B)with e|e
      · subst e
        rw[eB];unfold iP
        cases q:bW (⟨1,b,n,0,7,0,-1⟩:bK) f with
        |false=>rfl
        |true=>exact absurd (ct f ((ci f).1 q).1 ((ci f).1 q).2) h0
      · rw[ne e];exact d i hi
  · have hk:(ah W.aa B ⟨1,b,n,0,7,0,-1⟩ i).kind≠0:=hk
    have cK:(ah W.aa B ⟨1,b,n,0,7,0,-1⟩ i).kind≠1:=cK
    have wV:bW (ah W.aa B ⟨1,b,n,0,7,0,-1⟩ c) (ah W.aa B ⟨1,b,n,0,7,0,-1⟩ i).base.toNat=true:=wV
    show(ah W.aa B ⟨1,b,n,0,7,0,-1⟩ i).from_≠ -1
    rcases Decidable.em (i=B)with e|e
    · subst e;rw[eB]at cK;exact absurd rfl cK
    · rw[ne e]at hk cK wV⊢
      rcases Decidable.em (c=B)with e2|e2
      · rw[e2,eB]at wV
        have q:=(ci _).1 wV
        obtain⟨_,_,_,g⟩:=h.s1 i hi hk
        rcases g with g|g
        · exact absurd g cK
        · rw[ct _ q.1 q.2]at g;exact absurd g.symm hk
      · rw[ne e2]at wV;exact h.ex i hi hk cK c hc wV
theorem Sx.tu {W:Wd} (h:Sx W) (l:Nat->Int):Sx (sf W l):=by
  cases he:fu W l==0 with
  |false=>rw[wJ he];exact h
  |true=>
   rw[E7 he]
   have he:=eq_of_beq he
   unfold fu at he
   cases J:Ab W l with
   |true=>rw[J]at he;exact absurd (show(2:Int)=0 from he) (by decide)
   |false=>
    rw[J]at he
    have he:(bif iC W (l 0)==0 then bif dE (l 2).toNat (λk=>!mN W ((l 1).toNat+k))then 0 else 7 else iC W (l 0))=(0:Int):=he
    cases h2:iC W (l 0)==0 with
    |false=>rw[h2]at he;exact absurd he (beq_eq_false_iff_ne.1 h2)
    |true=>
     rw[h2]at he
     obtain⟨o1,o2,o3⟩:=RF (eq_of_beq h2)
     have h3:dE (l 2).toNat (λk=>!mN W ((l 1).toNat+k))=true:=by
       cases q:dE (l 2).toNat (λk=>!mN W ((l 1).toNat+k))with
       |true=>rfl
       |false=>rw[q]at he;exact absurd (show(7:Int)=0 from he) (by decide)
     unfold Ab at J
     simp only[Bool.or_eq_false_iff,decide_eq_false_iff_not]at J
     obtain⟨⟨⟨⟨a1,a2⟩,a3⟩,a4⟩,a5⟩:=J
     have key: ∀f:Nat,l 1<=f->(f:Int)<l 1+l 2->W.kinds f=0/\ ∀i,i<W.al->bW (W.aa i) f=false:=λf hf1 FJ=>by
       have:=gG.1 h3 (f -(l 1).toNat) (by omega)
       rw[show(l 1).toNat+(f -(l 1).toNat)=f by omega]at this
       unfold mN at this
       simp only[Bool.not_or,Bool.and_eq_true,Bool.not_eq_true',bne_eq_false_iff_eq,Bool.not_eq_false']at this
       exact⟨this.1,λi hi=>by have q:=gG.1 this.2 i hi;rw[Bool.not_eq_true']at q;exact q⟩
     exact h.LK (h.sp.k.tu (B:=(l 0).toNat) (by omega) o2 o3 (by omega) (by omega) (by omega) (λf a b=>(key f a b).1) λf a b=>(key f a b).2) rfl rfl rfl rfl rfl rfl rfl rfl rfl rfl rfl rfl rfl rfl
theorem Sx.put {W:Wd} (h:Sx W) (l:Nat->Int):Sx (Ac W l):=by
  cases he:iZ W l==0 with
  |false=>rw[E8 he];exact h
  |true=>
   rw[T7 he]
   have he:=eq_of_beq he
   have zr:=h.1.z.af
   unfold iZ at he
   cases J:gR W (l 0) 2==0 with
   |false=>rw[J]at he;exact absurd he (beq_eq_false_iff_ne.1 J)
   |true=>
    obtain⟨a1,a2,a3⟩:=wU (eq_of_beq J)
    rw[J]at he
    cases h2:az (l 1) 15 with
    |true=>rw[h2]at he;exact absurd (show(2:Int)=0 from he) (by decide)
    |false=>
     rw[h2]at he
     cases h3:az (l 2) 65535 with
     |true=>rw[h3]at he;exact absurd (show(1:Int)=0 from he) (by decide)
     |false=>
      have h2:=dL h2
      have h3:=dL h3
      refine h.UU (λi hi=>?_) λi hi ba=>?_
      · rcases Decidable.em (i=(l 0*16+l 1).toNat)with e|e
        · rw[e,aZ];exact h3
        · rw[bh e];exact h.sp.m.rm i hi
      · rcases Decidable.em (i=(l 0*16+l 1).toNat)with e|e
        · rw[show i/16=(l 0).toNat by omega,a3];decide
        · rw[bh e]at ba;exact absurd rfl ba
theorem Zz {n j k:Nat} {f:Nat->Int} (hj:j<k) (hk:k<n) (h:f j=f k):2<=cf n f (f k):=by
  have:=N8 (n:=n) (f:=f) (x:=f k) hk
  have p:0<cf (n -1) (oN f k) (f k):=Hn (k:=j) (by omega) (by unfold oN;rw[pU hj];exact h)
  rw[beq_self_eq_true]at this
  unfold b1 at this
  simp only[cond_true]at this
  omega
theorem RG {n m:Nat} {f:Nat->Int} (h: ∀k,k<n->0<=f k/\f k<m) (J: ∀k,k<n->cf n f (f k)<=1):n<=m:=
  IE (λk=>(f k).toNat) (λk hk=>by have:=h k hk;omega) λi j oR hj e=>by
   have a:=h i (by omega)
   have b:=h j hj
   have e:(f i).toNat=(f j).toNat:=e
   have:=Zz oR hj (show f i=f j by omega)
   have:=J j hj
   omega
theorem T0.one {W:Wd} (h:T0 W) {t:Nat} (ht:t<W.aj) (hk:W.kinds t=6):cA W t<=1/\cu W t<=1:=by
  have p:=h.so t ht hk id
  rcases Decidable.em ((W.tasks t).st=2\/(W.tasks t).st=3\/(W.tasks t).st=4)with e|e
  · have:=p.dr e;omega
  rcases Decidable.em ((W.tasks t).st=6)with e6|e6
  · have:=p.bl e6;omega
  rcases Decidable.em ((W.tasks t).st=1)with e1|e1
  · have:=p.rd e1;omega
  · have:=p.no e1 (by omega) (by omega) (by omega) e6;omega
theorem bU.sm {W:Wd} (h:bU W):Sm W:=by
  have z:=h.z
  have t:=h.t0
  obtain⟨z1,z2,z3,z4,z5,z6,z7,z8,z9,KE,CH,z12,KR,K0,V3⟩:=z
  refine⟨by omega,by omega,by omega,by omega,by omega,by omega,by omega,by omega,by omega,by omega,λi hi=>?_,λi hi=>?_,λi hi=>?_⟩
  · have hl:=(eh.1 (h.ln i (by omega))).2.2.2
    have:=RG (n:=W.ai i) (m:=W.aj) (f:=W.lines i) (λk hk=>(hl k hk).1) λk hk=>by
      obtain⟨a,b,_⟩:=hl k hk
      have o:=(t.one (t:=(W.lines i k).toNat) (by omega) b).1
      have c:=MM (n:=W.aW) (a:=i) (ln:=W.ai) (l:=W.lines) (x:=W.lines i k) hi
      unfold cA at o
      rw[Int.toNat_of_nonneg a.1]at o
      omega
    omega
  · have hl:=kj.1 (h.rl i (by omega))
    have:=RG (n:=W.aq i) (m:=W.aj) (f:=W.ready i) (λk hk=>(hl k hk).1) λk hk=>by
      obtain⟨a,b,_⟩:=hl k hk
      have o:=(t.one (t:=(W.ready i k).toNat) (by omega) b).2
      have c:=MM (n:=W.aS) (a:=i) (ln:=W.aq) (l:=W.ready) (x:=W.ready i k) hi
      unfold cu at o
      rw[Int.toNat_of_nonneg a.1]at o
      omega
    omega
  · have:=(h.mg.tl i hi).1;omega
theorem bU.tn {W:Wd} (h:bU W):rj W:=⟨(uu h h.sm).mono (by decide)⟩
theorem bU.mkp {W:Wd} (h:bU W):Ad W:=by
  have I:=uu h h.sm
  refine⟨h.z.k0,h.z.k1,h.z.af,h.z.aa,λi hi hk=>?_⟩
  obtain⟨g1,g2,_⟩:=I.sl i hi
  have hr:=kN g1
  have:=g2 (by omega)
  omega
theorem Sx.new {n:Nat} {f:Nat->ByteArray} (hp:Ge n f):Sx (lr n f)/\xJ (lr n f):=by
  obtain⟨-,-,-,h3,hN⟩:=hp
  unfold rS at hN
  rw[Bool.and_eq_true,Bool.not_eq_true']at hN
  obtain⟨hB,hL⟩:=hN
  have hr:1<=bu (f 0)/\bu (f 0)<=24/\1<=bu (f 1)/\bu (f 1)<=4/\1<=n -2/\n -2<=8:=by
    unfold yN at hB
    simp only[Bool.or_eq_false_iff,decide_eq_false_iff_not]at hB
    omega
  have hL:=Nat.le_of_ble_eq_true hL
  have hA: ∀i,i<n -2->az (tO f i) 3=false:=λi hi=>by
    cases e:az (tO f i) 3 with
    |false=>rfl
    |true=>have:=uh (p:=λi=>az (tO f i) 3) hi e;unfold E5 at hL;omega
  have k6: ∀g:Nat,(bif Nat.beq g 0 then(5:Int)else 0)≠6:=λg=>by cases Nat.beq g 0<;>decide
  have s0: ∀i,i≠0->(lr n f).aa i=yM:=λi hi=>by
    show(bif Nat.beq i 0 then _ else _)=_
    rw[si hi];rfl
  have z:bO (lr n f):=by
    refine⟨?_,?_,?_,?_,?_,?_,?_,?_,?_,?_,?_,?_,?_,?_,?_⟩
    all_goals (dsimp only[lr,BE];try omega)
  have pos: ∀i,i<(lr n f).al->((lr n f).aa i).kind≠0->i=0:=λi _ hk=>Decidable.byContradiction λe=>hk (by rw[s0 i e];rfl)
  refine⟨SP.snd ⟨?_,?_,?_,hA⟩,λ_ _=>rfl⟩
  · refine⟨z,λg _=>?_,λi hi hk=>?_,λi hi hk=>?_,λi hi hk=>?_,⟨λ_=>0,λi hi h0=>?_⟩,λg hg=>?_,λg hg h0=>?_,λi hi hk cK c hc dx=>?_⟩
    · show 0<=(bif Nat.beq g 0 then(5:Int)else 0)/\(bif Nat.beq g 0 then(5:Int)else 0)<=8/\(bif Nat.beq g 0 then(5:Int)else 0)≠1
      cases Nat.beq g 0<;>decide
    · rcases Decidable.em (i=0)with e|e
      · subst e;exact absurd (show(5:Int)=0 from hk) (by decide)
      · rw[s0 i e];rfl
    · obtain rfl:=pos i hi hk
      refine⟨.inl rfl,(by show fi (⟨5,0,1,0,7,0,-1⟩:bK)=0;decide),?_,.inr rfl⟩
      show(0:Int)+1<=((bu (f 0)).toNat:Int)
      omega
    · obtain rfl:=pos i hi hk
      exact .inl rfl
    · rcases Decidable.em (i=0)with e|e
      · subst e;exact absurd (show(0:Int)<= -1 from h0) (by decide)
      · rw[s0 i e]at h0;exact absurd (show(0:Int)<= -1 from h0) (by decide)
    · have:bx (lr n f).al (λi=>bW ((lr n f).aa i) g)=0:=mY.2 λi _=>by
        rcases Decidable.em (i=0)with e|e
        · subst e;rfl
        · rw[s0 i e];rfl
      omega
    · obtain rfl:g=0:=Decidable.byContradiction λe=>h0 (by show(bif Nat.beq g 0 then(5:Int)else 0)=0;rw[si e];rfl)
      refine⟨uc (i:=0) (by have:=z.aa;have:=z.k0;omega) rfl,λi _=>?_⟩
      rcases Decidable.em (i=0)with e|e
      · subst e;rfl
      · rw[s0 i e];rfl
    · have:bW ((lr n f).aa c) ((lr n f).aa i).base.toNat=false:=by
        rcases Decidable.em (c=0)with e|e
        · subst e;rfl
        · rw[s0 c e];rfl
      rw[this]at dx;cases dx
  · refine⟨z,λg _ _=>rfl,λg _ h6=>absurd h6 (k6 g),λg _ h6=>absurd h6 (k6 g),λg _ h6=>absurd h6 (k6 g),λg _ h6=>absurd h6 (k6 g),λg _=>?_,λc _=>rfl,λi _=>rfl⟩
    refine eh.2 ⟨λh=>absurd h (Nat.not_lt_zero _),λh=>absurd rfl h,⟨Int.le_refl 0,(by decide:(0:Int)<=65535)⟩,λk hk=>absurd hk (Nat.not_lt_zero _)⟩
  · exact⟨λi _=>⟨Int.le_refl 0,(by decide:(0:Int)<=65535)⟩,λi _ h0=>absurd rfl h0,λi _ h0=>absurd rfl h0,λc _=>⟨Nat.zero_le _,λk hk=>absurd hk (Nat.not_lt_zero _),λj k _ hk=>absurd hk (Nat.not_lt_zero _)⟩⟩
end Go.Proofs.YthgmgkabnffniaaGreatDoor
