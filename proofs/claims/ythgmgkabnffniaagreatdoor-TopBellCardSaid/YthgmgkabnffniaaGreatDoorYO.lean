/- Things out of clay. -/
import Derived.Test.YthgmgkabnffniaaGreatDoorYK
import Derived.Test.YthgmgkabnffniaaGreatDoorYN
import Derived.Test.YthgmgkabnffniaaGreatDoorYM
import Derived.Test.YthgmgkabnffniaaGreatDoorYI
set_option linter.unusedVariables false
set_option linter.unusedSimpArgs false
set_option linter.unusedVariables false
set_option linter.unusedSimpArgs false
set_option maxRecDepth 100000
namespace Go.Proofs.YthgmgkabnffniaaGreatDoor
open Go.RowKit Go.Sy
def kh (W:Wd) (s:Int):Int:=bif uL W.al W.aa s then(W.aa s.toNat).mark else 0
def B6 (W:Wd) (n to:Int):Bool:=dY n.toNat λi=>(W.aa (to.toNat+i)).kind !=0
def dP (W:Wd) (s k n to:Int):Int:=
  bif decide (s<0)||decide ((W.al:Int)<=s)||decide (to<0)||decide ((W.al:Int)<=to)then 2 else
  bif (W.aa s.toNat).kind==0 then 6 else
  bif (W.aa s.toNat).kind !=1||decide (k<2)||decide (8<k)||W.kinds (to/16).toNat !=5 then 3 else
  bif decide (n<1)||decide (16<n)||decide (16<to%16+n)then 2 else
  bif B6 W n to then 12 else
  bif decide ((W.aa s.toNat).len<kh W s+n)then 5 else 0
def cm (a n i:Nat):Bool:=Nat.ble a i&&Nat.blt i (a+n)
def iJ (W:Wd) (s:Int):Nat:=((W.aa s.toNat).base+kh W s).toNat
def fj (W:Wd) (s k:Int) (n i:Nat):Int:=bif cm (iJ W s) n i then k else W.kinds i
def iD (W:Wd) (s:Int) (n i:Nat):Int:=bif cm (iJ W s*16) (n*16) i then 0 else W.af i
def Av (W:Wd) (s k to:Int) (i:Nat):bK:=⟨k,(iJ W s:Int)+(i -to),1,0,7,0,s⟩
def lW (W:Wd) (s k to:Int) (n i:Nat):bK:=bif cm to.toNat n i then Av W s k to i else W.aa i
def uM (W:Wd) (s k n to:Int) (i:Nat):bK:=ah (lW W s k to n.toNat) s.toNat {W.aa s.toNat with mark:=kh W s+n} i
def lS (W:Wd) (s k n to:Int) (i:Nat):Int:=bif dP W s k n to==0 then iD W s n.toNat i else W.af i
def lT (W:Wd) (s k n to:Int) (i:Nat):Int:=bif dP W s k n to==0 then fj W s k n.toNat i else W.kinds i
def kr (W:Wd) (s k n to:Int) (i:Nat):bK:=bif dP W s k n to==0 then uM W s k n to i else W.aa i
def sj (W:Wd) (s k n to:Int):Wd:={W with af:=lS W s k n to,kinds:=lT W s k n to,aa:=kr W s k n to}
structure Ad (W:Wd):Prop where
  k0:1<=W.aj
  k1:W.aj<=24
  r:W.ay=W.aj*16
  s:W.al=W.aj*16
  sl: ∀i:Nat,i<W.al->(W.aa i).kind=1->0<=(W.aa i).base/\0<=(W.aa i).mark/\(W.aa i).mark<=24/\0<=(W.aa i).len/\(W.aa i).base+(W.aa i).len<=W.aj
def adV (W:Wd) (to:Int) (n:Nat) (l:List (Nat×SV)) (r:List (Nat×Nat)) (z:Nat) (o:Int):cG where
  σ:=Nat
  rt:=r
  sh i:=l++ [(z,.v (.int .i64 (o+i)))]
  mh _:= []
  inv i:=i<=n/\ ∀j,j<i->((W.aa (to.toNat+j)).kind !=0)=false
  μ i:=n -i
  init:=0
def adW (W:Wd) (s k to:Int) (n:Nat) (l:List (Nat×SV)) (r:List (Nat×Nat)) (z:Nat):cG where
  σ:=Nat
  rt:=r
  sh i:=l++ [(z,.v (.int .i64 i))]
  mh i:= [(1,.row 1 W.ay (iF (iD W s i))),(2,.row 1 W.aj (iF (fj W s k i))),(3,.row 7 W.al (rF λq=>pS (lW W s k to i q)))]
  inv i:=i<=n
  μ i:=n -i
  init:=0
def lX (W:Wd) (s:Int) (n c i:Nat):Int:=bif cm ((iJ W s+n)*16) c i then 0 else iD W s n i
def adX (W:Wd) (s:Int) (n:Nat) (l:List (Nat×SV)) (r:List (Nat×Nat)) (z:Nat):cG where
  σ:=Nat
  rt:=r
  sh i:=l++ [(z,.v (.int .i64 i))]
  mh i:= [(1,.row 1 W.ay (iF (lX W s n i)))]
  inv i:=i<=16
  μ i:=16 -i
  init:=0
theorem gH {a n i:Nat}:cm a n i=true↔a<=i/\i<a+n:=by
  unfold cm
  rw[Bool.and_eq_true]
  exact⟨λh=>⟨Nat.le_of_ble_eq_true h.1,Nat.le_of_ble_eq_true h.2⟩,λh=>⟨afc h.1,ji h.2⟩⟩
theorem Ut {a n i:Nat} (h:i<a\/a+n<=i):cm a n i=false:=by
  cases hb:cm a n i with
  |false=>rfl
  |true=>have:=gH.1 hb;omega
theorem Fu {a i:Nat}:cm a 0 i=false:=Ut (by omega)
theorem Jk {a m j:Nat}:cm a (m+1) j=(Nat.beq j (a+m)||cm a m j):=by
  rw[Bool.eq_iff_iff,Bool.or_eq_true,gH,gH,Nat.beq_eq]
  omega
theorem adY {f m j:Nat}:cm (f*16) ((m+1)*16) j=(cm ((f+m)*16) 16 j||cm (f*16) (m*16) j):=by
  rw[Bool.eq_iff_iff,Bool.or_eq_true,gH,gH,gH]
  omega
theorem Uu {W:Wd} {s:Int} {i:Nat}:iD W s 0 i=W.af i:=by unfold iD;rw[Nat.zero_mul,Fu];rfl
theorem Uv {W:Wd} {s k:Int} {i:Nat}:fj W s k 0 i=W.kinds i:=by unfold fj;rw[Fu];rfl
theorem Uw {W:Wd} {s k to:Int} {i:Nat}:lW W s k to 0 i=W.aa i:=by unfold lW;rw[Fu];rfl
theorem S9 {W:Wd} {s k:Int} {m j:Nat}:(bif Nat.beq j (iJ W s+m)then k else fj W s k m j)=fj W s k (m+1) j:=by
  unfold fj;rw[Jk];cases Nat.beq j (iJ W s+m)<;>rfl
theorem Ux {W:Wd} {s:Int} {m j:Nat}:lX W s m 0 j=iD W s m j:=by unfold lX;rw[Fu];rfl
theorem S_ {W:Wd} {s:Int} {m c j:Nat}:(bif Nat.beq j ((iJ W s+m)*16+c)then 0 else lX W s m c j)=lX W s m (c+1) j:=by
  unfold lX;rw[Jk];cases Nat.beq j ((iJ W s+m)*16+c)<;>rfl
theorem Ta {W:Wd} {s:Int} {m j:Nat}:lX W s m 16 j=iD W s (m+1) j:=by
  unfold lX iD;rw[adY];cases cm ((iJ W s+m)*16) 16 j<;>rfl
theorem Tb {W:Wd} {s k to:Int} {m j:Nat}:(bif Nat.beq j (to.toNat+m)then Av W s k to j else lW W s k to m j)=lW W s k to (m+1) j:=by
  unfold lW;rw[Jk];cases Nat.beq j (to.toNat+m)<;>rfl
theorem QN {W:Wd} {s k to:Int} {m j:Nat} (h:j<to.toNat\/to.toNat+m<=j):lW W s k to m j=W.aa j:=by unfold lW;rw[Ut h];rfl
structure Eo where
  (s k n to:Int) (W:Wd)
def H_:Sy.Spec:=⟨Eo,λ⟨s,k,n,to,_⟩=> [.ptr 0 0 none 0 0,.v (.int .i64 s),.v (.int .i64 k),.v (.int .i64 n),.v (.int .i64 to)],λ⟨_,_,_,_,W⟩=>cP W,λ⟨_,_,_,_,W⟩=>Ad W,λ⟨s,k,n,to,W⟩=> .v (.int .i64 (dP W s k n to)),λ⟨s,k,n,to,W⟩=>cP (sj W s k n to),
  λargs mem=>match args with| [a0,a1,a2,a3,a4]=>some ⟨aw (a1),aw (a2),aw (a3),aw (a4),iG mem 0⟩|_=>none⟩
def acb:aT:=⟨[true],(H_).g,none⟩
def QO:Eo->Prop:=λ⟨s,k,n,to,W⟩=>let a0:=W.al;let b0:=(a0:Int);let c0:=cond (cond (cond (decide (s<0)) true (decide (b0<=s))) true (decide (to<0))) true (decide (b0<=to));let d0:=dP W s k n to;let e0:={W with af:=lS W s k n to,kinds:=lT W s k n to,aa:=kr W s k n to};let g0:=aD W e0 True;let h0:=2=d0/\g0;let k0:=W.ay;let l0:=W.aj;let o0:=W.aP;let q0:=W.aW;let r0:=W.aN;let u0:=W.aC;let v0:=W.aS;let w0:=W.aQ;let x0:=W.aK;let y0:=(((((((((((True/\k0=k0/\(∀z0:Nat,z0<k0->True/\W.af (0+z0)=W.af (0+z0)))/\l0=l0/\(∀a1:Nat,let b1:=W.kinds (0+a1);a1<l0->True/\b1=b1))/\a0=a0/\(∀c1:Nat,let d1:=W.aa (0+c1);c1<a0->aJ d1 d1))/\o0=o0/\(∀e1:Nat,let g1:=W.tasks (0+e1);e1<o0->aI g1 g1))/\q0=q0/\(∀J:Nat,let k1:=W.ai (0+J);J<q0->True/\k1=k1/\(∀l1:Nat,let o1:=W.lines (0+J) (0+l1);l1<k1->True/\o1=o1)))/\r0=r0/\(∀q1:Nat,q1<r0->True/\W.bits (0+q1)=W.bits (0+q1)))/\u0=u0/\(∀r1:Nat,let u1:=W.ak (0+r1);r1<u0->True/\u1=u1))/\v0=v0/\(∀v1:Nat,let w1:=W.aq (0+v1);v1<v0->True/\w1=w1/\(∀x1:Nat,let y1:=W.ready (0+v1) (0+x1);x1<w1->True/\y1=y1)))/\w0=w0/\(∀z1:Nat,let a2:=W.aG (0+z1);z1<w0->True/\a2=a2/\(∀b2:Nat,let c2:=W.aA (0+z1) (0+b2);b2<a2->aH c2 c2)))/\x0=x0/\(∀d2:Nat,d2<x0->True/\W.aB (0+d2)=W.aB (0+d2)))/\W.time=W.time)/\s=s/\True;
    let e2:=Wd.mk k0 (λg2:Nat=>W.af (0+g2)) l0 (λh2:Nat=>W.kinds (0+h2)) a0 (λk2:Nat=>W.aa (0+k2)) o0 (λl2:Nat=>W.tasks (0+l2)) q0 (λo2:Nat=>W.ai (0+o2)) (λq2:Nat=>λr2:Nat=>W.lines (0+q2) (0+r2)) r0 (λu2:Nat=>W.bits (0+u2)) u0 (λv2:Nat=>W.ak (0+v2)) v0 (λw2:Nat=>W.aq (0+w2)) (λx2:Nat=>λy2:Nat=>W.ready (0+x2) (0+y2)) w0 (λz2:Nat=>W.aG (0+z2)) (λa3:Nat=>λb3:Nat=>W.aA (0+a3) (0+b3)) x0 (λc3:Nat=>W.aB (0+c3)) W.time;let d3:=iR e2 s;let e3:=d3 !=0;let g3:=0<=s/\s<b0;let h3:=0+Int.toNat s;let k3:=W.aa h3;let l3:=k3.kind;let o3:=cond (cond (l3 !=1) true (decide (k<2))) true (decide (8<k));let q3:=o3=false;let r3:Int:=to/16;let u3:=(l0:Int);let v3:=cond o3 true (W.kinds (0+Int.toNat r3) !=5);let w3:=cond (decide (n<1)) true (decide (16<n));let x3:=w3=false;let y3:Int:=to%16+n;let z3:=cond w3 true (decide (16<y3));let a4:=SV.ptr 0 0 none 0 0;let b4:=a4=a4;let c4:=SV.ptr 11 0 none 0 0;let d4:=c4=c4;let e4:=k3.base;let g4:=k3.len;let h4:=k3.mark;let k4:=k3.cd;let l4:=k3.bL;let o4:=((((((True/\l3=l3)/\e4=e4)/\g4=g4)/\h4=h4)/\k4=k4)/\l4=l4)/\True;let q4:=aD W W o4;let r4:=Int.toNat n;let u4:=0<=r4;let v4:Int:=to+n;let w4:=!uL a0 (λx4:Nat=>W.aa (0+x4)) s;let y4:Int:=0+n;let z4:=ar y4=y4;let a5:=decide (g4<y4);let b5:=5=d0/\g0;let c5:=0=((0:Nat):Int);let d5:=aD W {W with af:=iD W s 0,kinds:=fj W s k 0,aa:=lW W s k to 0} o4;let e5:Int:=e4+0;let g5:=false=false;
    let h5:=(∀k5:Nat,g5)/\(∀l5:Nat,g5)/\(∀o5:Nat,g5)/\(∀q5:Nat,g5)/\(∀r5:Nat,g5)/\(∀u5:Nat,g5);let v5:=(∀w5:Nat,g5)/\h5;let x5:=0=d0;let y5:Int:=h4+n;let z5:=ar y5=y5;let a6:=decide (g4<y5);let b6:Int:=e4+h4;(c0=true->h0)/\(c0=false->(y0/\True/\True)/\(e3=true->d3=d0/\g0)/\(e3=false->g3/\True/\tn 5 True/\(q3->0<=to/\(0:Int)<16/\ar r3=r3)/\(q3->0<=r3/\r3<u3)/\(v3=true->3=d0/\g0)/\(v3=false->(x3->0<=to/\(0:Int)<16)/\(x3->ar y3=y3)/\(z3=true->h0)/\(z3=false->b4/\d4/\to=to+((0:Nat):Int)/\q4/\(u4/\(∀c6:Nat,c6<0->((W.aa (Int.toNat to+c6)).kind !=0)=false))/\(∀d6:Nat,let e6:Int:=to+(d6:Int);let g6:=decide (e6<v4);let h6:=(W.aa (0+Int.toNat e6)).kind !=0;let k6:Int:=e6+1;d6<=r4/\(∀l6:Nat,l6<d6->((W.aa (Int.toNat to+l6)).kind !=0)=false)->ar v4=v4/\(g6=true->(0<=e6/\e6<b0)/\(h6=true->12=d0/\g0)/\(h6=false->ar k6=k6/\(∃o6:Nat,b4/\d4/\k6=to+(o6:Int)/\q4/\(o6<=r4/\(∀q6:Nat,q6<o6->((W.aa (Int.toNat to+q6)).kind !=0)=false))/\r4-o6<r4-d6)))/\(g6=false->(y0/\True/\G2.match_1 (λr6:DG=>Prop) (DG.mk e2 s) (λu6:Wd=>λv6:Int=>u6.al<=100000))/\(w4=true->z4/\(a5=true->b5)/\(a5=false->b4/\d4/\c5/\d5/\u4/\(∀w6:Nat,let x6:=(w6:Int);let y6:=decide (x6<n);let z6:Int:=e5+x6;let a7:=0+Int.toNat z6;let b7:=lW W s k to w6;let c7:=Int.toNat x6;let d7:Int:=z6*16;let e7:Int:=to+x6;let g7:Int:=x6+1;let h7:=0+Int.toNat e7;w6<=r4->(y6=true->ar e5=e5/\ar z6=z6/\(0<=z6/\z6<u3)/\(∀k7:Nat,g5)/\b4/\d4/\c5/\
    aD {W with af:=iD W s w6,kinds:=λl7:Nat=>cond (Nat.beq l7 a7) k (fj W s k w6 l7),aa:=b7} {W with af:=lX W s c7 0,kinds:=λo7:Nat=>cond (Nat.beq o7 a7) k (fj W s k w6 o7),aa:=b7} o4/\0<=16/\(∀q7:Nat,let r7:=decide ((q7:Int)<16);let u7:Int:=d7+(q7:Int);let v7:Int:=(q7:Int)+1;q7<=16->(r7=true->ar d7=d7/\ar u7=u7/\(0<=u7/\u7<(k0:Int))/\(∀w7:Nat,g5)/\ar v7=v7/\(∃x7:Nat,b4/\d4/\v7=(x7:Int)/\aD {W with af:=λy7:Nat=>cond (Nat.beq y7 (0+Int.toNat u7)) 0 (lX W s c7 q7 y7),kinds:=λz7:Nat=>cond (Nat.beq z7 a7) k (fj W s k w6 z7),aa:=b7} {W with af:=lX W s c7 x7,kinds:=λa8:Nat=>cond (Nat.beq a8 a7) k (fj W s k w6 a8),aa:=b7} o4/\x7<=16/\16-x7<16-q7))/\(r7=false->ar e7=e7/\(0<=e7/\e7<b0)/\v5/\ar g7=g7/\(∃b8:Nat,b4/\d4/\g7=(b8:Int)/\aD {W with af:=lX W s c7 q7,kinds:=λc8:Nat=>cond (Nat.beq c8 a7) k (fj W s k w6 c8),aa:=λd8:Nat=>let e8:=Nat.beq d8 h7;let g8:=b7 d8;bK.mk (cond e8 k g8.kind) (cond e8 z6 g8.base) (cond e8 1 g8.len) (cond e8 0 g8.mark) (cond e8 7 g8.cd) (cond e8 0 g8.bL) (cond e8 s g8.from_)} {W with af:=iD W s b8,kinds:=fj W s k b8,aa:=lW W s k to b8} o4/\b8<=r4/\r4-b8<r4-w6))))/\(y6=false->z4/\tn 7 (g3/\h5/\x5/\aD {W with af:=iD W s w6,kinds:=fj W s k w6,aa:=λh8:Nat=>let k8:=Nat.beq h8 h3;let l8:=b7 h8;bK.mk (cond k8 l3 l8.kind) (cond k8 e4 l8.base) (cond k8 g4 l8.len) (cond k8 y4 l8.mark) (cond k8 k4 l8.cd) (cond k8 l4 l8.bL) l8.from_} e0 True)))))/\(w4=false->z5/\(a6=true->b5)/\(a6=false->b4/\d4/\c5/\d5/\u4/\
    (∀o8:Nat,let q8:=(o8:Int);let r8:=decide (q8<n);let u8:Int:=b6+q8;let v8:=0+Int.toNat u8;let w8:=lW W s k to o8;let x8:=Int.toNat q8;let y8:Int:=u8*16;let z8:Int:=to+q8;let a9:Int:=q8+1;let b9:=0+Int.toNat z8;o8<=r4->(r8=true->ar b6=b6/\ar u8=u8/\(0<=u8/\u8<u3)/\(∀c9:Nat,g5)/\b4/\d4/\c5/\aD {W with af:=iD W s o8,kinds:=λd9:Nat=>cond (Nat.beq d9 v8) k (fj W s k o8 d9),aa:=w8} {W with af:=lX W s x8 0,kinds:=λe9:Nat=>cond (Nat.beq e9 v8) k (fj W s k o8 e9),aa:=w8} o4/\0<=16/\(∀g9:Nat,let h9:=decide ((g9:Int)<16);let k9:Int:=y8+(g9:Int);let l9:Int:=(g9:Int)+1;g9<=16->(h9=true->ar y8=y8/\ar k9=k9/\(0<=k9/\k9<(k0:Int))/\(∀o9:Nat,g5)/\ar l9=l9/\(∃q9:Nat,b4/\d4/\l9=(q9:Int)/\aD {W with af:=λr9:Nat=>cond (Nat.beq r9 (0+Int.toNat k9)) 0 (lX W s x8 g9 r9),kinds:=λu9:Nat=>cond (Nat.beq u9 v8) k (fj W s k o8 u9),aa:=w8} {W with af:=lX W s x8 q9,kinds:=λv9:Nat=>cond (Nat.beq v9 v8) k (fj W s k o8 v9),aa:=w8} o4/\q9<=16/\16-q9<16-g9))/\(h9=false->ar z8=z8/\(0<=z8/\z8<b0)/\v5/\ar a9=a9/\(∃w9:Nat,b4/\d4/\a9=(w9:Int)/\aD {W with af:=lX W s x8 g9,kinds:=λx9:Nat=>cond (Nat.beq x9 v8) k (fj W s k o8 x9),aa:=λy9:Nat=>let z9:=Nat.beq y9 b9;let nO:=w8 y9;bK.mk (cond z9 k nO.kind) (cond z9 u8 nO.base) (cond z9 1 nO.len) (cond z9 0 nO.mark) (cond z9 7 nO.cd) (cond z9 0 nO.bL) (cond z9 s nO.from_)} {W with af:=iD W s w9,kinds:=fj W s k w9,aa:=lW W s k to w9} o4/\w9<=r4/\r4-w9<r4-o8))))/\(r8=false->z5/\tn 7 (g3/\h5/\x5/\
    aD {W with af:=iD W s o8,kinds:=fj W s k o8,aa:=λCF:Nat=>let me:=Nat.beq CF h3;let d10:=w8 CF;bK.mk (cond me l3 d10.kind) (cond me e4 d10.base) (cond me g4 d10.len) (cond me y5 d10.mark) (cond me k4 d10.cd) (cond me l4 d10.bL) d10.from_} e0 True)))))))))))
set_option maxHeartbeats 4000000 in
theorem aax:aU Tryz.prog aY 66 acb:=bf (.cons PK (.cons XV .nil)) false Tryz.call66 Tryz.func66 (λ⟨s,k,n,to,W⟩=> [.inv (adV W to n.toNat [(0,de 0),(12,de 11)] [(12,0)] 13 to),.inv (adW W s k to n.toNat [(0,de 0),(12,de 11)] [(12,0)] 15),.BK false λfr=>adX W s (aw (fr 15)).toNat [(0,de 0),(12,de 11)] [(12,0)] 17]) (V:=QO) (λ_=>by kernel_rfl) λ⟨s,k,n,to,W⟩ hp=>by
  dsimp only[H_]at hp
  dsimp only[QO,tn,ar,aD,aI,aJ,aH]
  simp only[bn,bD,eq_self,implies_true,Bool.cond_self]
  try simp only[eP]
  obtain⟨k0,k1,hr,hs,L_⟩:=hp
  refine⟨λJ=>?_,λJ=>?_⟩
  · skip
    have e:dP W s k n to=2:=by unfold dP;rw[J];rfl
    have hc:(dP W s k n to==0)=false:=by rw[e];rfl
    refine⟨e.symm,λi _=>?_,λi _=>?_,λi _=>nG ?_⟩
    · unfold lS;rw[hc];rfl
    · unfold lT;rw[hc];rfl
    · unfold kr;rw[hc];rfl
  have hb:0<=s/\s<W.al/\0<=to/\to<W.al:=by
    have h':=J
    simp only[Bool.or_eq_false_iff,decide_eq_false_iff_not]at h'
    omega
  obtain⟨s0,s1,t0,t1⟩:=hb
  have hd:(decide (s<0)||decide ((W.al:Int)<=s))=false:=by simp only[Bool.or_eq_false_iff,decide_eq_false_iff_not];omega
  have hq:iR W s=bif (W.aa s.toNat).kind==0 then 6 else 0:=by unfold iR;rw[hd];rfl
  simp only[hq]
  refine⟨λhh=>?_,λhh=>?_⟩
  · have h2:((W.aa s.toNat).kind==0)=true:=by
      cases q:(W.aa s.toNat).kind==0 with
      |true=>rfl
      |false=>rw[q]at hh;exact absurd hh (by decide)
    rw[h2]
    have e:dP W s k n to=6:=by unfold dP;rw[J,h2];rfl
    have hc:(dP W s k n to==0)=false:=by rw[e];rfl
    refine⟨e.symm,λi _=>?_,λi _=>?_,λi _=>nG ?_⟩
    · unfold lS;rw[hc];rfl
    · unfold lT;rw[hc];rfl
    · unfold kr;rw[hc];rfl
  have h2:((W.aa s.toNat).kind==0)=false:=by
    cases q:(W.aa s.toNat).kind==0 with
    |false=>rfl
    |true=>rw[q]at hh;exact absurd hh (by decide)
  refine⟨⟨s0,s1⟩,λ_=>⟨t0,by decide,dA (by omega) (by omega)⟩,λ_=>⟨by omega,by omega⟩,λh3=>?_,λh3=>?_⟩
  · skip
    have e:dP W s k n to=3:=by unfold dP;rw[J,h2,h3];rfl
    have hc:(dP W s k n to==0)=false:=by rw[e];rfl
    refine⟨e.symm,λi _=>?_,λi _=>?_,λi _=>nG ?_⟩
    · unfold lS;rw[hc];rfl
    · unfold lT;rw[hc];rfl
    · unfold kr;rw[hc];rfl
  have cK:(W.aa s.toNat).kind=1:=by
    have h':=h3
    simp only[Bool.or_eq_false_iff,bne_eq_false_iff_eq]at h'
    exact h'.1.1.1
  obtain⟨b0,m0,m1,l0,bl⟩:=L_ s.toNat (by omega) cK
  refine⟨λ_=>⟨t0,by decide⟩,λhh=>by
      simp only[Bool.or_eq_false_iff,decide_eq_false_iff_not]at hh
      exact dA (by omega) (by omega),λh4=>?_,λh4=>?_⟩
  · skip
    have e:dP W s k n to=2:=by unfold dP;rw[J,h2,h3,h4];rfl
    have hc:(dP W s k n to==0)=false:=by rw[e];rfl
    refine⟨e.symm,λi _=>?_,λi _=>?_,λi _=>nG ?_⟩
    · unfold lS;rw[hc];rfl
    · unfold lT;rw[hc];rfl
    · unfold kr;rw[hc];rfl
  have hn:1<=n/\to%16+n<=16:=by
    have h':=h4
    simp only[Bool.or_eq_false_iff,decide_eq_false_iff_not]at h'
    omega
  have tn:to+n<=W.al:=by omega
  refine⟨by omega,λv hv=>⟨dA (by omega) (by omega),λh5=>⟨⟨by omega,by have:=of_decide_eq_true h5;omega⟩,λh6=>?_,λh6=>?_⟩,λh5=>?_⟩⟩
  · have h5:=of_decide_eq_true h5
    rw[show(to+(v:Int)).toNat=to.toNat+v by omega]at h6
    have hT:B6 W n to=true:=qt.2 ⟨v,by omega,h6⟩
    have e:dP W s k n to=12:=by unfold dP;rw[J,h2,h3,h4,hT];rfl
    have hc:(dP W s k n to==0)=false:=by rw[e];rfl
    refine⟨e.symm,λi _=>?_,λi _=>?_,λi _=>nG ?_⟩
    · unfold lS;rw[hc];rfl
    · unfold lT;rw[hc];rfl
    · unfold kr;rw[hc];rfl
  · have h5:=of_decide_eq_true h5
    rw[show(to+(v:Int)).toNat=to.toNat+v by omega]at h6
    exact⟨dA (by omega) (by omega),v+1,by omega,⟨by omega,jU (p:=λi=>(W.aa (to.toNat+i)).kind !=0) hv.2 h6⟩,by omega⟩
  have h5:=of_decide_eq_false h5
  have hT:B6 W n to=false:=nY.2 λi hi=>hv.2 i (by omega)
  have cj: ∀m:Nat,m<=n.toNat->s.toNat<to.toNat\/to.toNat+m<=s.toNat:=λm hm=>by
    rcases Nat.lt_or_ge s.toNat to.toNat with h|h
    · exact .inl h
    rcases Nat.lt_or_ge s.toNat (to.toNat+m)with h'|h'
    · have:=hv.2 (s.toNat -to.toNat) (by omega)
      rw[show to.toNat+(s.toNat -to.toNat)=s.toNat by omega,cK]at this
      exact absurd this (by decide)
    · exact .inr h'
  refine⟨by omega,λh6=>?_,λh6=>?_⟩
  · have hf:uL W.al W.aa s=false:=by simpa using h6
    have hU:kh W s=0:=by unfold kh;rw[hf];rfl
    have eF: ∀m:Nat,((W.aa s.toNat).base+0+(m:Int)).toNat=iJ W s+m:=λm=>by unfold iJ;rw[hU];omega
    refine⟨dA (by omega) (by omega),λh7=>?_,λh7=>?_⟩
    · have p7:decide ((W.aa s.toNat).len<kh W s+n)=true:=decide_eq_true (by have:=of_decide_eq_true h7;rw[hU];omega)
      have e:dP W s k n to=5:=by unfold dP;rw[J,h2,h3,h4,hT,p7];rfl
      have hc:(dP W s k n to==0)=false:=by rw[e];rfl
      refine⟨e.symm,λi _=>?_,λi _=>?_,λi _=>nG ?_⟩
      · unfold lS;rw[hc];rfl
      · unfold lT;rw[hc];rfl
      · unfold kr;rw[hc];rfl
    have p7:decide ((W.aa s.toNat).len<kh W s+n)=false:=decide_eq_false (by have:=of_decide_eq_false h7;rw[hU];omega)
    have hE:dP W s k n to=0:=by unfold dP;rw[J,h2,h3,h4,hT,p7];rfl
    have hlen:=of_decide_eq_false h7
    refine⟨⟨λi _=>Uu.symm,λi _=>Uv.symm,λi _=>nG Uw.symm⟩,λm hm=>⟨λh8=>?_,λh8=>?_⟩⟩
    · have iH:=of_decide_eq_true h8
      have hF:=eF m
      refine⟨dA (by omega) (by omega),dA (by omega) (by omega),⟨by omega,by omega⟩,λi _=>Ux.symm,λc agZ=>⟨λh9=>?_,λh9=>?_⟩⟩
      · have dx:=of_decide_eq_true h9
        have eR:(((W.aa s.toNat).base+0+(m:Int))*16+(c:Int)).toNat=(iJ W s+m)*16+c:=by omega
        refine⟨dA (by omega) (by omega),dA (by omega) (by omega),⟨by omega,by omega⟩,dA (by omega) (by omega),c+1,by omega,λi _=>?_,by omega,by omega⟩
        rw[eR];exact S_
      · have hce:=of_decide_eq_false h9
        obtain rfl:c=16:=by omega
        refine⟨dA (by omega) (by omega),⟨by omega,by omega⟩,dA (by omega) (by omega),m+1,by omega,⟨λi _=>Ta,λi _=>?_,λi _=>?_⟩,by omega,by omega⟩
        · rw[eF m];exact S9
        · skip
          rw[show(to+(m:Int)).toNat=to.toNat+m by omega]
          refine T_ (x:=⟨k,(W.aa s.toNat).base+0+m,1,0,7,0,s⟩) ?_
          rw[<-Tb]
          rcases Decidable.em (i=to.toNat+m)with e|e
          · subst e
            rw[Nat.beq_refl]
            show(⟨k,(W.aa s.toNat).base+0+m,1,0,7,0,s⟩:bK)=Av W s k to (to.toNat+m)
            unfold Av
            rw[show((iJ W s:Int)+(((to.toNat+m:Nat):Int) -to))=(W.aa s.toNat).base+0+m by have:=eF 0;omega]
          · rw[fD e];rfl
    · have hme:=of_decide_eq_false h8
      obtain rfl:m=n.toNat:=by omega
      have eX: ∀i,kr W s k n to i=uM W s k n to i:=λi=>by unfold kr;rw[hE];rfl
      have en:lW W s k to n.toNat s.toNat=W.aa s.toNat:=QN (cj _ (Nat.le_refl _))
      refine⟨dA (by omega) (by omega),⟨s0,s1⟩,hE.symm,λi _=>?_,λi _=>?_,λi _=>?_⟩
      · unfold lS;rw[hE];rfl
      · unfold lT;rw[hE];rfl
      · rw[eX];unfold uM
        rcases Decidable.em (i=s.toNat)with e|e
        · subst e
          simp only[Nat.beq_refl,cond_true,aZ,en,hU]
          repeat' (first|exact trivial|rfl|refine And.intro ?_ ?_)
        · simp only[fD e,cond_false,bh e]
          repeat' (first|exact trivial|rfl|refine And.intro ?_ ?_)
  · have hf:uL W.al W.aa s=true:=by simpa using h6
    have hU:kh W s=(W.aa s.toNat).mark:=by unfold kh;rw[hf];rfl
    have eF: ∀m:Nat,((W.aa s.toNat).base+(W.aa s.toNat).mark+(m:Int)).toNat=iJ W s+m:=λm=>by unfold iJ;rw[hU];omega
    refine⟨dA (by omega) (by omega),λh7=>?_,λh7=>?_⟩
    · have p7:decide ((W.aa s.toNat).len<kh W s+n)=true:=decide_eq_true (by have:=of_decide_eq_true h7;rw[hU];omega)
      have e:dP W s k n to=5:=by unfold dP;rw[J,h2,h3,h4,hT,p7];rfl
      have hc:(dP W s k n to==0)=false:=by rw[e];rfl
      refine⟨e.symm,λi _=>?_,λi _=>?_,λi _=>nG ?_⟩
      · unfold lS;rw[hc];rfl
      · unfold lT;rw[hc];rfl
      · unfold kr;rw[hc];rfl
    have p7:decide ((W.aa s.toNat).len<kh W s+n)=false:=decide_eq_false (by have:=of_decide_eq_false h7;rw[hU];omega)
    have hE:dP W s k n to=0:=by unfold dP;rw[J,h2,h3,h4,hT,p7];rfl
    have hlen:=of_decide_eq_false h7
    refine⟨⟨λi _=>Uu.symm,λi _=>Uv.symm,λi _=>nG Uw.symm⟩,λm hm=>⟨λh8=>?_,λh8=>?_⟩⟩
    · have iH:=of_decide_eq_true h8
      have hF:=eF m
      refine⟨dA (by omega) (by omega),dA (by omega) (by omega),⟨by omega,by omega⟩,λi _=>Ux.symm,λc agZ=>⟨λh9=>?_,λh9=>?_⟩⟩
      · have dx:=of_decide_eq_true h9
        have eR:(((W.aa s.toNat).base+(W.aa s.toNat).mark+(m:Int))*16+(c:Int)).toNat=(iJ W s+m)*16+c:=by omega
        refine⟨dA (by omega) (by omega),dA (by omega) (by omega),⟨by omega,by omega⟩,dA (by omega) (by omega),c+1,by omega,λi _=>?_,by omega,by omega⟩
        rw[eR];exact S_
      · have hce:=of_decide_eq_false h9
        obtain rfl:c=16:=by omega
        refine⟨dA (by omega) (by omega),⟨by omega,by omega⟩,dA (by omega) (by omega),m+1,by omega,⟨λi _=>Ta,λi _=>?_,λi _=>?_⟩,by omega,by omega⟩
        · rw[eF m];exact S9
        · skip
          rw[show(to+(m:Int)).toNat=to.toNat+m by omega]
          refine T_ (x:=⟨k,(W.aa s.toNat).base+(W.aa s.toNat).mark+m,1,0,7,0,s⟩) ?_
          rw[<-Tb]
          rcases Decidable.em (i=to.toNat+m)with e|e
          · subst e
            rw[Nat.beq_refl]
            show(⟨k,(W.aa s.toNat).base+(W.aa s.toNat).mark+m,1,0,7,0,s⟩:bK)=Av W s k to (to.toNat+m)
            unfold Av
            rw[show((iJ W s:Int)+(((to.toNat+m:Nat):Int) -to))=(W.aa s.toNat).base+(W.aa s.toNat).mark+m by have:=eF 0;omega]
          · rw[fD e];rfl
    · have hme:=of_decide_eq_false h8
      obtain rfl:m=n.toNat:=by omega
      have eX: ∀i,kr W s k n to i=uM W s k n to i:=λi=>by unfold kr;rw[hE];rfl
      have en:lW W s k to n.toNat s.toNat=W.aa s.toNat:=QN (cj _ (Nat.le_refl _))
      refine⟨dA (by omega) (by omega),⟨s0,s1⟩,hE.symm,λi _=>?_,λi _=>?_,λi _=>?_⟩
      · unfold lS;rw[hE];rfl
      · unfold lT;rw[hE];rfl
      · rw[eX];unfold uM
        rcases Decidable.em (i=s.toNat)with e|e
        · subst e
          simp only[Nat.beq_refl,cond_true,aZ,en,hU]
          repeat' (first|exact trivial|rfl|refine And.intro ?_ ?_)
        · simp only[fD e,cond_false,bh e]
          repeat' (first|exact trivial|rfl|refine And.intro ?_ ?_)
end Go.Proofs.YthgmgkabnffniaaGreatDoor
set_option linter.unusedVariables false
set_option linter.unusedSimpArgs false
set_option maxRecDepth 100000
namespace Go.Proofs.YthgmgkabnffniaaGreatDoor
open Go.RowKit Go.Sy
theorem adS {a n i:Nat} (h: ¬(a<=i/\i<a+n)):cm a n i=false:=by
  cases e:cm a n i with
  |false=>rfl
  |true=>exact absurd (gH.1 e) h
theorem vR {s:bK} {f:Nat}:bW s f=true↔s.kind=1/\s.base<=f/\(f:Int)<s.base+s.len:=by
  unfold bW
  simp only[Bool.and_eq_true,beq_iff_eq,decide_eq_true_eq,and_assoc]
theorem A7 {s:bK} {f:Nat}:cE s f=true↔s.kind≠1/\s.kind≠0/\s.base=f:=by
  unfold cE
  simp only[Bool.and_eq_true,beq_iff_eq,bne_iff_ne,and_assoc]
theorem yi {s:bK} {f:Nat}:iP s f=true↔bW s f=true/\s.base+s.mark<=f:=by
  unfold iP
  simp only[Bool.and_eq_true,decide_eq_true_eq]
theorem XT {k b l m r g:Int} (h:dX k b l m r g=0) (hk:k=1):1<=l/\0<=m/\m<=l/\b+l<=24:=by
  unfold dX sI sJ az at h
  simp only[cond_eq_ite,bne,Bool.or_eq_true,Bool.and_eq_true,Bool.not_eq_true',decide_eq_true_eq,beq_iff_eq,beq_eq_false_iff_ne]at h
  repeat' split at h
  all_goals first|(cases h;done)|omega
theorem DD {s:bK} (h:fi s=0) (hk:s.kind=1):1<=s.len/\0<=s.mark/\s.mark<=s.len/\s.base+s.len<=24:=XT h hk
theorem GI {b l m m' r g:Int} (h:dX 1 b l m r g=0) (hm:0<=m'/\m'<=l):dX 1 b l m' r g=0:=by
  unfold dX sI sJ az at h⊢
  simp only[cond_eq_ite,bne,Bool.or_eq_true,Bool.and_eq_true,Bool.not_eq_true',decide_eq_true_eq,beq_iff_eq,beq_eq_false_iff_ne]at h⊢
  repeat' split at h
  all_goals first|(cases h;done)|skip
  all_goals (repeat' split)
  all_goals first|rfl|omega
theorem Y2 {k b:Int} (hk:2<=k/\k<=8) (hb:0<=b/\b<24):dX k b 1 0 7 0=0:=by
  unfold dX sI sJ az
  simp only[cond_eq_ite,bne,Bool.or_eq_true,Bool.and_eq_true,Bool.not_eq_true',decide_eq_true_eq,beq_iff_eq,beq_eq_false_iff_ne]
  repeat' split
  all_goals first|rfl|omega
theorem KG.one {P:Nat->Prop} {W:Wd} (h:KG P W) {f a b:Nat} (hf:f<W.aj) (ha:a<W.al) (hb:b<W.al) (J:bW (W.aa a) f=true) (h2:bW (W.aa b) f=true):a=b:=by
  have:=h.cl f hf
  rcases Nat.lt_trichotomy a b with e|e|e
  · have:=Ef (p:=λi=>bW (W.aa i) f) e hb J h2;omega
  · exact e
  · have:=Ef (p:=λi=>bW (W.aa i) f) e ha h2 J;omega
theorem KG.Us {P:Nat->Prop} {W:Wd} (h:KG P W) {S:Nat} (hS:S<W.al) (hk:(W.aa S).kind=1):(W.aa S).from_= -1:=by
  rcases h.s2 S hS (by omega)with e|⟨_,e⟩
  · exact e
  · obtain⟨_,⟨_,a,_⟩|⟨a,b,_⟩⟩:=om.1 e
    · exact absurd hk a
    · omega
theorem KG.bare {P:Nat->Prop} {W:Wd} (h:KG P W) {S:Nat} (hS:S<W.al) (hn: ∀i,i<W.al->(W.aa i).from_≠(S:Int)) {f:Nat} (hf:f<W.aj) (hc:bW (W.aa S) f=true):W.kinds f=0:=by
  refine Classical.byContradiction λh0=>?_
  obtain⟨r,hr⟩:=h.rk
  have key: ∀m i,r i<m->i<W.al->cE (W.aa i) f=true->False:=by
    intro m
    induction m with
    |zero=>intro i hi;exact absurd hi (Nat.not_lt_zero _)
    |succ m ih=>
     intro i hm hi hk
     obtain⟨k1,k2,k3⟩:=A7.1 hk
     have oQ:=h.ex i hi k2 k1 S hS (by rw[k3,Int.toNat_natCast];exact hc)
     obtain⟨_,a_,hp,Cy⟩:=h.full hi oQ
     have av:=hr i hi a_.1
     have WR:(W.aa i).from_.toNat<W.al:=by omega
     obtain⟨p0,⟨p1,_,p3,p4⟩|⟨p1,p2,p3,_⟩⟩:=om.1 Cy
     · have sc:=DD p0 p1
       have:(W.aa i).from_.toNat=S:=h.one hf WR hS (vR.2 ⟨p1,by omega,by omega⟩) hc
       exact hn i hi (by omega)
     · exact ih _ (by omega) WR (A7.2 ⟨p1,hp,by omega⟩)
  have hky:=(h.ky f hf h0).1
  have:bx W.al (λi=>cE (W.aa i) f)=0:=mY.2 λi hi=>by
    cases e:cE (W.aa i) f with
    |false=>rfl
    |true=>exact(key (r i+1) i (by omega) hi e).elim
  omega
theorem KG.mk' {W:Wd} {S n to F:Nat} {u k:Int} {R:Nat->Int} (h:KG (λ_=>False) W) (hS:S<W.al) (nW:(W.aa S).kind=1) (hk:2<=k/\k<=8) (hn:1<=n) (hto:to%16+n<=16) (aiH:to<W.al) (jL:W.kinds (to/16)=5)
    (o_: ∀i,i<n->(W.aa (to+i)).kind=0) (hu:u=(W.aa S).mark\/(u=0/\ ∀i,i<W.al->(W.aa i).from_≠(S:Int))) (mE:u+n<=(W.aa S).len) (hF:(F:Int)=(W.aa S).base+u):
    KG (λ_=>False) {W with af:=R,kinds:=λf=>bif cm F n f then k else W.kinds f,aa:=ah (λi=>bif cm to n i then⟨k,(F:Int)+((i:Int) -to),1,0,7,0,S⟩else W.aa i) S {W.aa S with mark:=u+n}}:=by
  have z:=h.z
  have zs:=z.aa
  have z1:=z.k1
  obtain⟨s1,s2,s3,_⟩:=h.s1 S hS (by omega)
  have s1:=s1.resolve_right id
  have sc:=DD s2 nW
  have sr:=kN s2
  have hu0:0<=u:=by rcases hu with e|⟨e,_⟩<;>omega
  have nS: ∀{i},cm to n i=true->i≠S:=λ{i} hi e=>by
    have:=gH.1 hi
    have g:=o_ (i -to) (by omega)
    rw[show to+(i -to)=i by omega,e,nW]at g
    exact absurd g (by decide)
  have L8: ∀f,cm F n f=true->f<W.aj/\W.kinds f=0/\bW (W.aa S) f=true:=λf hf=>by
    have hf:=gH.1 hf
    have av:f<W.aj:=by omega
    have hc:bW (W.aa S) f=true:=vR.2 ⟨nW,by omega,by omega⟩
    refine⟨av,?_,hc⟩
    rcases hu with e|⟨_,e⟩
    · refine Classical.byContradiction λh0=>?_
      have:=(h.ky f av h0).2 S hS
      rw[yi.2 ⟨hc,by omega⟩]at this
      cases this
    · exact h.bare hS e av hc
  have eN: ∀{i},cm to n i=true->ah (λi=>bif cm to n i then(⟨k,(F:Int)+((i:Int) -to),1,0,7,0,S⟩:bK)else W.aa i) S {W.aa S with mark:=u+n} i=⟨k,(F:Int)+((i:Int) -to),1,0,7,0,S⟩:=λ{i} hi=>by
    rw[bh (nS hi),hi];rfl
  have eS:ah (λi=>bif cm to n i then(⟨k,(F:Int)+((i:Int) -to),1,0,7,0,S⟩:bK)else W.aa i) S {W.aa S with mark:=u+n} S={W.aa S with mark:=u+n}:=aZ
  have eO: ∀{i},cm to n i=false->i≠S->ah (λi=>bif cm to n i then(⟨k,(F:Int)+((i:Int) -to),1,0,7,0,S⟩:bK)else W.aa i) S {W.aa S with mark:=u+n} i=W.aa i:=λ{i} hi hs=>by
    rw[bh hs,hi];rfl
  generalize hT:ah (λi=>bif cm to n i then(⟨k,(F:Int)+((i:Int) -to),1,0,7,0,S⟩:bK)else W.aa i) S {W.aa S with mark:=u+n}=T at*
  have three: ∀i,cm to n i=true\/(cm to n i=false/\i=S)\/(cm to n i=false/\i≠S):=λi=>by
    cases e:cm to n i with
    |true=>exact .inl rfl
    |false=>exact .inr ((Decidable.em (i=S)).elim (λg=> .inl ⟨rfl,g⟩) λg=> .inr ⟨rfl,g⟩)
  have nf: ∀{i},i<W.al-> ∀{j},cm to n j=true->(W.aa i).from_≠(j:Int):=λ{i} hi {j} hj e=>by
    obtain⟨_,_,c,_⟩:=h.full hi (by omega)
    have:=gH.1 hj
    have g:=o_ (j -to) (by omega)
    rw[show to+(j -to)=j by omega]at g
    rw[e,Int.toNat_natCast]at c
    exact c g
  have kk: ∀f,W.kinds f≠0->f<W.aj->(bif cm F n f then k else W.kinds f)=W.kinds f:=λf h0 hf=>by
    cases e:cm F n f with
    |false=>rfl
    |true=>exact absurd (L8 f e).2.1 h0
  have L9: ∀i f,i<W.al->bW (T i) f=bW (W.aa i) f:=λi f hi=>by
    rcases three i with e|⟨e,g⟩|⟨e,g⟩
    · have:=gH.1 e
      have g:=o_ (i -to) (by omega)
      rw[show to+(i -to)=i by omega]at g
      rw[eN e]
      unfold bW
      rw[g]
      show((k==1)&&_&&_)=_
      rw[beq_eq_false_iff_ne.2 (show k≠1 by omega)];rfl
    · subst g;rw[eS];rfl
    · rw[eO e g]
  refine⟨z.cg rfl rfl,λf hf=>?_,λi hi ct=>?_,λi hi ct=>?_,λi hi ct=>?_,?_,λf hf=>?_,λf hf h0=>⟨?_,λi hi=>?_⟩,λi hi ct cK c hc dx=>?_⟩
  · show 0<=(bif cm F n f then k else W.kinds f)/\(bif cm F n f then k else W.kinds f)<=8/\(bif cm F n f then k else W.kinds f)≠1
    cases e:cm F n f with
    |true=>exact⟨by show 0<=k;omega,hk.2,by show k≠1;omega⟩
    |false=>exact h.kd f hf
  · have hi:i<W.al:=hi
    have ct:(T i).kind=0:=ct
    show T i=f_
    rcases three i with e|⟨e,g⟩|⟨e,g⟩
    · rw[eN e]at ct;have ct:k=0:=ct;omega
    · subst g;rw[eS]at ct;have ct:(W.aa i).kind=0:=ct;omega
    · rw[eO e g]at ct⊢;exact h.e0 i hi ct
  · have hi:i<W.al:=hi
    have ct:(T i).kind≠0:=ct
    show((bif cm F n (i/16)then k else W.kinds (i/16))=5\/False)/\fi (T i)=0/\(T i).base+(T i).len<=W.aj/\((T i).kind=1\/(bif cm F n (T i).base.toNat then k else W.kinds (T i).base.toNat)=(T i).kind)
    rcases three i with e|⟨e,g⟩|⟨e,g⟩
    · have hr:=gH.1 e
      have rZ:i/16=to/16:=by omega
      rw[eN e,rZ,kk _ (by rw[jL];decide) (by omega)]
      refine⟨.inl jL,show dX k ((F:Int)+((i:Int) -to)) 1 0 7 0=0 from Y2 hk (by omega),?_,.inr ?_⟩
      · show(F:Int)+((i:Int) -to)+1<=_;omega
      · show(bif cm F n ((F:Int)+((i:Int) -to)).toNat then k else _)=k
        rw[gH.2 (by omega)];rfl
    · subst g
      rw[eS]
      refine⟨.inl ?_,?_,s3,.inl nW⟩
      · rw[kk _ (by rw[s1];decide) (by omega)];exact s1
      · have vt:dX (W.aa i).kind (W.aa i).base (W.aa i).len (W.aa i).mark (W.aa i).cd (W.aa i).bL=0:=s2
        show dX (W.aa i).kind (W.aa i).base (W.aa i).len (u+n) (W.aa i).cd (W.aa i).bL=0
        rw[nW]at vt⊢
        exact GI vt ⟨by omega,mE⟩
    · rw[eO e g]at ct⊢
      obtain⟨a,b,c,d⟩:=h.s1 i hi ct
      have a:=a.resolve_right id
      refine⟨.inl ?_,b,c,d.imp_right λd=>?_⟩
      · rw[kk _ (by rw[a];decide) (by omega)];exact a
      · have br:=kN b
        have av:(W.aa i).base.toNat<W.aj\/ ¬(W.aa i).base.toNat<W.aj:=Decidable.em _
        rcases av with q|q
        · rw[kk _ (by rw[d];exact ct) q];exact d
        · rw[adS λq2=>q (L8 _ (gH.2 q2)).1];exact d
  · have hi:i<W.al:=hi
    have ct:(T i).kind≠0:=ct
    show(T i).from_= -1\/((0<=(T i).from_/\(T i).from_<W.al)/\eG (T i) (T (T i).from_.toNat)=true)
    rcases three i with e|⟨e,g⟩|⟨e,g⟩
    · have hr:=gH.1 e
      rw[eN e]
      refine .inr ⟨⟨Int.natCast_nonneg _,by show(S:Int)<_;omega⟩,?_⟩
      show eG _ (T (S:Int).toNat)=true
      rw[Int.toNat_natCast,eS]
      have vt:dX (W.aa S).kind (W.aa S).base (W.aa S).len (W.aa S).mark (W.aa S).cd (W.aa S).bL=0:=s2
      refine om.2 ⟨?_,.inl ⟨nW,?_,?_,?_⟩⟩
      · show dX (W.aa S).kind (W.aa S).base (W.aa S).len (u+n) (W.aa S).cd (W.aa S).bL=0
        rw[nW]at vt⊢
        exact GI vt ⟨by omega,mE⟩
      · show k≠1;omega
      · show(W.aa S).base<=(F:Int)+((i:Int) -to);omega
      · show(F:Int)+((i:Int) -to) -(W.aa S).base<u+n;omega
    · subst g
      rw[eS]
      exact .inl (h.Us hS nW)
    · rw[eO e g]at ct⊢
      refine(h.s2 i hi ct).imp_right λq=>⟨q.1,?_⟩
      obtain⟨q1,q2⟩:=q
      have hnr:cm to n (W.aa i).from_.toNat=false:=by
        cases e2:cm to n (W.aa i).from_.toNat with
        |false=>rfl
        |true=>exact absurd (show(W.aa i).from_=((W.aa i).from_.toNat:Nat) by omega) (nf hi e2)
      rcases Decidable.em ((W.aa i).from_.toNat=S)with e2|e2
      · rw[e2]at q2⊢
        rw[eS]
        have um:u=(W.aa S).mark:=hu.resolve_right λq=>q.2 i hi (by omega)
        obtain⟨_,⟨m1,m2,m3,m4⟩|⟨m1,_⟩⟩:=om.1 q2
        · have vt:dX (W.aa S).kind (W.aa S).base (W.aa S).len (W.aa S).mark (W.aa S).cd (W.aa S).bL=0:=s2
          refine om.2 ⟨?_,.inl ⟨nW,m2,m3,?_⟩⟩
          · show dX (W.aa S).kind (W.aa S).base (W.aa S).len (u+n) (W.aa S).cd (W.aa S).bL=0
            rw[nW]at vt⊢
            exact GI vt ⟨by omega,mE⟩
          · show(W.aa i).base -(W.aa S).base<u+n;omega
        · exact absurd nW m1
      · rw[eO hnr e2];exact q2
  · obtain⟨r,hr⟩:=h.rk
    refine⟨λi=>bif cm to n i then r S+1 else r i,λi hi h0=>?_⟩
    have hi:i<W.al:=hi
    have h0:0<=(T i).from_:=h0
    show(bif cm to n (T i).from_.toNat then r S+1 else r (T i).from_.toNat)<bif cm to n i then r S+1 else r i
    have hSn:cm to n S=false:=by
      cases e:cm to n S with
      |false=>rfl
      |true=>exact absurd rfl (nS e)
    rcases three i with e|⟨e,g⟩|⟨e,g⟩
    · rw[eN e,e]
      show(bif cm to n (S:Int).toNat then r S+1 else r (S:Int).toNat)<r S+1
      rw[Int.toNat_natCast,hSn];exact Nat.lt_succ_self _
    · subst g
      rw[eS]at h0
      have h0:0<=(W.aa i).from_:=h0
      have:=h.Us hS nW
      omega
    · rw[eO e g]at h0⊢
      rw[e]
      cases e2:cm to n (W.aa i).from_.toNat with
      |true=>exact absurd (show(W.aa i).from_=((W.aa i).from_.toNat:Nat) by omega) (nf hi e2)
      |false=>exact hr i hi h0
  · show bx W.al (λi=>bW (T i) f)<=1
    rw[jA λi hi=>L9 i f hi];exact h.cl f hf
  · have hf:f<W.aj:=hf
    have h0:(bif cm F n f then k else W.kinds f)≠0:=h0
    show 0<bx W.al (λi=>cE (T i) f)
    cases e:cm F n f with
    |true=>
     have hr:=gH.1 e
     have a_:cm to n (to+(f -F))=true:=gH.2 (by omega)
     refine uc (i:=to+(f -F)) (by omega) ?_
     rw[eN a_]
     refine A7.2 ⟨by show k≠1;omega,by show k≠0;omega,?_⟩
     show(F:Int)+(((to+(f -F):Nat):Int) -to)=f
     omega
    |false=>
     rw[e]at h0
     obtain⟨a,_⟩:=h.ky f hf h0
     refine Nat.pos_of_ne_zero λhz=>?_
     have:bx W.al (λi=>cE (W.aa i) f)=0:=mY.2 λi hi=>by
       have q:=mY.1 hz i hi
       rcases three i with e|⟨e,g⟩|⟨e,g⟩
       · have:=gH.1 e
         have g:=o_ (i -to) (by omega)
         rw[show to+(i -to)=i by omega]at g
         unfold cE
         rw[g];rfl
       · subst g;unfold cE;rw[nW];rfl
       · rw[eO e g]at q;exact q
     omega
  · have hf:f<W.aj:=hf
    have hi:i<W.al:=hi
    have h0:(bif cm F n f then k else W.kinds f)≠0:=h0
    show iP (T i) f=false
    cases q:iP (T i) f with
    |false=>rfl
    |true=>
     exfalso
     obtain⟨q1,q2⟩:=yi.1 q
     rw[L9 i f hi]at q1
     cases e:cm F n f with
     |true=>
      obtain⟨_,_,c3⟩:=L8 f e
      obtain rfl:=h.one hf hi hS q1 c3
      rw[eS]at q2
      have q2:(W.aa i).base+(u+n)<=f:=q2
      have:=gH.1 e
      omega
     |false=>
      rw[e]at h0
      have cj:=(h.ky f hf h0).2 i hi
      rcases Decidable.em (i=S)with g|g
      · subst g
        rw[eS]at q2
        have q2:(W.aa i).base+(u+n)<=f:=q2
        rcases hu with e2|⟨_,e2⟩
        · rw[yi.2 ⟨q1,by omega⟩]at cj;cases cj
        · exact h0 (h.bare hS e2 hf q1)
      · cases e3:cm to n i with
        |true=>
         have:=gH.1 e3
         have g:=o_ (i -to) (by omega)
         rw[show to+(i -to)=i by omega]at g
         have:=(vR.1 q1).1
         omega
        |false=>
         rw[eO e3 g]at q2
         rw[yi.2 ⟨q1,q2⟩]at cj;cases cj
  · have hi:i<W.al:=hi
    have hc:c<W.al:=hc
    have ct:(T i).kind≠0:=ct
    have cK:(T i).kind≠1:=cK
    have dx:bW (T c) (T i).base.toNat=true:=dx
    show(T i).from_≠ -1
    rw[L9 c _ hc]at dx
    rcases three i with e|⟨e,g⟩|⟨e,g⟩
    · rw[eN e];show(S:Int)≠ -1;omega
    · subst g;rw[eS]at cK;exact absurd nW cK
    · rw[eO e g]at ct cK dx⊢;exact h.ex i hi ct cK c hc dx
end Go.Proofs.YthgmgkabnffniaaGreatDoor
set_option linter.unusedVariables false
set_option linter.unusedSimpArgs false
set_option maxRecDepth 100000
namespace Go.Proofs.YthgmgkabnffniaaGreatDoor
open Go.RowKit Go.Sy
theorem KG.other {P:Nat->Prop} {W W':Wd} (h:KG P W) (ec:fh W'=fh W) (et:W'.time=W.time) (e1:W'.kinds=W.kinds) (e2:W'.aa=W.aa):KG P W':=by
  have rq:=ec
  simp only[fh,List.cons.injEq,and_true]at rq
  obtain⟨c1,c2,c3,_⟩:=rq
  refine⟨h.z.cg ec et,?_,?_,?_,?_,?_,?_,?_,?_⟩
  · rw[c2,e1];exact h.kd
  · rw[c3,e2];exact h.e0
  · rw[c2,c3,e1,e2];exact h.s1
  · rw[c3,e2];exact h.s2
  · rw[c3,e2];exact h.rk
  · rw[c2,c3,e2];exact h.cl
  · rw[c2,c3,e1,e2];exact h.ky
  · rw[c3,e2];exact h.ex
theorem KG.rel {P:Nat->Prop} {W:Wd} {f:Nat} (h:KG (λg=>P g\/g=f) W) (he: ∀i,i<W.al->i/16=f->(W.aa i).kind=0):KG P W:=
  ⟨h.z,h.kd,h.e0,λi hi hk=>by
    obtain⟨a,b⟩:=h.s1 i hi hk
    refine⟨?_,b⟩
    rcases a with a|a|a
    · exact .inl a
    · exact .inr a
    · exact absurd (he i hi a) hk,h.s2,h.rk,h.cl,h.ky,h.ex⟩
theorem ab' {k p q:Nat} (J:p&&&k=k) (h2:q&&&p=p):q&&&k=k:=by
  rw[<-J,<-Nat.and_assoc,h2]
theorem aca {k s p:bK} (hs:fi s=0) (hk:fi k=0) (J:eG k s=true) (h2:eG s p=true):eG k p=true:=by
  obtain⟨_,⟨a1,a2,a3,a4⟩|⟨a1,a2,a3,a4,a5⟩⟩:=om.1 J
  · exfalso
    obtain⟨_,⟨_,b2,_⟩|⟨b1,b2,_⟩⟩:=om.1 h2
    · exact b2 a1
    · omega
  · obtain⟨p0,⟨b1,b2,b3,b4⟩|⟨b1,b2,b3,b4,b5⟩⟩:=om.1 h2
    · exact om.2 ⟨p0,.inl ⟨b1,by omega,by omega,by omega⟩⟩
    · refine om.2 ⟨p0,.inr ⟨b1,by omega,by omega,?_,?_⟩⟩
      · rcases b4 with e|e
        · exact .inl e
        · rcases a4 with e2|e2
          · exact .inl (by omega)
          · exact .inr (by omega)
      · have r1:=kN hs
        have r2:=kN hk
        have e1:s.cd.toNat&&&k.cd.toNat=k.cd.toNat:=by omega
        have e2:p.cd.toNat&&&s.cd.toNat=s.cd.toNat:=by omega
        rw[ab' e1 e2];omega
theorem KG.Wz {P:Nat->Prop} {W:Wd} {s:Nat} (h:KG P W) (hs:s<W.al) (hk:(W.aa s).kind≠0) (last:Bool)
    (hl:last=true->(W.aa s).kind≠1/\ ∀i,i<W.al->i≠s->(W.aa i).kind=(W.aa s).kind->(W.aa i).base≠(W.aa s).base)
    (Vb:last=false->(W.aa s).kind=1\/ ∃i,i<W.al/\i≠s/\(W.aa i).kind=(W.aa s).kind/\(W.aa i).base=(W.aa s).base):
    KG (λg=>P g\/(last=true/\g=(W.aa s).base.toNat)) {W with aa:=ah (λj=>cp s (W.aa s).from_ (W.aa j)) s f_,kinds:=bif last then ah W.kinds (W.aa s).base.toNat 0 else W.kinds}:=by
  have z:=h.z
  obtain⟨r,hr⟩:=h.rk
  obtain⟨_,t2,t3,t4⟩:=h.s1 s hs hk
  have tr:=kN t2
  have eS:ah (λj=>cp s (W.aa s).from_ (W.aa j)) s f_ s=f_:=aZ
  have eN: ∀{i},i≠s->ah (λj=>cp (s:Int) (W.aa s).from_ (W.aa j)) s f_ i=cp s (W.aa s).from_ (W.aa i):=λhi=>bh hi
  generalize hT:ah (λj=>cp (s:Int) (W.aa s).from_ (W.aa j)) s f_=T at*
  have fs:(W.aa s).from_≠(s:Int):=λe=>by
    have:=hr s hs (by omega)
    rw[e,Int.toNat_natCast]at this;omega
  have full: ∀{i},(T i).kind≠0->i≠s:=λ{i} hi e=>by subst e;rw[eS]at hi;exact hi rfl
  have ky: ∀{i},i≠s->nV (T i) (W.aa i):=λhi=>by rw[eN hi];exact mu _ _ _
  have fr: ∀{i},i≠s->(T i).from_=bif (W.aa i).from_==(s:Int)then(W.aa s).from_ else(W.aa i).from_:=λhi=>by rw[eN hi];exact D2 _ _ _
  have kk: ∀g,last=false\/g≠(W.aa s).base.toNat->(bif last then ah W.kinds (W.aa s).base.toNat 0 else W.kinds) g=W.kinds g:=λg hg=>by
    cases last with
    |false=>rfl
    |true=>
     show ah W.kinds _ 0 g=_
     rw[bh (hg.resolve_left (by decide))]
  have ke:last=true->(bif last then ah W.kinds (W.aa s).base.toNat 0 else W.kinds) (W.aa s).base.toNat=0:=λe=>by
    rw[e]
    show ah W.kinds _ 0 _=0
    rw[aZ]
  generalize hKK:(bif last then ah W.kinds (W.aa s).base.toNat 0 else W.kinds)=K at*
  refine⟨z.cg rfl rfl,λf hf=>?_,λi hi ct=>?_,λi hi ct=>?_,λi hi ct=>?_,⟨r,λi hi h0=>?_⟩,λf hf=>?_,λf hf h0=>⟨?_,λi hi=>?_⟩,λi hi ct cK c hc dx=>?_⟩
  · show 0<=K f/\K f<=8/\K f≠1
    rcases Decidable.em (last=true/\f=(W.aa s).base.toNat)with e|e
    · rw[e.2,ke e.1];decide
    · rw[kk f (by cases last with|false=>exact .inl rfl|true=>exact .inr λe2=>e ⟨rfl,e2⟩)];exact h.kd f hf
  · have ct:(T i).kind=0:=ct
    show T i=f_
    rcases Decidable.em (i=s)with e|e
    · subst e;exact eS
    · rw[(ky e).1]at ct
      rw[eN e,h.e0 i hi ct]
      unfold cp
      rw[beq_eq_false_iff_ne.2 (show(f_.from_:Int)≠s by show(-1:Int)≠s;omega)];rfl
  · have hi:i<W.al:=hi
    have ct:(T i).kind≠0:=ct
    have e:=full ct
    show(K (i/16)=5\/(P (i/16)\/(last=true/\i/16=(W.aa s).base.toNat)))/\fi (T i)=0/\(T i).base+(T i).len<=W.aj/\((T i).kind=1\/K (T i).base.toNat=(T i).kind)
    have q:=ky e
    rw[q.no,q.1,q.2.1,q.2.2.1]
    rw[q.1]at ct
    obtain⟨a,b,c,d⟩:=h.s1 i hi ct
    refine⟨?_,b,c,?_⟩
    · rcases a with a|a
      · rcases Decidable.em (last=true/\i/16=(W.aa s).base.toNat)with g|g
        · exact .inr (.inr g)
        · left
          rw[kk _ (by cases last with|false=>exact .inl rfl|true=>exact .inr λe2=>g ⟨rfl,e2⟩)];exact a
      · exact .inr (.inl a)
    · rcases d with d|d
      · exact .inl d
      · rcases Decidable.em ((W.aa i).kind=1)with k1|k1
        · exact .inl k1
        right
        rw[kk,d]
        cases wM:last with
        |false=>exact .inl rfl
        |true=>
         right
         intro e2
         obtain⟨m1,m2⟩:=hl wM
         have br:=kN b
         have ks:=t4.resolve_left m1
         exact m2 i hi e (by rw[<-d,<-ks,e2]) (by omega)
  · have hi:i<W.al:=hi
    have ct:(T i).kind≠0:=ct
    have e:=full ct
    show(T i).from_= -1\/((0<=(T i).from_/\(T i).from_<W.al)/\eG (T i) (T (T i).from_.toNat)=true)
    rw[(ky e).1]at ct
    rw[fr e]
    cases g:(W.aa i).from_==(s:Int)with
    |true=>
     have g:=eq_of_beq g
     show(W.aa s).from_= -1\/((0<=(W.aa s).from_/\(W.aa s).from_<W.al)/\eG (T i) (T (W.aa s).from_.toNat)=true)
     refine(h.s2 s hs hk).imp_right λq=>⟨q.1,?_⟩
     have ba:(W.aa s).from_.toNat≠s:=λe2=>fs (by omega)
     obtain⟨_,_,_,m⟩:=h.full hi (by omega)
     rw[g,Int.toNat_natCast]at m
     rw[(ky e).made (ky ba)]
     exact aca t2 (h.s1 i hi ct).2.1 m q.2
    |false=>
     have g:=beq_eq_false_iff_ne.1 g
     show(W.aa i).from_= -1\/((0<=(W.aa i).from_/\(W.aa i).from_<W.al)/\eG (T i) (T (W.aa i).from_.toNat)=true)
     refine(h.s2 i hi ct).imp_right λq=>⟨q.1,?_⟩
     rw[(ky e).made (ky λe2=>g (by omega))];exact q.2
  · have hi:i<W.al:=hi
    have h0:0<=(T i).from_:=h0
    show r (T i).from_.toNat<r i
    rcases Decidable.em (i=s)with e|e
    · subst e;rw[eS]at h0;exact absurd h0 (by decide)
    · rw[fr e]at h0⊢
      cases g:(W.aa i).from_==(s:Int)with
      |true=>
       rw[g]at h0
       have g:=eq_of_beq g
       have h0:0<=(W.aa s).from_:=h0
       have a:=hr s hs h0
       have b:=hr i hi (by omega)
       rw[g,Int.toNat_natCast]at b
       show r (W.aa s).from_.toNat<r i
       omega
      |false=>
       rw[g]at h0
       exact hr i hi h0
  · show bx W.al (λi=>bW (T i) f)<=1
    refine Nat.le_trans (GG λi hi hp=>?_) (h.cl f hf)
    rcases Decidable.em (i=s)with e|e
    · subst e;rw[eS]at hp;exact absurd hp (by simp[bW,f_])
    · rw[(ky e).tu]at hp;exact hp
  · have hf:f<W.aj:=hf
    have h0:K f≠0:=h0
    show 0<bx W.al (λi=>cE (T i) f)
    have cj:last=false\/f≠(W.aa s).base.toNat:=by
      cases wM:last with
      |false=>exact .inl rfl
      |true=>exact .inr λe=>h0 (by rw[e];exact ke wM)
    rw[kk f cj]at h0
    have hc:=(h.ky f hf h0).1
    have other: ∃i,i<W.al/\i≠s/\cE (W.aa i) f=true:=by
      refine Classical.byContradiction λhn=>?_
      have fW: ∀i,i<W.al->i≠s->cE (W.aa i) f=false:=λi hi e=>by
        cases q:cE (W.aa i) f with
        |false=>rfl
        |true=>exact absurd ⟨i,hi,e,q⟩ hn
      have ksf:cE (W.aa s) f=true:=by
        cases q:cE (W.aa s) f with
        |true=>rfl
        |false=>
         have:bx W.al (λi=>cE (W.aa i) f)=0:=mY.2 λi hi=>by
           rcases Decidable.em (i=s)with e|e
           · subst e;exact q
           · exact fW i hi e
         omega
      obtain⟨k1,k2,k3⟩:=A7.1 ksf
      have wM:=cj.resolve_right λq=>q (by omega)
      rcases Vb wM with e|⟨i,hi,e,e1,e2⟩
      · exact k1 e
      · have:=fW i hi e
        rw[A7.2 ⟨by omega,by omega,by omega⟩]at this
        cases this
    obtain⟨i,hi,e,q⟩:=other
    refine uc hi ?_
    rw[(ky e).key];exact q
  · have hf:f<W.aj:=hf
    have hi:i<W.al:=hi
    have h0:K f≠0:=h0
    have cj:last=false\/f≠(W.aa s).base.toNat:=by
      cases wM:last with
      |false=>exact .inl rfl
      |true=>exact .inr λe=>h0 (by rw[e];exact ke wM)
    rw[kk f cj]at h0
    show iP (T i) f=false
    rcases Decidable.em (i=s)with e|e
    · subst e;rw[eS];simp[iP,bW,f_]
    · rw[(ky e).free];exact(h.ky f hf h0).2 i hi
  · have hi:i<W.al:=hi
    have hc:c<W.al:=hc
    have ct:(T i).kind≠0:=ct
    have cK:(T i).kind≠1:=cK
    have dx:bW (T c) (T i).base.toNat=true:=dx
    have e:=full ct
    have ec:c≠s:=λe2=>by subst e2;rw[eS]at dx;exact absurd dx (by simp[bW,f_])
    rw[(ky ec).tu,(ky e).2.1]at dx
    rw[(ky e).1]at ct cK
    show(T i).from_≠ -1
    rw[fr e]
    have x:=h.ex i hi ct cK c hc dx
    cases g:(W.aa i).from_==(s:Int)with
    |false=>exact x
    |true=>
     have g:=eq_of_beq g
     show(W.aa s).from_≠ -1
     obtain⟨_,_,_,m⟩:=h.full hi (by omega)
     rw[g,Int.toNat_natCast]at m
     obtain⟨_,⟨a1,a2,a3,a4⟩|⟨a1,a2,a3,_⟩⟩:=om.1 m
     · exfalso
       have sc:=DD t2 a1
       have br:=kN (h.s1 i hi ct).2.1
       have hb:=(h.s1 i hi ct).2.2.1
       have c1:bW (W.aa s) (W.aa i).base.toNat=true:=vR.2 ⟨a1,by omega,by omega⟩
       exact ec (h.one (by omega) hc hs dx c1)
     · refine h.ex s hs hk a1 c hc ?_
       rw[<-a3];exact dx
end Go.Proofs.YthgmgkabnffniaaGreatDoor
set_option linter.unusedVariables false
set_option linter.unusedSimpArgs false
set_option maxRecDepth 100000
namespace Go.Proofs.YthgmgkabnffniaaGreatDoor
open Go.RowKit Go.Sy
theorem KG.mono {P Q:Nat->Prop} {W:Wd} (h:KG P W) (hPQ: ∀g,P g->Q g):KG Q W:=
  ⟨h.z,h.kd,h.e0,λi hi hk=>⟨(h.s1 i hi hk).1.imp_right (hPQ _),(h.s1 i hi hk).2⟩,h.s2,h.rk,h.cl,h.ky,h.ex⟩
structure SP (P:Nat->Prop) (W:Wd):Prop where
  k:KG P W
  t:T0 W
  m:MG W
  d: ∀i,i<W.aK->az (W.aB i) 3=false
theorem bU.sp {W:Wd} (h:bU W) (hx:Ex W):SP (λ_=>False) W:=⟨h.kg hx,h.t0,h.mg,h.dm⟩
theorem SP.snd {W:Wd} (h:SP (λ_=>False) W):bU W/\Ex W:=
  ⟨⟨h.t.z,h.m.af,h.k.kinds,h.d,h.k.sl,h.k.fr,h.t.tk,h.t.ln,h.t.co,h.t.rl,h.m.agz,λc hc=>h.m.agG c (by have:=h.t.z.aA;omega)⟩,h.k.ex⟩
structure LE (W V:Wd):Prop where
  ec:fh V=fh W
  et:V.time=W.time
  ed:V.aB=W.aB
  k0: ∀g,W.kinds g=0->V.kinds g=0
  s0: ∀i,i<W.al->(W.aa i).kind=0->(V.aa i).kind=0
theorem LE.refl (W:Wd):LE W W:=⟨rfl,rfl,rfl,λ_ h=>h,λ_ _ h=>h⟩
theorem LE.ns {W V:Wd} (h:LE W V):V.al=W.al/\V.aj=W.aj/\V.aK=W.aK:=by
  have:=h.ec
  simp only[fh,List.cons.injEq,and_true]at this
  exact⟨this.2.2.1,this.2.1,this.2.2.2.2.2.2.2.2.2⟩
theorem LE.tr {W V U:Wd} (h:LE W V) (g:LE V U):LE W U:=
  ⟨g.ec.trans h.ec,g.et.trans h.et,g.ed.trans h.ed,λf hf=>g.k0 f (h.k0 f hf),λi hi hk=>g.s0 i (by rw[h.ns.1];exact hi) (h.s0 i hi hk)⟩
theorem LE.dh {W V:Wd} (h:LE W V):qS V<=qS W:=by
  unfold qS
  rw[h.ns.1]
  refine GG λi hi hp=>?_
  rw[bne_iff_ne]at hp⊢
  exactλe=>hp (h.s0 i hi e)
def DK (N:Nat) (D:Wd->Int->Wd):Prop:= ∀(P:Nat->Prop) (W:Wd) (s:Int),SP P W->(∀g,P g->W.kinds g=0)->qS W<=N->SP P (D W s)/\LE W (D W s)/\(0<=s->s<W.al->((D W s).aa s.toNat).kind=0)
theorem BG {W:Wd} {f g:Nat} (h:W.kinds g=0):ah W.kinds f 0 g=0:=by
  rcases yS (W:=W) f g with e|e
  · rw[e];exact h
  · exact e
theorem ZA {N:Nat} {D:Wd->Int->Wd} (hD:DK N D) {P:Nat->Prop} {V:Wd} {f:Nat} (hf:f<V.aj) (hk:2<=V.kinds f/\V.kinds f<=8) (h:KG (λg=>P g\/g=f) {V with kinds:=ah V.kinds f 0}) (ht:T0 V) (hm:MG V)
    (hd: ∀i,i<V.aK->az (V.aB i) 3=false) (hz: ∀g,P g->V.kinds g=0) (o_:V.kinds f≠5-> ∀i,i<V.al->i/16=f->(V.aa i).kind=0) (hc:qS V<=N):SP P (kV D V f)/\LE V (kV D V f):=by
  have z:=ht.z
  have tH:(V.kinds f=2\/V.kinds f=3)\/V.kinds f=4\/V.kinds f=5\/V.kinds f=6\/(V.kinds f=7\/V.kinds f=8):=by omega
  rcases tH with e|e|e|e|e
  · rw[abg (show V.kinds (f:Int).toNat=2\/V.kinds (f:Int).toNat=3 from e)]
    exact⟨⟨(h.rel λi hi g=>o_ (by omega) i hi g).other rfl rfl rfl rfl,(ht.pg hf e).other _ V.aa _ _,hm.pg z hf e,hd⟩,⟨rfl,rfl,rfl,λg hg=>BG hg,λ_ _ h=>h⟩⟩
  · rw[abh (show V.kinds (f:Int).toNat=4 from e)]
    exact⟨⟨(h.rel λi hi g=>o_ (by omega) i hi g).other rfl rfl rfl rfl,(ht.sp hf e).other V.af V.aa _ _,hm.sp z hf e _,hd⟩,⟨rfl,rfl,rfl,λg hg=>BG hg,λ_ _ h=>h⟩⟩
  · rw[abi (show V.kinds (f:Int).toNat=5 from e)]
    have h0:SP (λg=>P g\/g=f) (LN V f):=⟨h.other rfl rfl rfl rfl,ht.nd hf e,(hm.kz hf (by omega) z).other rfl rfl rfl rfl rfl rfl rfl,hd⟩
    have l0:LE V (LN V f):=⟨rfl,rfl,rfl,λg hg=>BG hg,λ_ _ h=>h⟩
    have zs:=z.aa
    have all: ∀i,i<=16->SP (λg=>P g\/g=f) (tQ D V f i)/\LE V (tQ D V f i)/\(tQ D V f i).kinds f=0/\ ∀j,j<i->((tQ D V f i).aa (f*16+(15 -j))).kind=0:=by
      intro i
      induction i with
      |zero=>exactλ_=>⟨h0,l0,show ah V.kinds f 0 f=0 from aZ,λj hj=>absurd hj (Nat.not_lt_zero _)⟩
      |succ i ih=>
       intro hi
       obtain⟨a,b,c,d⟩:=ih (by omega)
       have q:=hD _ (tQ D V f i) ((f:Int)*16+(15 -i)) a (λg hg=>by
         rcases hg with g1|g1
         · exact b.k0 g (hz g g1)
         · rw[g1];exact c) (Nat.le_trans b.dh hc)
       obtain⟨q1,q2,q3⟩:=q
       have ns:=b.ns.1
       refine⟨q1,b.tr q2,q2.k0 f c,λj hj=>?_⟩
       show((D (tQ D V f i) ((f:Int)*16+(15 -i))).aa (f*16+(15 -j))).kind=0
       rcases Nat.lt_or_ge j i with g|g
       · exact q2.s0 _ (by omega) (d j g)
       · obtain rfl:j=i:=by omega
         have:=q3 (by omega) (by omega)
         rw[show((f:Int)*16+(15 -(j:Int))).toNat=f*16+(15 -j) by omega]at this
         exact this
    obtain⟨a,b,c,d⟩:=all 16 (Nat.le_refl _)
    refine⟨⟨a.k.rel λi hi g=>?_,a.t,a.m,a.d⟩,b⟩
    have:=d (15 -i%16) (by omega)
    rw[show f*16+(15 -(15 -i%16))=i by omega]at this
    exact this
  · rw[abj (show V.kinds (f:Int).toNat=6 from e)]
    exact⟨⟨(h.rel λi hi g=>o_ (by omega) i hi g).other rfl rfl rfl rfl,ht.td hf e,(hm.kz hf (by omega) z).other rfl rfl rfl rfl rfl rfl rfl,hd⟩,⟨rfl,rfl,rfl,λg hg=>BG hg,λ_ _ h=>h⟩⟩
  · rw[abk (show V.kinds (f:Int).toNat=7\/V.kinds (f:Int).toNat=8 from e)]
    exact⟨⟨(h.rel λi hi g=>o_ (by omega) i hi g).other rfl rfl rfl rfl,ht.dr hf e,(hm.kz hf (by omega) z).other rfl rfl rfl rfl rfl rfl rfl,hd⟩,⟨rfl,rfl,rfl,λg hg=>BG hg,λ_ _ h=>h⟩⟩
theorem acX {W:Wd} {s:Nat} (hs:s<W.al):LE W (iE W s):=by
  refine⟨rfl,rfl,rfl,λ_ h=>h,λi hi hk=>?_⟩
  show(ah (λj=>cp s (W.aa (s:Int).toNat).from_ (W.aa j)) (s:Int).toNat f_ i).kind=0
  rw[Int.toNat_natCast]
  rcases Decidable.em (i=s)with e|e
  · subst e;rw[aZ];rfl
  · rw[bh e,(mu _ _ _).1];exact hk
theorem ZB: ∀n,DK (n+1) (wu (CV n)):=by
  have step: ∀{N:Nat} {D:Wd->Int->Wd},DK N D->DK (N+1) (wu (kV D)):=by
    intro N D hD P W s h hz hc
    unfold wu
    cases he:iR W s==0 with
    |false=>
     refine⟨h,LE.refl W,λh0 J=>?_⟩
     show(W.aa s.toNat).kind=0
     have he:=beq_eq_false_iff_ne.1 he
     unfold iR at he
     rw[decide_eq_false (show¬s<0 by omega),decide_eq_false (show¬(W.al:Int)<=s by omega)]at he
     cases q:(W.aa s.toNat).kind==0 with
     |true=>exact eq_of_beq q
     |false=>rw[q]at he;exact absurd rfl he
    |true=>
     obtain⟨⟨s0,s1⟩,hk⟩:=EE he
     obtain⟨S,rfl⟩: ∃S:Nat,s=S:=⟨s.toNat,by omega⟩
     have hS:S<W.al:=by omega
     have hk:(W.aa S).kind≠0:=hk
     have dx:=abl he
     have hle:=acX hS
     have e0:(((iE W S).aa (S:Int).toNat)).kind=0:=by
       show(ah (λj=>cp S (W.aa (S:Int).toNat).from_ (W.aa j)) (S:Int).toNat f_ (S:Int).toNat).kind=0
       rw[aZ];rfl
     have tc:T0 (iE W S):=h.t.other W.af _ W.aG W.aA
     have mc:MG (iE W S):=h.m.other rfl rfl rfl rfl rfl rfl rfl
     suffices Fi: ∀R:Wd,R=(bif (W.aa S).kind==1||BH (iE W S) (W.aa S)then iE W S else kV D (iE W S) (W.aa S).base)->SP P R/\LE W R/\(0<=(S:Int)->(S:Int)<W.al->(R.aa (S:Int).toNat).kind=0)from Fi _ rfl
     intro R hR
     have same: ∀i,i<W.al->i≠S->((iE W S).aa i).kind=(W.aa i).kind/\((iE W S).aa i).base=(W.aa i).base:=λi hi e=>by
       have:(iE W S).aa i=cp S (W.aa S).from_ (W.aa i):=by
         show ah (λj=>cp S (W.aa (S:Int).toNat).from_ (W.aa j)) (S:Int).toNat f_ i=_
         rw[Int.toNat_natCast,bh e]
       rw[this];exact⟨(mu _ _ _).1,(mu _ _ _).2.1⟩
     cases hq:(W.aa S).kind==1||BH (iE W S) (W.aa S)with
     |true=>
      rw[hq]at hR
      have hR:R=iE W S:=hR
      rw[hR]
      refine⟨⟨?_,tc,mc,h.d⟩,hle,λ_ _=>e0⟩
      have q:=h.k.Wz hS hk false (λe=>absurd e (by decide)) (λ_=>?_)
      · exact(q.other (W':=iE W S) rfl rfl rfl rfl).mono λg hg=>hg.elim id λe=>absurd e.1 (by decide)
      · rw[Bool.or_eq_true,beq_iff_eq]at hq
        refine hq.imp_right λq=>?_
        unfold BH at q
        obtain⟨i,hi,q⟩:=qt.1 q
        simp only[Bool.and_eq_true,beq_iff_eq]at q
        have hi:i<W.al:=hi
        have ne:i≠S:=λe=>by
          subst e
          have:=q.1
          rw[show((iE W i).aa i).kind=0 from e0]at this
          exact hk this.symm
        obtain⟨a,b⟩:=same i hi ne
        exact⟨i,hi,ne,by rw[<-a];exact q.1,by rw[<-b];exact q.2⟩
     |false=>
      rw[hq]at hR
      have hR:R=kV D (iE W S) (W.aa S).base:=hR
      rw[hR]
      simp only[Bool.or_eq_false_iff,beq_eq_false_iff_ne]at hq
      obtain⟨t1,t2,t3,t4⟩:=h.k.s1 S hS hk
      have tr:=kN t2
      have t4:=t4.resolve_left hq.1
      have cj: ∀i,i<W.al->i≠S->(W.aa i).kind=(W.aa S).kind->(W.aa i).base≠(W.aa S).base:=λi hi ne e1 e2=>by
        have:=hq.2
        unfold BH at this
        have:=nY.1 this i hi
        obtain⟨a,b⟩:=same i hi ne
        rw[a,b,e1,e2]at this
        simp at this
      have q:=h.k.Wz hS hk true (λ_=>⟨hq.1,cj⟩) (λe=>absurd e (by decide))
      have tl:1<=(W.aa S).len:=HY t2 hk
      obtain⟨f,WA⟩: ∃f:Nat,(W.aa S).base=f:=⟨(W.aa S).base.toNat,by omega⟩
      rw[WA,Int.toNat_natCast]at q t4
      have hf:f<W.aj:=by omega
      rw[WA]
      have kf:(iE W S).kinds f=(W.aa S).kind:=t4
      have g:=ZA hD (V:=iE W S) (f:=f) hf (by rw[kf];omega) ((q.other (W':={iE W S with kinds:=ah (iE W S).kinds f 0}) rfl rfl rfl rfl).mono λg hg=>hg.imp_right λe=>e.2) tc mc h.d hz (λh5 i hi e=>?_) (by omega)
      · exact⟨g.1,hle.tr g.2,λ_ _=>g.2.s0 S hS e0⟩
      · refine Classical.byContradiction λpM=>?_
        have agI:(W.aa i).kind≠0:=λe2=>pM (hle.s0 i hi e2)
        rcases(h.k.s1 i hi agI).1 with a|a
        · rw[e]at a;exact h5 a
        · rw[e]at a
          have:=hz f a
          omega
  intro n
  induction n with
  |zero=>
   refine step (N:=0) (D:=λW _=>W) λP W s h _ hc=>⟨h,LE.refl W,λh0 J=>?_⟩
   have:qS W=0:=by omega
   have:=mY.1 this s.toNat (by omega)
   simpa using this
  |succ n ih=>exact step ih
def Sx (W:Wd):Prop:=bU W/\Ex W
theorem Sx.sp {W:Wd} (h:Sx W):SP (λ_=>False) W:=h.1.sp h.2
theorem Sx.drop {W:Wd} (h:Sx W) (s:Int):Sx (wu (CV 400) W s)/\fh (wu (CV 400) W s)=fh W:=by
  have z1:=h.1.z.k1
  have z2:=h.1.z.aa
  have hc:qS W<=401:=Nat.le_trans (sK _ _) (by omega)
  obtain⟨a,b,_⟩:=ZB 400 _ W s h.sp (λ_ h=>h.elim) hc
  exact⟨a.snd,b.ec⟩
theorem Sx.WB {W:Wd} (h:Sx W) (s:Int): ∀k,Sx (vg W s k)/\fh (vg W s k)=fh W
  |0=>⟨h,rfl⟩
  |k+1=>by
   obtain⟨a,b⟩:=Sx.WB h s k
   obtain⟨c,d⟩:=a.drop (Jg (vg W s k) s)
   rw[vg]
   exact⟨c,d.trans b⟩
theorem Sx.rev {W:Wd} (h:Sx W) (s:Int):Sx (agJ W s):=(h.WB s _).1
theorem Sx.xI {W W':Wd} (h:Sx W) (t:T0 W') (ec:fh W'=fh W) (et:W'.time=W.time) (e1:W'.af=W.af) (e2:W'.kinds=W.kinds) (e3:W'.aB=W.aB) (e4:W'.aa=W.aa) (e5:W'.aG=W.aG) (e6:W'.aA=W.aA):Sx W':=by
  refine⟨h.1.xI t ec et e1 e2 e3 e4 e5 e6,?_⟩
  have rq:=ec
  simp only[fh,List.cons.injEq,and_true]at rq
  have:=h.2
  unfold Ex at this⊢
  rw[e4,rq.2.2.1];exact this
theorem Sx.LK {W W':Wd} (h:Sx W) (k:KG (λ_=>False) W') (ec:fh W'=fh W) (et:W'.time=W.time) (e1:W'.af=W.af) (e2:W'.kinds=W.kinds) (e3:W'.aB=W.aB) (e4:W'.tasks=W.tasks) (e5:W'.aG=W.aG) (e6:W'.aA=W.aA) (e7:W'.ai=W.ai) (e8:W'.lines=W.lines) (e9:W'.bits=W.bits) (ea:W'.ak=W.ak) (eb:W'.aq=W.aq) (ed:W'.ready=W.ready):Sx W':=by
  have p:=h.sp
  obtain⟨n1,a1,n2,a2,n3,a3,n4,a4,n5,b5,a5,n6,a6,n7,a7,n8,b8,a8,n9,b9,a9,n10,nO,ti⟩:=W'
  simp only at ec et e1 e2 e3 e4 e5 e6 e7 e8 e9 ea eb ed
  simp only[fh,List.cons.injEq,and_true]at ec
  obtain⟨c1,c2,c3,c4,c5,c6,c7,c8,c9,me⟩:=ec
  subst c1 c2 c3 c4 c5 c6 c7 c8 c9 me et e1 e2 e3 e4 e5 e6 e7 e8 e9 ea eb ed
  exact SP.snd ⟨k,p.t.other W.af a3 W.aG W.aA,p.m.other rfl rfl rfl rfl rfl rfl rfl,p.d⟩
theorem Sx.copy {W:Wd} (h:Sx W) (a b r g:Int):Sx (tR W a b r g):=h.LK h.sp.k.copy rfl rfl rfl rfl rfl rfl rfl rfl rfl rfl rfl rfl rfl rfl
theorem Sx.move {W:Wd} (h:Sx W) (a b:Int):Sx (Gf W a b):=h.LK h.sp.k.move rfl rfl rfl rfl rfl rfl rfl rfl rfl rfl rfl rfl rfl rfl
theorem Sx.start {W:Wd} (h:Sx W) (t:Int):Sx (lR W t):=h.xI h.sp.t.start rfl rfl rfl rfl rfl rfl rfl rfl
end Go.Proofs.YthgmgkabnffniaaGreatDoor
set_option linter.unusedVariables false
set_option linter.unusedSimpArgs false
set_option maxRecDepth 100000
namespace Go.Proofs.YthgmgkabnffniaaGreatDoor
open Go.RowKit Go.Sy
end Go.Proofs.YthgmgkabnffniaaGreatDoor
set_option linter.unusedVariables false
set_option linter.unusedSimpArgs false
set_option maxRecDepth 100000
namespace Go.Proofs.YthgmgkabnffniaaGreatDoor
open Go.RowKit Go.Sy
theorem T0.new {W:Wd} {K:Nat->Int} {k:Int} (h:T0 W) (hK: ∀g,g<W.aj->K g=W.kinds g\/(W.kinds g=0/\K g=k)):T0 {W with kinds:=K}:=by
  have z:=h.z
  have zl:=z.lines
  have zt:=z.tasks
  have kp: ∀{g},g<W.aj->W.kinds g≠0->K g=W.kinds g:=λ{g} hg h0=>(hK g hg).resolve_right λe=>h0 e.1
  have ko: ∀{x c:Int},bH W x=c->c≠0->c≠ -1->bH {W with kinds:=K} x=c:=λ{x c} hx h0 J=>by
    have a_:=iO (W:=W) (f:=x) (by rw[hx];exact J)
    rw[fS a_]at hx
    rw[fS (W:={W with kinds:=K}) a_]
    show K x.toNat=c
    rw[kp (by omega) (by rw[hx];exact h0)];exact hx
  have rd: ∀{x c p},RD W x c p->RD {W with kinds:=K} x c p:=λ{x c p} hR=>by
    obtain⟨a,b,q⟩:=hR
    exact⟨a,by show K x.toNat=6;rw[kp (by omega) (by rw[b];decide)];exact b,q⟩
  have nw: ∀{g},g<W.aj->W.kinds g≠6->W.tasks g=aM.blank/\cA W g=0/\cu W g=0/\ca W g=0:=λ{g} hg h6=>by
    obtain⟨s1,s2⟩:=h.LL h6
    refine⟨h.bl g hg h6,s1,s2,mY.2 λi hi=>?_⟩
    rcases Decidable.em (W.kinds i=6)with e|e
    · exact beq_eq_false_iff_ne.2 ((h.qJ hg (by omega) e).2.2.2 h6)
    · rw[h.bl i (by omega) e];exact beq_eq_false_iff_ne.2 (show(-1:Int)≠g by omega)
  refine⟨z.cg rfl rfl,λf hf h6=>?_,λf hf h6=>?_,λf hf h6 ho=>?_,λf hf h6=>?_,λf hf h6 _=>?_,λf hf=>?_,λc hc=>lF.2 λmK=>rd (lF.1 (h.co c hc) mK),λi hi=>kj.2 λk hk=>rd (kj.1 (h.rl i hi) k hk)⟩
  · have hf:f<W.aj:=hf
    have h6:K f≠6:=h6
    rcases Decidable.em (W.kinds f=6)with e|e
    · rw[kp hf (by rw[e];decide)]at h6;exact absurd e h6
    · exact h.bl f hf e
  · have hf:f<W.aj:=hf
    rcases Decidable.em (W.kinds f=6)with e|e
    · obtain⟨a,b,c⟩:=h.nm f hf e
      refine⟨a,b,Bf ?_⟩
      obtain⟨r1,r2,r3,r4⟩:=yA c
      exact⟨r1.imp_right λe=>ko e (by decide) (by decide),r2.imp_right λe=>ko e (by decide) (by decide),r3.imp_right λe=>ko e (by decide) (by decide),r4.imp_right λe=>ko e (by decide) (by decide)⟩
    · obtain⟨b,_⟩:=nw hf e
      show jg (W.tasks f)=false/\fT W (W.tasks f)=false/\gv _ (W.tasks f)=true
      rw[b]
      refine⟨by decide,?_,Bf ⟨.inl rfl,.inl rfl,.inl rfl,.inl rfl⟩⟩
      have:=z.c0
      unfold fT
      simp only[Bool.or_eq_false_iff]
      exact⟨⟨⟨⟨⟨⟨by decide,by decide⟩,by decide⟩,by decide⟩,by decide⟩,fQ (show 0<=(0:Int)/\(0:Int)<=(W.aC:Int) -1 by omega)⟩,by decide⟩
  · have hf:f<W.aj:=hf
    rcases Decidable.em (W.kinds f=6)with e|e
    · exact h.ow f hf e ho
    · exact absurd (show(W.tasks f).aE= -1 by rw[(nw hf e).1];rfl) ho
  · have hf:f<W.aj:=hf
    rcases Decidable.em (W.kinds f=6)with e|e
    · exact h.o1 f hf e
    · obtain⟨a,b,c,d⟩:=nw hf e
      have d':ca {W with kinds:=K} f=0:=d
      show ca {W with kinds:=K} f<=1/\(¬False->(ca {W with kinds:=K} f=1↔(W.tasks f).st=5))
      rw[d',a]
      exact⟨Nat.zero_le _,λ_=>⟨λh=>absurd h (by decide),λh=>absurd h (by decide)⟩⟩
  · have hf:f<W.aj:=hf
    rcases Decidable.em (W.kinds f=6)with e|e
    · obtain⟨p1,p2,p3,p4⟩:=h.so f hf e id
      exact⟨λhh=>⟨(p1 hh).1,(p1 hh).2.1,ko (p1 hh).2.2.1 (by decide) (by decide),(p1 hh).2.2.2⟩,λhh=>⟨(p2 hh).1,(p2 hh).2.1,ko (p2 hh).2.2.1 (by decide) (by decide),(p2 hh).2.2.2⟩,p3,p4⟩
    · obtain⟨a,b,c,d⟩:=nw hf e
      have g1:(({W with kinds:=K}:Wd).tasks f).st=0:=by show(W.tasks f).st=0;rw[a];rfl
      exact .o (.inl g1) b c (by show(W.tasks f).loc= -1;rw[a];rfl)
  · have hf:f<W.aj:=hf
    obtain⟨l1,l2,l3,l4⟩:=eh.1 (h.ln f hf)
    refine eh.2 ⟨λhl=>?_,λhb=>?_,l3,λk hk=>?_⟩
    · show K f=7\/K f=8
      rcases l1 hl with e|e
      · exact .inl (by rw[kp hf (by rw[e];decide)];exact e)
      · exact .inr (by rw[kp hf (by rw[e];decide)];exact e)
    · have e:=(l2 hb).1
      exact⟨by show K f=8;rw[kp hf (by rw[e];decide)];exact e,(l2 hb).2⟩
    · obtain⟨a,b,c⟩:=l4 k hk
      exact⟨a,by show K (W.lines f k).toNat=6;rw[kp (by omega) (by rw[b];decide)];exact b,c⟩
theorem abe {x n:Int} (hx:0<=x) (h:0<=kn x n):kn x n=x%1024/\x≠0:=by
  rcases Di hx n with⟨e,_⟩|⟨a,b,_⟩
  · omega
  · exact⟨b,λe=>by rw[e]at a;exact absurd a (by decide)⟩
theorem abf {W:Wd} {R:Nat->Int} {e:dQ} (h:MG W) (z:bO W) (hs:bH W e.sp=4) (hp:0<=e.pg/\e.pg<=255) (hr: ∀i,i<W.ay->W.kinds (i/16)=4\/W.kinds (i/16)=3->R i=W.af i) (hw:nQ W.ay W.af e=false):nQ W.ay R e=false:=by
  have zr:=z.af
  have a_:=iO (W:=W) (f:=e.sp) (by rw[hs];decide)
  rw[fS a_]at hs
  have i1:(e.sp*16+16*e.pg/256).toNat<W.ay:=by omega
  have k1:W.kinds ((e.sp*16+16*e.pg/256).toNat/16)=4:=by
    rw[show(e.sp*16+16*e.pg/256).toNat/16=e.sp.toNat by omega];exact hs
  have r1:=hr _ i1 (.inl k1)
  have tE:mO W.ay R e.sp (16*e.pg)=mO W.ay W.af e.sp (16*e.pg):=by unfold mO;rw[r1]
  have h0:ja W.ay W.af e.sp (16*e.pg)=0:=by
    unfold nQ at hw
    simp only[Bool.not_eq_false',Bool.and_eq_true,beq_iff_eq]at hw
    exact hw.1.1
  have ht:0<=mO W.ay W.af e.sp (16*e.pg):=by
    unfold ja at h0
    cases hb:yR W.ay e.sp (16*e.pg)with
    |true=>rw[hb]at h0;exact absurd (show(2:Int)=0 from h0) (by decide)
    |false=>
     rw[hb]at h0
     cases hd:decide (mO W.ay W.af e.sp (16*e.pg)<0)with
     |true=>rw[hd]at h0;exact absurd (show(9:Int)=0 from h0) (by decide)
     |false=>have:=of_decide_eq_false hd;omega
  obtain⟨te,t0⟩:=abe (h.rm _ i1).1 ht
  have k3:=(h.e4 _ i1 t0 k1).2
  have te':mO W.ay W.af e.sp (16*e.pg)=W.af (e.sp*16+16*e.pg/256).toNat%1024:=te
  rw[<-te']at k3
  have agy:=iO (W:=W) (f:=mO W.ay W.af e.sp (16*e.pg)) (by rw[k3];decide)
  rw[fS agy]at k3
  have xE:pV W.ay R e.sp (16*e.pg)=pV W.ay W.af e.sp (16*e.pg):=by
    unfold pV
    rw[tE]
    refine hr _ (by omega) (.inr ?_)
    rw[show(mO W.ay W.af e.sp (16*e.pg)*16+16*e.pg/16%16).toNat/16=(mO W.ay W.af e.sp (16*e.pg)).toNat by omega];exact k3
  have pE:vf W.ay R e.sp (16*e.pg)=vf W.ay W.af e.sp (16*e.pg):=by unfold vf;rw[xE]
  have eE:ja W.ay R e.sp (16*e.pg)=ja W.ay W.af e.sp (16*e.pg):=by unfold ja;rw[tE,pE]
  have fE:mi W.ay R e.sp (16*e.pg)=mi W.ay W.af e.sp (16*e.pg):=by unfold mi;rw[eE,pE]
  have wE':mj W.ay R e.sp (16*e.pg)=mj W.ay W.af e.sp (16*e.pg):=by unfold mj;rw[eE,xE]
  unfold nQ at hw⊢
  rw[eE,fE,wE'];exact hw
theorem MG.new {W:Wd} {K R:Nat->Int} {k:Int} (h:MG W) (z:bO W) (hK: ∀g,g<W.aj->K g=W.kinds g\/(W.kinds g=0/\K g=k)) (hR: ∀i,i<W.ay->0<=R i/\R i<=65535) (LM: ∀i,i<W.ay->R i≠W.af i->(W.kinds (i/16)≠3/\W.kinds (i/16)≠4)/\(R i=0\/K (i/16)=W.kinds (i/16))) (Wy: ∀i,i<W.ay->K (i/16)≠W.kinds (i/16)->R i=0):MG {W with kinds:=K,af:=R}:=by
  have ko: ∀{x c:Int},bH W x=c->c≠0->c≠ -1->bH {W with kinds:=K,af:=R} x=c:=λ{x c} hx h0 J=>by
    have a_:=iO (W:=W) (f:=x) (by rw[hx];exact J)
    rw[fS a_]at hx
    rw[fS (W:={W with kinds:=K,af:=R}) a_]
    show K x.toNat=c
    rw[(hK x.toNat (by omega)).resolve_right λe=>by rw[hx]at e;exact h0 e.1];exact hx
  refine⟨hR,λi hi h0 hk=>?_,λi hi h0 hk=>?_,λc hc=>?_⟩
  · have hi:i<W.ay:=hi
    have h0:R i≠0:=h0
    have hk:K (i/16)=4:=hk
    show R i -R i%1024=32768/\bH _ (R i%1024)=3
    have e:K (i/16)=W.kinds (i/16):=Decidable.byContradiction λe=>h0 (Wy i hi e)
    rw[e]at hk
    have er:R i=W.af i:=Decidable.byContradiction λe2=>(LM i hi e2).1.2 hk
    rw[er]at h0⊢
    have q:=h.e4 i hi h0 hk
    exact⟨q.1,ko q.2 (by decide) (by decide)⟩
  · have hi:i<W.ay:=hi
    have h0:R i≠0:=h0
    have hk:K (i/16)=3:=hk
    show(R i -R i%1024=32768\/R i -R i%1024=49152)/\bH _ (R i%1024)=2
    have e:K (i/16)=W.kinds (i/16):=Decidable.byContradiction λe=>h0 (Wy i hi e)
    rw[e]at hk
    have er:R i=W.af i:=Decidable.byContradiction λe2=>(LM i hi e2).1.1 hk
    rw[er]at h0⊢
    have q:=h.e3 i hi h0 hk
    exact⟨q.1,ko q.2 (by decide) (by decide)⟩
  · obtain⟨a,b,d⟩:=h.tl c hc
    refine⟨a,λk hk=>?_,d⟩
    obtain⟨b1,b2,b3⟩:=b k hk
    exact⟨ko b1 (by decide) (by decide),b2,abf (W:=W) (R:=R) h z b1 b2 (λi hi hk=>Decidable.byContradiction λe=>by
      have:=(LM i hi e).1
      omega) b3⟩
theorem ae8 {W:Wd} {s k n to:Int} (h:dP W s k n to=0):((0<=s/\s<W.al)/\(0<=to/\to<W.al))/\(W.aa s.toNat).kind=1/\(2<=k/\k<=8)/\W.kinds (to.toNat/16)=5/\(1<=n/\n<=16)/\to%16+n<=16/\(∀i,i<n.toNat->(W.aa (to.toNat+i)).kind=0)/\kh W s+n<=(W.aa s.toNat).len:=by
  unfold dP at h
  cases c1:(decide (s<0)||decide ((W.al:Int)<=s)||decide (to<0)||decide ((W.al:Int)<=to))with
  |true=>rw[c1]at h;exact absurd (show(2:Int)=0 from h) (by decide)
  |false=>
  cases c2:(W.aa s.toNat).kind==0 with
  |true=>rw[c1,c2]at h;exact absurd (show(6:Int)=0 from h) (by decide)
  |false=>
  cases c3:((W.aa s.toNat).kind !=1||decide (k<2)||decide (8<k)||W.kinds (to/16).toNat !=5)with
  |true=>rw[c1,c2,c3]at h;exact absurd (show(3:Int)=0 from h) (by decide)
  |false=>
  cases c4:(decide (n<1)||decide (16<n)||decide (16<to%16+n))with
  |true=>rw[c1,c2,c3,c4]at h;exact absurd (show(2:Int)=0 from h) (by decide)
  |false=>
  cases c5:B6 W n to with
  |true=>rw[c1,c2,c3,c4,c5]at h;exact absurd (show(12:Int)=0 from h) (by decide)
  |false=>
  cases c6:decide ((W.aa s.toNat).len<kh W s+n)with
  |true=>rw[c1,c2,c3,c4,c5,c6]at h;exact absurd (show(5:Int)=0 from h) (by decide)
  |false=>
   simp only[Bool.or_eq_false_iff,decide_eq_false_iff_not,bne_eq_false_iff_eq]at c1 c3 c4 c6
   have rZ:(to/16).toNat=to.toNat/16:=by omega
   rw[rZ]at c3
   refine⟨⟨by omega,by omega⟩,c3.1.1.1,by omega,c3.2,by omega,by omega,λi hi=>?_,by omega⟩
   unfold B6 at c5
   have:=nY.1 c5 i hi
   simpa using this
theorem Sx.make {W:Wd} (h:Sx W) (s k n to:Int):Sx (sj W s k n to):=by
  have p:=h.sp
  have z:=h.1.z
  have zr:=z.af
  have zs:=z.aa
  cases he:dP W s k n to==0 with
  |false=>
   have e:sj W s k n to=W:=by
     unfold sj
     rw[show lS W s k n to=W.af by funext i;unfold lS;rw[he];rfl,show lT W s k n to=W.kinds by funext i;unfold lT;rw[he];rfl,show kr W s k n to=W.aa by funext i;unfold kr;rw[he];rfl]
   rw[e];exact h
  |true=>
   obtain⟨⟨hs,hto⟩,cK,hk,jL,hn,xG,o_,mE⟩:=ae8 (eq_of_beq he)
   obtain⟨S,rfl⟩: ∃S:Nat,s=S:=⟨s.toNat,by omega⟩
   obtain⟨T,rfl⟩: ∃T:Nat,to=T:=⟨to.toNat,by omega⟩
   obtain⟨N,rfl⟩: ∃N:Nat,n=N:=⟨n.toNat,by omega⟩
   rw[Int.toNat_natCast]at cK jL mE
   rw[Int.toNat_natCast,Int.toNat_natCast]at o_
   have hS:S<W.al:=by omega
   obtain⟨s1,s2,s3,_⟩:=p.k.s1 S hS (by omega)
   have sc:=DD s2 cK
   have sr:=kN s2
   have hu:kh W S=(W.aa S).mark\/(kh W S=0/\ ∀i,i<W.al->(W.aa i).from_≠(S:Int)):=by
     unfold kh
     cases hf:uL W.al W.aa S with
     |true=>exact .inl (by rw[Int.toNat_natCast];rfl)
     |false=>
      refine .inr ⟨rfl,λi hi=>?_⟩
      unfold uL at hf
      exact beq_eq_false_iff_ne.1 (nY.1 hf i hi)
   have hu0:0<=kh W S:=by rcases hu with e|⟨e,_⟩<;>omega
   have hF:(iJ W S:Int)=(W.aa S).base+kh W S:=by
     unfold iJ
     rw[Int.toNat_natCast];omega
   have q:=p.k.mk' (n:=N) (to:=T) (u:=kh W S) (k:=k) (R:=iD W S N) hS cK hk (by omega) (by omega) (by omega) jL o_ hu mE hF
   have f0: ∀g,g<W.aj->fj W S k N g=W.kinds g\/(W.kinds g=0/\fj W S k N g=k):=λg hg=>by
     unfold fj
     cases e:cm (iJ W S) N g with
     |false=>exact .inl rfl
     |true=>
      refine .inr ⟨?_,rfl⟩
      have e:=gH.1 e
      have hc:bW (W.aa S) g=true:=vR.2 ⟨cK,by omega,by omega⟩
      rcases hu with e2|⟨_,e2⟩
      · refine Classical.byContradiction λh0=>?_
        have:=(p.k.ky g hg h0).2 S hS
        rw[yi.2 ⟨hc,by omega⟩]at this
        cases this
      · exact p.k.bare hS e2 hg hc
   have hm:MG {W with kinds:=fj W S k N,af:=iD W S N}:=p.m.new z f0 (λi hi=>by
    unfold iD
    cases cm (iJ W S*16) (N*16) i
    · exact p.m.rm i hi
    · exact⟨Int.le_refl 0,(by decide:(0:Int)<=65535)⟩) (λi hi ba=>by
    unfold iD at ba⊢
    cases e:cm (iJ W S*16) (N*16) i with
    |false=>rw[e]at ba;exact absurd rfl ba
    |true=>
     refine⟨?_,.inl rfl⟩
     have e:=gH.1 e
     have g:=(f0 (i/16) (by omega))
     have:fj W S k N (i/16)=k:=by unfold fj;rw[gH.2 (by omega)];rfl
     rcases g with g|g
     · have hc:W.kinds (i/16)=0:=by
         have hc:bW (W.aa S) (i/16)=true:=vR.2 ⟨cK,by omega,by omega⟩
         rcases hu with e2|⟨_,e2⟩
         · refine Classical.byContradiction λh0=>?_
           have:=(p.k.ky _ (by omega) h0).2 S hS
           rw[yi.2 ⟨hc,by omega⟩]at this
           cases this
         · exact p.k.bare hS e2 (by omega) hc
       omega
     · omega) (λi hi ba=>by
    unfold fj at ba
    cases e:cm (iJ W S) N (i/16)with
    |false=>rw[e]at ba;exact absurd rfl ba
    |true=>
     have e:=gH.1 e
     unfold iD
     rw[gH.2 (by omega)];rfl)
   have ht:T0 {W with kinds:=fj W S k N}:=T0.new (k:=k) p.t f0
   have eW:sj W S k N T={W with af:=iD W S N,kinds:=fj W S k N,aa:=uM W S k N T}:=by
     unfold sj
     rw[show lS W S k N T=iD W S N by funext i;unfold lS;rw[he];rfl,show lT W S k N T=fj W S k N by funext i;unfold lT;rw[he];rfl,show kr W S k N T=uM W S k N T by funext i;unfold kr;rw[he];rfl]
   rw[eW]
   exact SP.snd ⟨q,ht.other (iD W S N) (uM W S k N T) W.aG W.aA,hm.other rfl rfl rfl rfl rfl rfl rfl,p.d⟩
end Go.Proofs.YthgmgkabnffniaaGreatDoor
set_option linter.unusedVariables false
set_option linter.unusedSimpArgs false
set_option maxRecDepth 100000
namespace Go.Proofs.YthgmgkabnffniaaGreatDoor
open Go.RowKit Go.Sy
def yM:bK:=⟨0,0,0,0,0,0,-1⟩
def U_:dQ:=⟨0,0,0,false⟩
def W0:Wd:=⟨0,λ_=>0,0,λ_=>0,0,λ_=>yM,0,λ_=>aM.blank,0,λ_=>0,λ_ _=>0,0,λ_=>0,0,λ_=>0,0,λ_=>0,λ_ _=>0,0,λ_=>0,λ_ _=>U_,0,λ_=>0,0⟩
def BE (bY ak:Int) (n:Nat) (aB:Nat->Int):Wd:=
  ⟨(bY*16).toNat,λ_=>0,bY.toNat,λ_=>0,(bY*16).toNat,λ_=>yM,bY.toNat,λ_=>aM.blank,bY.toNat,λ_=>0,λ_ _=>0,bY.toNat,λ_=>0,ak.toNat,λ_=> -1,(ak*4).toNat,λ_=>0,λ_ _=>0,ak.toNat,λ_=>0,λ_ _=>U_,n,aB,0⟩
def yN (bY ak:Int) (n:Nat):Bool:=decide (bY<1)||decide (24<bY)||decide (ak<1)||decide (4<ak)||decide (n<1)||decide (8<n)
def E5 (n:Nat) (aB:Nat->Int):Nat:=dG n λi=>az (aB i) 3
def rS (bY ak:Int) (n:Nat) (aB:Nat->Int):Bool:=!yN bY ak n&&Nat.ble n (E5 n aB)
def ad0 (n:Nat) (aB:Nat->Int):cG where
  σ:=Nat
  rt:= [(6,0),(7,0)]
  sh i:= [(6,de 0),(7,de 1),(8,.v (.int .i64 i))]
  mh _:= []
  inv i:=i<=n/\ ∀j,j<i->az (aB j) 3=false
  μ i:=n -i
  init:=0
def ad1 (bY ak:Int) (n:Nat):cG where
  σ:=Nat
  rt:= [(6,0),(7,0),(9,0)]
  nc:= [(9,2,7)]
  sh i:= [(6,de 0),(7,de 1),(9,de 2),(10,.v (.int .i64 i))]
  mh i:= [(2,.cells [.aO 3 0 none 0 ((bY*16).toNat),.aO 4 0 none 0 (bY.toNat),.aO 5 0 none 0 (i),.v (.slice none 0 0),.aO 6 0 none 0 (bY.toNat),.aO 7 0 none 0 (bY.toNat),.v (.slice none 0 0),.aO 8 0 none 0 ((ak*4).toNat),.aO 9 0 none 0 (ak.toNat),.aO 10 0 none 0 (n),.v (.int .i64 0)]),(5,.row 7 i λ_ j=>aL (pS yM) j)]
  inv i:=i<=(bY*16).toNat
  μ i:=(bY*16).toNat -i
  init:=0
def ad2 (bY ak:Int) (n:Nat):cG where
  σ:=Nat
  rt:= [(6,0),(7,0),(9,0)]
  nc:= [(9,3,20)]
  sh i:= [(6,de 0),(7,de 1),(9,de 2),(11,.v (.int .i64 i))]
  mh i:= [(2,.cells [.aO 3 0 none 0 ((bY*16).toNat),.aO 4 0 none 0 (bY.toNat),.aO 5 0 none 0 ((bY*16).toNat),.aO 6 0 none 0 (i),.aO 7 0 none 0 (bY.toNat),.aO 8 0 none 0 (bY.toNat),.v (.slice none 0 0),.aO 9 0 none 0 ((ak*4).toNat),.aO 10 0 none 0 (ak.toNat),.aO 11 0 none 0 (n),.v (.int .i64 0)]),(6,.row 20 i λ_ j=>aL (nD aM.blank) j)]
  inv i:=i<=bY.toNat
  μ i:=bY.toNat -i
  init:=0
def ad3 (bY ak:Int) (n:Nat):cG where
  σ:=Nat
  rt:= [(6,0),(7,0),(9,0)]
  nc:= [(9,6,1)]
  sh i:= [(6,de 0),(7,de 1),(9,de 2),(12,.v (.int .i64 i))]
  mh i:= [(2,.cells [.aO 3 0 none 0 ((bY*16).toNat),.aO 4 0 none 0 (bY.toNat),.aO 5 0 none 0 ((bY*16).toNat),.aO 6 0 none 0 (bY.toNat),.aO 7 0 none 0 (bY.toNat),.aO 8 0 none 0 (bY.toNat),.aO 9 0 none 0 (i),.aO 10 0 none 0 ((ak*4).toNat),.aO 11 0 none 0 (ak.toNat),.aO 12 0 none 0 (n),.v (.int .i64 0)]),(9,.row 1 i λ_ j=>aL ([.v (.int .i64 (-1))]) j)]
  inv i:=i<=ak.toNat
  μ i:=ak.toNat -i
  init:=0
end Go.Proofs.YthgmgkabnffniaaGreatDoor
set_option linter.unusedVariables false
set_option linter.unusedSimpArgs false
set_option maxRecDepth 100000
namespace Go.Proofs.YthgmgkabnffniaaGreatDoor
open Go.RowKit Go.Sy
theorem cS {z:Int} (J: -9223372036854775808<=z) (h2:z<=9223372036854775807):IntKind.i64.wrap z=z:=by rw[IntKind.wrap_i64];omega
theorem pU {a b:Nat} (h:a<b):Nat.blt a b=true:=by unfold Nat.blt;exact Nat.ble_eq_true_of_le h
theorem Da {a b:Nat} (h:b<=a):Nat.blt a b=false:=by
  cases e:Nat.blt a b with
  |false=>rfl
  |true=>unfold Nat.blt at e;have:=Nat.le_of_ble_eq_true e;omega
theorem si {a b:Nat} (h:a≠b):Nat.beq a b=false:=by
  cases e:Nat.beq a b with
  |false=>rfl
  |true=>exact absurd (Nat.eq_of_beq_eq_true e) h
def im (s:ByteArray) (i:Nat):Int:=((s.data.toList.getD i 0).toNat:Int)
def df (s:ByteArray) (c:Int):Nat->Nat
  |0=>0
  |i+1=>bif im s i==c then df s c i+1 else df s c i
def iq (s:ByteArray) (c:Int):Nat->Nat
  |0=>0
  |i+1=>bif im s i==c then i+1 else iq s c i
def kI (s:ByteArray) (c:Int):Nat->Nat->ByteArray
  |0,_=>ByteArray.empty
  |i+1,k=>bif im s i==c&&Nat.beq k (df s c i)then s.extract (iq s c i) i else kI s c i k
def sF (f:Nat->ByteArray):Nat->Nat->SV:=λi _=> .v (.string (f i))
def gO (s:ByteArray) (c:Int):Nat:=df s c s.size+1
def dt (s:ByteArray) (c:Int) (k:Nat):ByteArray:=bif Nat.blt k (df s c s.size)then kI s c s.size k else s.extract (iq s c s.size) s.size
theorem Bk (s:ByteArray) (c:Int): ∀i,df s c i<=i
  |0=>Nat.le_refl _
  |i+1=>by have:=Bk s c i;simp only[df];cases im s i==c<;>simp<;>omega
theorem EP (s:ByteArray) (c:Int): ∀i,iq s c i<=i
  |0=>Nat.le_refl _
  |i+1=>by have:=EP s c i;simp only[iq];cases im s i==c<;>simp<;>omega
def afF (s:ByteArray) (c:Int):cG where
  σ:=Nat
  rt:= [(5,1)]
  sh i:= [(5,.aO 0 0 none 0 (df s c i)),(6,.v (.int .i64 (iq s c i))),(7,.v (.int .i64 i))]
  mh i:= [(0,.row 1 (df s c i) (sF (kI s c i)))]
  inv i:=i<=s.size
  μ i:=s.size -i
  init:=0
structure yF where
  (s:ByteArray) (c:Int)
def EN:Sy.Spec:=⟨yF,λ⟨s,c⟩=> [.v (.string s),.v (.int .u8 c)],λ_=> [],λ⟨s,_⟩=>s.size<=4000,λ⟨s,c⟩=> .aO 0 0 none 0 (gO s c),λ⟨s,c⟩=> [.row 1 (gO s c) (sF (dt s c))],
  λargs mem=>match args with| [a0,a1]=>some ⟨wN (a0),aw a1⟩|_=>none⟩
def ad5:aT:=⟨[],(EN).g,none⟩
def Td:yF->Prop:=λ⟨s,c⟩=>let a0:=0=df s c 0;let b0:=ByteArray.size s;let c0:=(b0:Int);let d0:=gO s c;(0=0/\a0)/\0=((iq s c 0:Nat):Int)/\0=((0:Nat):Int)/\((a0/\(∀e0:Nat,e0<df s c 0->True/\SV.aF=SV.v (Value.string (kI s c 0 e0))))/\True)/\0<=b0/\(∀g0:Nat,let h0:=(g0:Int);let k0:=decide (h0<c0);let l0:=((UInt8.toNat (List.getD s.data.toList (Int.toNat h0) 0):Nat):Int)==c;let o0:=((iq s c g0:Nat):Int);let q0:=0<=o0;let r0:=df s c g0;let u0:=r0+1;let v0:=u0*16<=140737488355328/\(∀w0:Nat,true=true);let x0:Int:=h0+1;let y0:=ar x0=x0;let z0:=Int.toNat o0;let a1:=u0=d0;g0<=b0->(k0=true->(0<=h0/\h0<c0)/\(l0=true->(q0/\o0<=h0/\h0<=c0)/\True/\v0/\y0/\y0/\(∃b1:Nat,let c1:=u0=df s c b1;(0=0/\c1)/\x0=((iq s c b1:Nat):Int)/\x0=(b1:Int)/\((c1/\(∀d1:Nat,d1<df s c b1->True/\cond (Nat.blt d1 r0) (kI s c g0 (0+d1)) (ByteArray.extract s z0 (Int.toNat h0))=kI s c b1 d1))/\True)/\b1<=b0/\b0-b1<b0-g0))/\(l0=false->y0/\(∃e1:Nat,let g1:=r0=df s c e1;(0=0/\g1)/\o0=((iq s c e1:Nat):Int)/\x0=(e1:Int)/\((g1/\(∀J:Nat,J<df s c e1->True/\kI s c g0 J=kI s c e1 J))/\True)/\e1<=b0/\b0-e1<b0-g0)))/\(k0=false->(q0/\o0<=c0/\c0<=c0)/\True/\v0/\(0=0/\a1)/\(a1/\(∀k1:Nat,k1<d0->True/\cond (Nat.blt k1 r0) (kI s c g0 (0+k1)) (ByteArray.extract s z0 (Int.toNat c0))=dt s c k1))/\True))
set_option maxHeartbeats 1000000 in
theorem QP:aU Tryz.prog aY 39 ad5:=bf .nil false Tryz.call39 Tryz.func39 (λ⟨s,c⟩=> [.inv (afF s c)]) (V:=Td) (λ_=>by kernel_rfl) λ⟨s,c⟩ hp=>by
  dsimp only[EN]at hp
  dsimp only[Td,tn,ar]
  simp only[bn,bD,eq_self,implies_true,Bool.cond_self]
  refine⟨rfl,rfl,⟨rfl,λk hk=>absurd hk (Nat.not_lt_zero _)⟩,λi hi=>⟨λJ=>?_,λJ=>?_⟩⟩
  · have av:i<s.size:=by have:=of_decide_eq_true J;omega
    have hn:=Bk s c i
    have hq:=EP s c i
    refine⟨by omega,λh2=>?_,λh2=>?_⟩
    · have h2:(im s i==c)=true:=h2
      have e1:df s c (i+1)=df s c i+1:=by rw[df,h2];rfl
      have e2:iq s c (i+1)=i+1:=by rw[iq,h2];rfl
      refine⟨by omega,by omega,cS (by omega) (by omega),cS (by omega) (by omega),i+1,e1.symm,by rw[e2];omega,by omega,⟨e1.symm,λk hk=>?_⟩,by omega,by omega⟩
      rw[e1]at hk
      rw[kI,h2,Bool.true_and]
      rcases(show k<df s c i\/k=df s c i by omega)with e|e
      · rw[pU e,si (by omega)];rfl
      · subst e;rw[Da (Nat.le_refl _),Nat.beq_refl];rfl
    · have h2:(im s i==c)=false:=h2
      have e1:df s c (i+1)=df s c i:=by rw[df,h2];rfl
      have e2:iq s c (i+1)=iq s c i:=by rw[iq,h2];rfl
      refine⟨cS (by omega) (by omega),i+1,e1.symm,by rw[e2],by omega,⟨e1.symm,λk hk=>?_⟩,by omega,by omega⟩
      rw[kI,h2];rfl
  · obtain rfl:i=s.size:=by have:=of_decide_eq_false J;omega
    have hn:=Bk s c s.size
    have hq:=EP s c s.size
    exact⟨⟨by omega,Int.le_refl _⟩,by omega,rfl,rfl,λk _=>rfl⟩
end Go.Proofs.YthgmgkabnffniaaGreatDoor
set_option linter.unusedVariables false
set_option linter.unusedSimpArgs false
set_option maxRecDepth 100000
namespace Go.Proofs.YthgmgkabnffniaaGreatDoor
open Go.RowKit Go.Sy
def dE:Nat->(Nat->Bool)->Bool
  |0,_=>true
  |n+1,p=>dE n p&&p n
theorem gG {p:Nat->Bool}: ∀{n},dE n p=true↔ ∀i,i<n->p i=true
  |0=>⟨λ_ i h=>absurd h (Nat.not_lt_zero _),λ_=>rfl⟩
  |n+1=>by
   unfold dE
   rw[Bool.and_eq_true,gG]
   refine⟨λh i hi=>?_,λh=>⟨λi hi=>h i (by omega),h n (by omega)⟩⟩
   rcases Nat.lt_or_ge i n with e|e
   · exact h.1 i e
   · rw[show i=n by omega];exact h.2
def pk (s:ByteArray) (i:Nat):Bool:=!(decide (im s i<48)||decide (57<im s i))
def po (s:ByteArray):Nat->Int
  |0=>0
  |i+1=>po s i*10+(im s i -48)
def bu (s:ByteArray):Int:=bif Nat.beq s.size 0||decide (5<s.size)||(im s 0==48&&decide (1<s.size))then -1 else bif dE s.size (pk s)then po s s.size else -1
theorem IT {s:ByteArray}: ∀{i},i<=5->(∀j,j<i->pk s j=true)->0<=po s i/\po s i<10^i
  |0,_,_=>⟨Int.le_refl 0,show(0:Int)<1 by decide⟩
  |i+1,hi,h=>by
   have a:=IT (i:=i) (by omega) λj hj=>h j (by omega)
   have b:=h i (by omega)
   unfold pk at b
   simp only[Bool.not_eq_true',Bool.or_eq_false_iff,decide_eq_false_iff_not]at b
   rw[po,Int.pow_succ]
   omega
theorem QU (s:ByteArray): ∀n i r,s.size -i=n->ByteArray.toList.loop s i r=r.reverse++s.data.toList.drop i
  |0,i,r,h=>by
   have hs:s.data.toList.length=s.size:=Array.length_toList
   rw[ByteArray.toList.loop,if_neg (by omega),List.drop_of_length_le (by omega),List.append_nil]
  |n+1,i,r,h=>by
   have hs:s.data.toList.length=s.size:=Array.length_toList
   rw[ByteArray.toList.loop,if_pos (by omega),QU s n (i+1) _ (by omega),List.reverse_cons,List.append_assoc,List.drop_eq_getElem_cons (show i<s.data.toList.length by omega)]
   have e:s.get! i=s.data.toList[i]'(by omega):=by
     show s.data[i]! =_
     rw[getElem!_pos s.data i (by have:s.data.size=s.size:=rfl;omega),Array.getElem_toList]
   rw[e];rfl
theorem E_ (s:ByteArray):s.toList=s.data.toList:=by
  show ByteArray.toList.loop s 0 []=_
  rw[QU s _ 0 [] rfl];rfl
theorem WU {s:ByteArray}:(s.toList==({data:= #[]}:ByteArray).toList)=Nat.beq s.size 0:=by
  rw[E_,E_]
  have hs:s.data.toList.length=s.size:=Array.length_toList
  rw[<-hs]
  show(s.data.toList== [])=_
  cases s.data.toList<;>rfl
def afE (s:ByteArray):cG where
  σ:=Nat
  rt:= []
  sh i:= [(3,.v (.int .i64 (po s i))),(4,.v (.int .i64 i))]
  mh _:= []
  inv i:=i<=s.size/\ ∀j,j<i->pk s j=true
  μ i:=s.size -i
  init:=0
structure EO where
  (s:ByteArray)
def IS:Sy.Spec:=⟨EO,λ⟨s⟩=> [.v (.string s)],λ_=> [],λ⟨s⟩=>s.size<=4000,λ⟨s⟩=> .v (.int .i64 (bu s)),λ_=> [],
  λargs mem=>match args with| [a0]=>some ⟨wN (a0)⟩|_=>none⟩
def ad4:aT:=⟨[],(IS).g,none⟩
def Tc:EO->Prop:=λ⟨s⟩=>let a0:=ByteArray.size s;let b0:=(a0:Int);let c0:=cond (ByteArray.toList s==ByteArray.toList (ByteArray.mk (List.toArray List.nil))) true (decide (5<b0));let d0:=s.data.toList;let e0:=cond c0 true (cond (((UInt8.toNat (List.getD d0 (Int.toNat 0) 0):Nat):Int)==48) (decide (1<b0)) false);let g0:=(-1)=bu s/\True;(c0=false->(0:Int)<=0/\0<b0)/\(e0=true->g0)/\(e0=false->0=po s 0/\0=((0:Nat):Int)/\True/\(0<=a0/\(∀h0:Nat,h0<0->pk s h0=true))/\(∀k0:Nat,let l0:=(k0:Int);let o0:=decide (l0<b0);let q0:=0<=l0/\l0<b0;let r0:=((UInt8.toNat (List.getD d0 (Int.toNat l0) 0):Nat):Int);let u0:=decide (r0<48);let v0:=cond u0 true (decide (57<r0));let w0:Int:=po s k0*10;let x0:Int:=r0-48;let y0:Int:=w0+x0;let z0:Int:=l0+1;k0<=a0/\(∀a1:Nat,a1<k0->pk s a1=true)->(o0=true->q0/\(u0=false->q0)/\(v0=true->g0)/\(v0=false->ar w0=w0/\q0/\IntKind.wrap IntKind.u8 x0=x0/\ar x0=x0/\ar y0=y0/\ar z0=z0/\(∃b1:Nat,y0=po s b1/\z0=(b1:Int)/\True/\(b1<=a0/\(∀c1:Nat,c1<b1->pk s c1=true))/\a0-b1<a0-k0)))/\(o0=false->po s k0=bu s/\True)))
set_option maxHeartbeats 1000000 in
theorem ace:aU Tryz.prog aY 91 ad4:=bf .nil false Tryz.call91 Tryz.func91 (λ⟨s⟩=> [.inv (afE s)]) (V:=Tc) (λ_=>by kernel_rfl) λ⟨s⟩ hp=>by
  dsimp only[IS]at hp
  dsimp only[Tc,tn,ar]
  simp only[bn,bD,eq_self,implies_true,Bool.cond_self]
  rw[WU]
  have z0:(s.data.toList.getD (Int.toNat 0) 0).toNat=(s.data.toList.getD 0 0).toNat:=rfl
  have hd:bu s=bif Nat.beq s.size 0||decide (5<s.size)||(im s 0==48&&decide (1<s.size))then -1 else bif dE s.size (pk s)then po s s.size else -1:=rfl
  have e5:decide (5<(s.size:Int))=decide (5<s.size):=by rw[decide_eq_decide];omega
  have e1:decide (1<(s.size:Int))=decide (1<s.size):=by rw[decide_eq_decide];omega
  rw[e5,e1]
  refine⟨λh=>?_,λh=>?_,λh=>⟨rfl,λi hi=>⟨λJ=>?_,λJ=>?_⟩⟩⟩
  · rw[Bool.or_eq_false_iff]at h
    have:=h.1
    have h0:s.size≠0:=λe=>by rw[e]at this;cases this
    omega
  · rw[hd,show(Nat.beq s.size 0||decide (5<s.size)||(im s 0==48&&decide (1<s.size)))=true from h];rfl
  · have av:i<s.size:=by have:=of_decide_eq_true J;omega
    have h5:s.size<=5:=by
      simp only[Bool.or_eq_false_iff,decide_eq_false_iff_not]at h
      omega
    have hn:=IT (i:=i) (by omega) hi.2
    have hp:(10:Int)^i<=10^5:=by
      rcases(show i=0\/i=1\/i=2\/i=3\/i=4 by omega)with e|e|e|e|e<;>subst e<;>decide
    have hp5:(10:Int)^5=100000:=by decide
    refine⟨by omega,λ_=>by omega,λh2=>?_,λh2=>?_⟩
    · rw[hd,show(Nat.beq s.size 0||decide (5<s.size)||(im s 0==48&&decide (1<s.size)))=false from h]
      cases q:dE s.size (pk s)with
      |false=>rfl
      |true=>
       have q:=gG.1 q i av
       unfold pk at q
       rw[show(decide (im s i<48)||decide (57<im s i))=true from h2]at q
       cases q
    · have zm:(decide (im s i<48)||decide (57<im s i))=false:=h2
      have hb:pk s i=true:=by unfold pk;rw[zm];rfl
      simp only[Bool.or_eq_false_iff,decide_eq_false_iff_not]at zm
      have eb:((s.data.toList.getD i 0).toNat:Int)=im s i:=rfl
      rw[eb]
      refine⟨cS (by omega) (by omega),by omega,by rw[IntKind.wrap_u8];omega,cS (by omega) (by omega),cS (by omega) (by omega),cS (by omega) (by omega),i+1,rfl,by omega,⟨by omega,λj hj=>?_⟩,by omega⟩
      rcases Nat.lt_or_ge j i with e|e
      · exact hi.2 j e
      · rw[show j=i by omega];exact hb
  · obtain⟨hi1,ju⟩:=hi
    obtain rfl:i=s.size:=by have:=of_decide_eq_false J;omega
    rw[hd,show(Nat.beq s.size 0||decide (5<s.size)||(im s 0==48&&decide (1<s.size)))=false from h,gG.2 ju];rfl
end Go.Proofs.YthgmgkabnffniaaGreatDoor
