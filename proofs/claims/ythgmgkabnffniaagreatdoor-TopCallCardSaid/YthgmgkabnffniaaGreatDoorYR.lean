/- A code is laid into a world, the document's. -/
import Derived.Test.YthgmgkabnffniaaGreatDoorYQ
import Derived.Test.YthgmgkabnffniaaGreatDoorYI
import Derived.Test.YthgmgkabnffniaaGreatDoorYN
import Derived.Test.YthgmgkabnffniaaGreatDoorYK
set_option linter.unusedVariables false
set_option linter.unusedSimpArgs false
set_option maxRecDepth 100000
namespace Go.Proofs.YthgmgkabnffniaaGreatDoor
open Go.RowKit Go.Sy
def iw (w n:Nat) (o a b m:Nat->Int) (r:Nat->Int) (i:Nat):Int:=
 bif Nat.ble w i&&Nat.blt i (w+2*n)then bif Nat.beq ((i -w)%2) 0 then o ((i -w)/2)*256+a ((i -w)/2)*16+b ((i -w)/2)else m ((i -w)/2)%65536 else r i
theorem acz (w:Nat) (o a b m r:Nat->Int) (i:Nat):iw w 0 o a b m r i=r i:=by
 unfold iw;rcases bR i w with e|e
 ·have:Nat.ble w i=false:=by
   cases q:Nat.ble w i with
   |false=>rfl
   |true=>have:=bP q;omega
  rw[this];rfl
 ·rw[AV (show w+2*0<=i by omega),qI];rfl
theorem acA (w k:Nat) (o a b m r:Nat->Int) (i:Nat):(bif Nat.beq i (w+2*k+1)then m k%65536 else bif Nat.beq i (w+2*k)then o k*256+a k*16+b k else iw w k o a b m r i)=iw w (k+1) o a b m r i:=by
 rcases aT (i=w+2*k+1)with e|e
 ·subst e;rw[cy];unfold iw;rw[iC (show w<=w+2*k+1 by omega),mV (show w+2*k+1<w+2*(k+1) by omega),show(w+2*k+1 -w)/2=k by omega,oY (show(w+2*k+1 -w)%2≠0 by omega)];rfl
 rw[oY e];rcases aT (i=w+2*k)with c|c
 ·subst c;rw[cy];unfold iw;rw[iC (show w<=w+2*k by omega),mV (show w+2*k<w+2*(k+1) by omega),show(w+2*k -w)/2=k by omega,show(w+2*k -w)%2=0 by omega];rfl
 rw[oY c];show iw w k o a b m r i=iw w (k+1) o a b m r i;unfold iw;have:Nat.blt i (w+2*k)=true\/(Nat.blt i (w+2*k)=false):=by cases Nat.blt i (w+2*k)<;>simp
 rcases bR i (w+2*k)with e3|e3
 ·rw[mV e3,mV (show i<w+2*(k+1) by omega)]
 ·rw[AV e3,AV (show w+2*(k+1)<=i by omega)]
def AI (W:Wd) (f:Nat) (n:Nat) (o a b m:Nat->Int):Wd:={W with af:=iw (f*16) n o a b m W.af}
def acB (W:Wd) (f n:Nat) (o a b m:Nat->Int):cQ where
 σ:=Nat
 rt:= []
 sh i:= [(0,cm 0),(6,.v (.int .i64 i))]
 mh i:= [(1,.row 1 W.ay (iF (iw (f*16) i o a b m W.af)))]
 inv i:=i<=n
 μ i:=n -i
 init:=0
structure N_ where
 (f n:Nat) (o a b m:Nat->Int) (W:Wd)
def N':Sy.Spec:=⟨N_,λ⟨f,n,o,a,b,m,_⟩=> [.ptr 0 0 none 0 0,.v (.int .i64 f),.sl true 4 n (λd e=>match e with|0=> .v (.int .i64 (o d))|1=> .v (.int .i64 (a d))|2=> .v (.int .i64 (b d))|_=> .v (.int .i64 (m d)))],λ⟨_,_,_,_,_,_,W⟩=>cL W,λ⟨f,n,o,a,b,m,W⟩=>f<=1000/\n<=1000/\f*16+2*n<=W.ay/\W.ay<=100000/\∀i,i<n->iq (o i) (a i) (b i) (m i)=0,λ_=> .tp 0 (aN []),λ⟨f,n,o,a,b,m,W⟩=>cL (AI W f n o a b m),
 λargs mem=>match args with| [a0,a1,c]=>some ⟨(av a1).toNat,bT c,λi=>av (bO c i 0),λi=>av (bO c i 1),λi=>av (bO c i 2),λi=>av (bO c i 3),fW mem 0⟩|_=>none⟩
def Yx:aZ:=⟨[true],(N').g,none⟩
def Oa:N_->Prop:=λ⟨f,n,o,a,b,m,W⟩=>let a0:=SV.ptr 0 0 none 0 0;let b0:=a0=a0;let c0:=f*16;let d0:=W.af;let e0:=(n:Int);let h:Int:=(f:Int)*16;let h0:=aw h=h;b0/\0=((0:Nat):Int)/\aB W {W with af:=iw c0 0 o a b m d0} True/\0<=n/\(∀k0:Nat,let c:=(k0:Int);let o0:=decide (c<e0);let d:=Int.toNat c;let r0:Int:=o d;let e:Int:=a d;let v0:Int:=b d;let w0:Int:=m d;let i:Int:=2*c;let j:=aw i=i;let z0:Int:=h+i;let a1:=aw z0=z0;let b1:Int:=z0+1;let c1:Int:=c+1;k0<=n->e0<=9223372036854775807->(o0=true->(0<=c/\c<e0)/\((((((True/\r0=r0)/\e=e)/\v0=v0)/\w0=w0)/\True)/\True/\iq r0 e v0 w0=0)/\True/\(True/\True)/\tn 5 (h0/\True/\j/\a1/\((0:Int)<=0/\0<((2:Nat):Int))/\True/\(0<=z0/\z0<((W.ay:Nat):Int))/\(∀d1:Nat,false=false)/\tn 5 (h0/\True/\j/\a1/\aw b1=b1/\((0:Int)<=1/\1<((2:Nat):Int))/\True/\(0<=b1/\b1<((W.ay:Nat):Int))/\(∀k:Nat,false=false)/\aw c1=c1/\(∃g:Nat,b0/\c1=(g:Int)/\aB {W with af:=λh1:Nat=>cond (Nat.beq h1 (0+Int.toNat b1)) (w0%65536) (cond (Nat.beq h1 (0+Int.toNat z0)) (r0*256+e*16+v0) (iw c0 k0 o a b m d0 h1))} {W with af:=iw c0 g o a b m d0} True/\g<=n/\n-g<n-k0))))/\(o0=false->True/\aB {W with af:=iw c0 k0 o a b m d0} {W with af:=iw c0 n o a b m d0} True))
set_option maxHeartbeats 1000000 in
theorem VG:aY Tryz.prog bk 16 Yx:=bn (.cons UI .nil) false Tryz.call16 Tryz.func16 (λ⟨f,n,o,a,b,m,W⟩=> [.inv (acB W f n o a b m)]) (V:=Oa) (λ_=>by kernel_rfl) λ⟨f,n,o,a,b,m,W⟩ hp=>by
 dsimp only[N']at hp;dsimp only[Oa,tn,aw,aB,aJ,aK,aG];simp only[bq,bx,eq_self,implies_true,bo];obtain⟨e,g,j,l,d⟩:=hp;refine⟨λi _=>(acz _ _ _ _ _ _ _).symm,λk p _=>⟨λh=>?_,λh=>?_⟩⟩
 ·have c:k<n:=by have:=of_decide_eq_true h;omega
  refine⟨by omega,d k c,dx (by omega) (by omega),dx (by omega) (by omega),dx (by omega) (by omega),⟨by omega,by omega⟩,⟨by omega,by omega⟩,dx (by omega) (by omega),dx (by omega) (by omega),dx (by omega) (by omega),dx (by omega) (by omega),⟨by omega,by omega⟩,⟨by omega,by omega⟩,dx (by omega) (by omega),k+1,rfl,λi _=>?_,by omega,by omega⟩;rw[show((f:Int)*16+2*(k:Int)+1).toNat=f*16+2*k+1 by omega,show((f:Int)*16+2*(k:Int)).toNat=f*16+2*k by omega];exact acA _ _ _ _ _ _ _ _
 ·obtain rfl:k=n:=by have:=of_decide_eq_false h;omega
  exactλi _=>rfl
def jn (W:Wd):SV:= .ag 11 (aN [.sl false 1 W.ay (iF W.af),.sl false 1 W.ak (iF W.kinds),.sl false 7 W.ao (rF λi=>mU (W.aa i)),.sl false 20 W.aO (rF λi=>la (W.tasks i)),.sl false 1 W.aX (λi _=> .sl false 1 (W.ah i) (iF (W.lines i))),.sl false 1 W.aP (iF W.bits),.sl false 1 W.aC (iF W.ai),.sl false 1 W.aR (λi _=> .sl false 1 (W.al i) (iF (W.ready i))),.sl false 1 W.aQ (λi _=> .sl false 4 (W.aD i) (rF λk=>iO (W.ax i k))),.sl false 1 W.aL (iF W.aA),.v (.int .i64 W.time)])
def oW:Wd:=⟨0,λ_=>0,0,λ_=>0,0,λ_=>zSl,0,λ_=>aF.blank,0,λ_=>0,λ_ _=>0,0,λ_=>0,0,λ_=>0,0,λ_=>0,λ_ _=>0,0,λ_=>0,λ_ _=>xW,0,λ_=>0,0⟩
def fJ (e:Int) (W:Wd):Wd:=bif e==0 then W else oW
theorem HA {e:Int} (W:Wd) (h:(e==0)=false):fJ e W=oW:=by unfold fJ;rw[h];rfl
theorem GB {e:Int} (W:Wd) (h:(e==0)=true):fJ e W=W:=by unfold fJ;rw[h];rfl
theorem Dv {W:Wd} (h:Sm W):Lg W:=by obtain⟨h1,h2,g,k,l,n,o,p,q,j,c,d,e⟩:=h;exact⟨h1,by omega,g,by omega,by omega,by omega,by omega,by omega,by omega,by omega,λi b=>by have:=c i b;omega,λi b=>by have:=d i b;omega,λi b=>by have:=e i b;omega⟩
theorem zZ {W:Wd} (h:bI W):wE W=0:=bI.iff.2 h
end Go.Proofs.YthgmgkabnffniaaGreatDoor
