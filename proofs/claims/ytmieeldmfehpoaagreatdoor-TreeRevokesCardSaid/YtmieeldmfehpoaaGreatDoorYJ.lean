/- Tables of pages: walking through them. -/
import Derived.Test.YtmieeldmfehpoaaGreatDoorYI
set_option linter.unusedVariables false
set_option linter.unusedSimpArgs false
set_option linter.unusedVariables false
set_option linter.unusedSimpArgs false
set_option maxRecDepth 100000
namespace Go.Proofs.YtmieeldmfehpoaaGreatDoor
open Go.RowKit Go.Sy
def fp (x:Int):Prop:=0<=x/\x<=65535
def db (n:Nat):Int:=bif decide (0<n%16)||decide (384<n)then -1 else(n/16:Nat)
def fX (x n:Int):Int:=bif x/32768%2==0||decide (n<=x%1024)then -1 else x%1024
def nR (n:Nat) (sp at_:Int):Bool:=decide (db n<0)||decide (sp<0)||decide (db n<=sp)||aB at_ 4095
def ng (n:Nat) (aa:Nat->Int) (sp at_:Int):Int:=fX (aa (sp*16+at_/256).toNat) (db n)
def lL (n:Nat) (aa:Nat->Int) (sp at_:Int):Int:=aa (ng n aa sp at_*16+at_/16%16).toNat
def pT (n:Nat) (aa:Nat->Int) (sp at_:Int):Int:=fX (lL n aa sp at_) (db n)
def dN (n:Nat) (aa:Nat->Int) (sp at_:Int):Int:=bif nR n sp at_ then 2 else bif decide (ng n aa sp at_<0)||decide (pT n aa sp at_<0)then 9 else 0
def eZ (n:Nat) (aa:Nat->Int) (sp at_:Int):Int:=bif dN n aa sp at_==0 then pT n aa sp at_ else 0
def e_ (n:Nat) (aa:Nat->Int) (sp at_:Int):Bool:=bif dN n aa sp at_==0 then lL n aa sp at_/16384%2==1 else false
theorem xA (n:Nat):(db n= -1/\(0<n%16\/384<n))\/(db n*16=n/\0<=db n/\db n<=24):=by
  unfold db
  by_cases J:0<n%16
  · left;simp[J]
  · by_cases U:384<n
    · left;simp[U]
    · right;simp only[J,U,decide_false,Bool.or_false,cond_false];omega
theorem rY {x:Int} (hx:0<=x) (m:Int):(fX x m= -1/\(x/32768%2=0\/m<=x%1024))\/(x/32768%2=1/\fX x m=x%1024/\0<=fX x m/\fX x m<m):=by
  by_cases J:x/32768%2=0
  · left;unfold fX;simp[J]
  · by_cases U:m<=x%1024
    · left;unfold fX;simp[U]
    · right
      have e:fX x m=x%1024:=by
        unfold fX
        rw[show(x/32768%2==0)=false from beq_eq_false_iff_ne.2 J,show decide (m<=x%1024)=false from decide_eq_false U];rfl
      rw[e];omega
theorem aak (k X:Nat):X&&&2^k=X/2^k%2*2^k:=by
  have hk:X.testBit k=decide (X/2^k%2=1):=Nat.testBit_eq_decide_div_mod_eq
  apply Nat.eq_of_testBit_eq
  intro i
  rw[Nat.testBit_and,Nat.testBit_two_pow]
  rcases Nat.mod_two_eq_zero_or_one (X/2^k)with h|h
  · rw[h]
    by_cases e:k=i
    · subst e;simp[hk,h]
    · simp[e]
  · rw[h,Nat.one_mul,Nat.testBit_two_pow]
    by_cases e:k=i
    · subst e;simp[hk,h]
    · simp[e]
theorem Pm (k:Nat) (hk:k<=62) {x m:Int} (hm:m=(2^k:Nat)) (hx:0<=x) (lG:x<=65535):dF .and .i64 x m=x/m%2*m:=by
  subst hm
  have hp:(2:Nat)^k<9223372036854775808:=Nat.lt_of_le_of_lt (Nat.pow_le_pow_right (by omega) hk) (by decide)
  obtain⟨X,rfl⟩: ∃X:Nat,x=X:=⟨x.toNat,by omega⟩
  rw[EH (by omega) (by omega) (Int.natCast_nonneg _) (show((2^k:Nat):Int)<9223372036854775808 from Int.ofNat_lt.2 hp),Int.toNat_natCast,Int.toNat_natCast,aak]
  simp
theorem HS {x:Int} (hx:0<=x) (lG:x<=65535) (m:Int):(bif dF .and .i64 x 32768==0 then true else decide (m<=dF .and .i64 x 1023))=decide (fX x m<0)/\(fX x m<0\/dF .and .i64 x 1023=fX x m):=by
  rw[Pm 15 (by omega) (by decide) hx lG,zc 10 (by omega) (by decide)]
  have lI:((2:Int)^10)=1024:=by decide
  rw[lI]
  rcases rY hx m with⟨J,U⟩|⟨J,U,h3,h4⟩
  · rw[J]
    refine⟨?_,.inl (by decide)⟩
    rcases U with U|U
    · rw[U];rfl
    · rw[show decide (m<=x%1024)=true from decide_eq_true U];cases (x/32768%2*32768==0)<;>rfl
  · rw[J,show decide (m<=x%1024)=false from decide_eq_false (by omega),show decide (fX x m<0)=false from decide_eq_false (by omega)]
    exact⟨rfl,.inr U.symm⟩
structure HT where
  (n:Nat) (aa:Nat->Int)
def RX:Sy.Spec:=⟨HT,λ⟨n,aa⟩=> [.sl true 1 n (λi_ _=> .v (.int .i64 (aa i_)))],λ_=> [],λ_=>True,λ⟨n,_⟩=> .v (.int .i64 (db n)),λ_=> [],
  λargs mem=>match args with| [a0]=>some ⟨bO a0,λi=>av (bF a0 i 0)⟩|_=>none⟩
def RY:aQ:=⟨[],(RX).g,none⟩
def HU:HT->Prop:=λ⟨n,_⟩=>let a0:=(n:Int);let b0:=cond (decide (0<a0%16)) true (decide (384<a0));let c0:Int:=a0/16;a0<=9223372036854775807->(0<=a0/\(0:Int)<16)/\(b0=true->(-1)=db n/\True)/\(b0=false->a0<=9223372036854775807->(0<=a0/\(0:Int)<16/\ah c0=c0)/\c0=db n/\True)
set_option maxHeartbeats 1000000 in
theorem Rq:aL Tryz.prog aO 126 RY:=aW .nil false Tryz.call126 Tryz.func126 (λ_=> []) (V:=HU) (λ_=>by kernel_rfl) λ⟨n,aa⟩ hp=>by
  dsimp only[HU,tn,ah,ak,aE,aD,ay]
  simp only[aS,aZ,eq_self,implies_true,Bool.cond_self,Bool.or_eq_true,Bool.or_eq_false_iff,Bool.and_eq_true,Bool.and_eq_false_iff,decide_eq_true_eq,decide_eq_false_iff_not,beq_iff_eq,beq_eq_false_iff_ne,bne_iff_ne,bne_eq_false_iff_eq,Bool.not_eq_true',Bool.not_eq_false',ne_eq,Int.not_lt,Int.not_le]
  intro _
  rcases xA n with⟨J,U⟩|⟨J,U,h3⟩
  · exact⟨by omega,λ_=>J.symm,λh=>absurd U (by omega)⟩
  · exact⟨by omega,λh=>by omega,λh _=>⟨⟨by omega,by rw[IntKind.wrap_i64];omega⟩,by omega⟩⟩
structure Lb where
  (x n:Int)
def Lc:Sy.Spec:=⟨Lb,λ⟨x,n⟩=> [.v (.int .i64 x),.v (.int .i64 n)],λ_=> [],λ⟨x,_⟩=>0<=x/\x<=65535,λ⟨x,n⟩=> .v (.int .i64 (fX x n)),λ_=> [],
  λargs mem=>match args with| [a0,a1]=>some ⟨av (a0),av (a1)⟩|_=>none⟩
def V7:aQ:=⟨[],(Lc).g,none⟩
def Ld:Lb->Prop:=λ⟨x,n⟩=>let a0:Int:=x/32768;let b0:=a0%2==0;let c0:=0<=x/\(0:Int)<1024;let d0:=cond b0 true (decide (n<=x%1024));(0<=x/\(0:Int)<32768/\ah a0=a0)/\(0<=a0/\(0:Int)<2)/\(b0=false->c0)/\(d0=true->(-1)=fX x n/\True)/\(d0=false->c0/\x%1024=fX x n/\True)
set_option maxHeartbeats 1000000 in
theorem T8:aL Tryz.prog aO 127 V7:=aW .nil false Tryz.call127 Tryz.func127 (λ_=> []) (V:=Ld) (λ_=>by kernel_rfl) λ⟨x,n⟩ hp=>by
  dsimp only[Lc]at hp
  dsimp only[Ld,tn,ah,ak,aE,aD,ay]
  simp only[aS,aZ,eq_self,implies_true,Bool.cond_self,Bool.or_eq_true,Bool.or_eq_false_iff,Bool.and_eq_true,Bool.and_eq_false_iff,decide_eq_true_eq,decide_eq_false_iff_not,beq_iff_eq,beq_eq_false_iff_ne,bne_iff_ne,bne_eq_false_iff_eq,Bool.not_eq_true',Bool.not_eq_false',ne_eq,Int.not_lt,Int.not_le]
  obtain⟨hp,gu⟩:=hp
  rcases rY hp n with⟨J,U⟩|⟨J,U,h3,h4⟩
  · exact⟨⟨by omega,by omega,by rw[IntKind.wrap_i64];omega⟩,by omega,λ_=>by omega,λ_=>J.symm,λh=>by omega⟩
  · exact⟨⟨by omega,by omega,by rw[IntKind.wrap_i64];omega⟩,by omega,λ_=>by omega,λh=>by omega,λh=>⟨by omega,U.symm⟩⟩
structure Jy where
  (n:Nat) (aa:Nat->Int) (sp at_:Int)
def Jz:Sy.Spec:=⟨Jy,λ⟨n,aa,sp,at_⟩=> [.sl true 1 n (λi_ _=> .v (.int .i64 (aa i_))),.v (.int .i64 sp),.v (.int .i64 at_)],λ_=> [],λ⟨n,aa,_,_⟩=> ∀i,i<n->fp (aa i),λ⟨n,aa,sp,at_⟩=> .tp 3 (aH [.v (.int .i64 (eZ n aa sp at_)),.v (.bool (e_ n aa sp at_)),.v (.int .i64 (dN n aa sp at_))]),λ_=> [],
  λargs mem=>match args with| [a0,a1,a2]=>some ⟨bO a0,λi=>av (bF a0 i 0),av (a1),av (a2)⟩|_=>none⟩
def T9:aQ:=⟨[],(Jz).g,none⟩
def JA:Jy->Prop:=λ⟨n,aa,sp,at_⟩=>let a0:=db n;let b0:=cond (cond (decide (a0<0)) true (decide (sp<0))) true (decide (a0<=sp));let c0:=cond b0 true (aB at_ 4095);let d0:=eZ n aa sp at_;let e0:=e_ n aa sp at_;let g0:=(True/\0=d0)/\false=e0;let h0:=dN n aa sp at_;let k0:Int:=sp*16+at_/256;let l0:Int:=aa (Int.toNat k0);let o0:=a0=a0/\True;let q0:=fX l0 a0;let r0:=decide (q0<0);let u0:=(g0/\9=h0)/\True;let v0:Int:=q0*16;let w0:Int:=at_/16;let x0:Int:=v0+w0%16;let y0:Int:=aa (Int.toNat x0);let z0:=0<=y0;let a1:=fX y0 a0;let b1:=decide (a1<0);let c1:Int:=y0/16384;(((n=n/\(∀d1:Nat,d1<n->True/\aa d1=aa d1))/\True)/\True/\True)/\(b0=false->(at_=at_/\(4095:Int)=4095/\True)/\True/\True)/\(c0=true->(g0/\2=h0)/\True)/\(c0=false->ah (sp*16)=sp*16/\(0<=at_/\(0:Int)<256/\ah (at_/256)=at_/256)/\ah k0=k0/\(0<=k0/\k0<(n:Int))/\((l0=l0/\o0)/\True/\0<=l0/\l0<=65535)/\(r0=true->u0)/\(r0=false->ah v0=v0/\(0<=at_/\(0:Int)<16/\ah w0=w0)/\(0<=w0/\(0:Int)<16)/\ah x0=x0/\(0<=x0/\x0<(n:Int))/\((y0=y0/\o0)/\True/\z0/\y0<=65535)/\(b1=true->u0)/\(b1=false->(z0/\(0:Int)<16384/\ah c1=c1)/\(0<=c1/\(0:Int)<2)/\(((True/\a1=d0)/\(c1%2==1)=e0)/\0=h0)/\True)))
set_option maxHeartbeats 1000000 in
theorem Ii:aL Tryz.prog aO 110 T9:=aW (.cons sX (.cons Rq (.cons T8 .nil))) false Tryz.call110 Tryz.func110 (λ_=> []) (V:=JA) (λ_=>by kernel_rfl) λ⟨n,aa,sp,at_⟩ hp=>by
  dsimp only[Jz]at hp
  dsimp only[JA,tn,ah,ak,aE,aD,ay]
  have hx: ∀z:Int,0<=z->z<n->fp (aa z.toNat):=λz J U=>hp _ (by omega)
  unfold fp at hx
  have wr: ∀z:Int,-100000<=z->z<=100000->IntKind.i64.wrap z=z:=λz J U=>by rw[IntKind.wrap_i64];omega
  have hb: ∀b,nR n sp at_=b->(b=true/\dN n aa sp at_=2/\eZ n aa sp at_=0/\e_ n aa sp at_=false)\/(b=false/\db n*16=n/\0<=sp/\sp<db n/\0<=at_/\at_<=4095/\db n<=24):=λb h=>by
    cases b with
    |true=>left;simp[dN,eZ,e_,h]
    |false=>
     right
     simp[nR,aB]at h
     rcases xA n with⟨f1,f2⟩|⟨f1,f2,f3⟩
     · omega
     · exact⟨rfl,by omega⟩
  have pF:(bif bif bif decide (db n<0)then true else decide (sp<0)then true else decide (db n<=sp)then true else aB at_ 4095)=nR n sp at_:=by
    unfold nR;cases decide (db n<0)<;>cases decide (sp<0)<;>cases decide (db n<=sp)<;>rfl
  simp only[aS,eq_self,implies_true,Bool.cond_self]
  rw[pF]
  refine⟨λh=>?_,λh=>?_⟩
  · rcases hb _ h with⟨_,J,U,h3⟩|⟨h0,_⟩
    · rw[J,U,h3];exact⟨⟨rfl,rfl⟩,rfl⟩
    · cases h0
  rcases hb _ h with⟨h0,_⟩|⟨_,f1,p1,p2,q1,q2,f3⟩
  · cases h0
  have x1:=hx (sp*16+at_/256) (by omega) (by omega)
  have hT:fX (aa (sp*16+at_/256).toNat) (db n)=ng n aa sp at_:=rfl
  rw[hT]
  refine⟨wr _ (by omega) (by omega),⟨by omega,by omega,wr _ (by omega) (by omega)⟩,wr _ (by omega) (by omega),by omega,x1,?_⟩
  rcases rY x1.1 (db n)with⟨t1,t2⟩|⟨t1,t2,t3,t4⟩
  · rw[hT]at t1
    refine⟨λ_=>?_,λh=>by simp[t1]at h⟩
    have e:dN n aa sp at_=9:=by simp[dN,h,t1]
    exact⟨⟨by simp[eZ,e],by simp[e_,e]⟩,e.symm⟩
  rw[hT]at t2 t3 t4
  refine⟨λh=>by simp at h;omega,λ_=>?_⟩
  have x2:=hx (ng n aa sp at_*16+at_/16%16) (by omega) (by omega)
  have hX:aa (ng n aa sp at_*16+at_/16%16).toNat=lL n aa sp at_:=rfl
  rw[hX]at x2⊢
  refine⟨wr _ (by omega) (by omega),⟨by omega,by omega,wr _ (by omega) (by omega)⟩,by omega,wr _ (by omega) (by omega),by omega,x2,?_⟩
  have hP:fX (lL n aa sp at_) (db n)=pT n aa sp at_:=rfl
  rw[hP]
  rcases rY x2.1 (db n)with⟨u1,u2⟩|⟨u1,u2,u3,u4⟩
  · rw[hP]at u1
    refine⟨λ_=>?_,λh=>by simp[u1]at h⟩
    have e:dN n aa sp at_=9:=by simp[dN,h,u1]
    exact⟨⟨by simp[eZ,e],by simp[e_,e]⟩,e.symm⟩
  rw[hP]at u2 u3 u4
  have d1:decide (ng n aa sp at_<0)=false:=decide_eq_false (by omega)
  have d2:decide (pT n aa sp at_<0)=false:=decide_eq_false (by omega)
  have e:dN n aa sp at_=0:=by simp[dN,h,d1,d2]
  refine⟨λh=>by simp at h;omega,λ_=>?_⟩
  have eF:eZ n aa sp at_=pT n aa sp at_:=by simp[eZ,e]
  have eW:e_ n aa sp at_=(lL n aa sp at_/16384%2==1):=by simp[e_,e]
  rw[eF,eW,e]
  repeat' (first|exact trivial|rfl|omega|exact wr _ (by omega) (by omega)|refine And.intro ?_ ?_)
structure JB where
  (n:Nat) (aa:Nat->Int)
def T_:Sy.Spec:=⟨JB,λ⟨n,aa⟩=> [.sl true 1 n (λi_ _=> .v (.int .i64 (aa i_)))],λ_=> [],λ_=>True,λ⟨n,_⟩=> .v (.int .i64 (db n)),λ_=> [],
  λargs mem=>match args with| [a0]=>some ⟨bO a0,λi=>av (bF a0 i 0)⟩|_=>none⟩
def Ua:aQ:=⟨[],(T_).g,none⟩
def JC:JB->Prop:=λ⟨n,_⟩=>let a0:=(n:Int);let b0:=cond (a0%16 !=0) true (decide (384<a0));let c0:Int:=a0/16;a0<=9223372036854775807->(0<=a0/\(0:Int)<16)/\(b0=true->(-1)=db n/\True)/\(b0=false->a0<=9223372036854775807->(0<=a0/\(0:Int)<16/\ah c0=c0)/\c0=db n/\True)
set_option maxHeartbeats 1000000 in
theorem SU:aL Tryz.prog aO 115 Ua:=aW .nil false Tryz.call115 Tryz.func115 (λ_=> []) (V:=JC) (λ_=>by kernel_rfl) λ⟨n,aa⟩ hp=>by
  dsimp only[JC,tn,ah,ak,aE,aD,ay]
  simp only[aS,aZ,eq_self,implies_true,Bool.cond_self,Bool.or_eq_true,Bool.or_eq_false_iff,Bool.and_eq_true,Bool.and_eq_false_iff,decide_eq_true_eq,decide_eq_false_iff_not,beq_iff_eq,beq_eq_false_iff_ne,bne_iff_ne,bne_eq_false_iff_eq,Bool.not_eq_true',Bool.not_eq_false',ne_eq,Int.not_lt,Int.not_le]
  intro _
  rcases xA n with⟨J,U⟩|⟨J,U,h3⟩
  · exact⟨by omega,λ_=>J.symm,λh=>absurd U (by omega)⟩
  · exact⟨by omega,λh=>by omega,λh _=>⟨⟨by omega,by rw[IntKind.wrap_i64];omega⟩,by omega⟩⟩
structure NC where
  (n:Nat) (aa:Nat->Int) (sp at_:Int)
def ND:Sy.Spec:=⟨NC,λ⟨n,aa,sp,at_⟩=> [.sl true 1 n (λi_ _=> .v (.int .i64 (aa i_))),.v (.int .i64 sp),.v (.int .i64 at_)],λ_=> [],λ⟨n,aa,_,_⟩=> ∀i,i<n->fp (aa i),λ⟨n,aa,sp,at_⟩=> .tp 3 (aH [.v (.int .i64 (eZ n aa sp at_)),.v (.bool (e_ n aa sp at_)),.er 35 79 (dN n aa sp at_) (-1)]),λ_=> [],
  λargs mem=>match args with| [a0,a1,a2]=>some ⟨bO a0,λi=>av (bF a0 i 0),av (a1),av (a2)⟩|_=>none⟩
def XR:aQ:=⟨[],(ND).g,none⟩
def NF:NC->Prop:=λ⟨n,aa,sp,at_⟩=>let a0:=db n;let b0:=cond (cond (cond (cond (decide (a0<0)) true (decide (sp<0))) true (decide (a0<=sp))) true (decide (at_<0))) true (decide (4096<=at_));let c0:=eZ n aa sp at_;let d0:=e_ n aa sp at_;let e0:=(True/\0=c0)/\false=d0;let g0:=dN n aa sp at_;let h0:=((-1):Int)=(-1);let k0:Int:=sp*16+at_/256;let l0:Int:=aa (Int.toNat k0);let o0:=dF BinOp.and IntKind.i64 l0 1023;let q0:=cond (dF BinOp.and IntKind.i64 l0 32768==0) true (decide (a0<=o0));let r0:=(e0/\(9:Int)≠0/\g0=9/\h0)/\True;let u0:Int:=o0*16;let v0:Int:=at_/16;let w0:Int:=u0+v0%16;let x0:Int:=aa (Int.toNat w0);let y0:=dF BinOp.and IntKind.i64 x0 1023;let z0:=cond (dF BinOp.and IntKind.i64 x0 32768==0) true (decide (a0<=y0));(((n=n/\(∀a1:Nat,a1<n->True/\aa a1=aa a1))/\True)/\True/\True)/\(b0=true->(e0/\(2:Int)≠0/\g0=2/\h0)/\True)/\(b0=false->ah (sp*16)=sp*16/\(0<=at_/\(0:Int)<256/\ah (at_/256)=at_/256)/\ah k0=k0/\(0<=k0/\k0<(n:Int))/\(q0=true->r0)/\(q0=false->ah u0=u0/\(0<=at_/\(0:Int)<16/\ah v0=v0)/\(0<=v0/\(0:Int)<16)/\ah w0=w0/\(0<=w0/\w0<(n:Int))/\(z0=true->r0)/\(z0=false->(((True/\y0=c0)/\(dF BinOp.and IntKind.i64 x0 16384 !=0)=d0)/\g0=0/\h0)/\True)))
set_option maxHeartbeats 1000000 in
theorem K0:aL Tryz.prog aO 93 XR:=aW (.cons SU .nil) false Tryz.call93 Tryz.func93 (λ_=> []) (V:=NF) (λ_=>by kernel_rfl) λ⟨n,aa,sp,at_⟩ hp=>by
  dsimp only[ND]at hp
  dsimp only[NF,tn,ah,ak,aE,aD,ay]
  have hx: ∀z:Int,0<=z->z<n->fp (aa z.toNat):=λz J U=>hp _ (by omega)
  unfold fp at hx
  have wr: ∀z:Int,-100000<=z->z<=100000->IntKind.i64.wrap z=z:=λz J U=>by rw[IntKind.wrap_i64];omega
  have hb: ∀b,nR n sp at_=b->(b=true/\dN n aa sp at_=2/\eZ n aa sp at_=0/\e_ n aa sp at_=false)\/(b=false/\db n*16=n/\0<=sp/\sp<db n/\0<=at_/\at_<=4095/\db n<=24):=λb h=>by
    cases b with
    |true=>left;simp[dN,eZ,e_,h]
    |false=>
     right
     simp[nR,aB]at h
     rcases xA n with⟨f1,f2⟩|⟨f1,f2,f3⟩
     · omega
     · exact⟨rfl,by omega⟩
  have pF:(bif bif bif bif decide (db n<0)then true else decide (sp<0)then true else decide (db n<=sp)then true else decide (at_<0)then true else decide (4096<=at_))=nR n sp at_:=by
    unfold nR aB;rw[show decide (4096<=at_)=decide (4095<at_)from decide_eq_decide.2 (by omega)];cases decide (db n<0)<;>cases decide (sp<0)<;>cases decide (db n<=sp)<;>cases decide (at_<0)<;>rfl
  simp only[aS,eq_self,implies_true,Bool.cond_self]
  rw[pF]
  refine⟨λh=>?_,λh=>?_⟩
  · rcases hb _ h with⟨_,J,U,h3⟩|⟨h0,_⟩
    · rw[J,U,h3];exact⟨⟨rfl,rfl⟩,by decide,rfl⟩
    · cases h0
  rcases hb _ h with⟨h0,_⟩|⟨_,f1,p1,p2,q1,q2,f3⟩
  · cases h0
  have x1:=hx (sp*16+at_/256) (by omega) (by omega)
  have hT:fX (aa (sp*16+at_/256).toNat) (db n)=ng n aa sp at_:=rfl
  obtain⟨c1,c2⟩:=HS x1.1 x1.2 (db n)
  rw[c1]
  rw[hT]at c2⊢
  refine⟨wr _ (by omega) (by omega),⟨by omega,by omega,wr _ (by omega) (by omega)⟩,wr _ (by omega) (by omega),by omega,?_⟩
  rcases rY x1.1 (db n)with⟨t1,t2⟩|⟨t1,t2,t3,t4⟩
  · rw[hT]at t1
    refine⟨λ_=>?_,λh=>by simp[t1]at h⟩
    have e:dN n aa sp at_=9:=by simp[dN,h,t1]
    exact⟨⟨by simp[eZ,e],by simp[e_,e]⟩,by decide,e⟩
  rw[hT]at t2 t3 t4
  refine⟨λh=>by simp at h;omega,λ_=>?_⟩
  replace c2:=c2.resolve_left (by omega)
  rw[c2]
  have x2:=hx (ng n aa sp at_*16+at_/16%16) (by omega) (by omega)
  have hX:aa (ng n aa sp at_*16+at_/16%16).toNat=lL n aa sp at_:=rfl
  rw[hX]at x2⊢
  refine⟨wr _ (by omega) (by omega),⟨by omega,by omega,wr _ (by omega) (by omega)⟩,by omega,wr _ (by omega) (by omega),by omega,?_⟩
  obtain⟨d1,d2⟩:=HS x2.1 x2.2 (db n)
  rw[d1]
  have hP:fX (lL n aa sp at_) (db n)=pT n aa sp at_:=rfl
  rw[hP]at d2⊢
  rcases rY x2.1 (db n)with⟨u1,u2⟩|⟨u1,u2,u3,u4⟩
  · rw[hP]at u1
    refine⟨λ_=>?_,λh=>by simp[u1]at h⟩
    have e:dN n aa sp at_=9:=by simp[dN,h,u1]
    exact⟨⟨by simp[eZ,e],by simp[e_,e]⟩,by decide,e⟩
  rw[hP]at u2 u3 u4
  have d3:decide (ng n aa sp at_<0)=false:=decide_eq_false (by omega)
  have d4:decide (pT n aa sp at_<0)=false:=decide_eq_false (by omega)
  have e:dN n aa sp at_=0:=by simp[dN,h,d3,d4]
  refine⟨λh=>by simp at h;omega,λ_=>?_⟩
  have eF:eZ n aa sp at_=pT n aa sp at_:=by simp[eZ,e]
  have eW:e_ n aa sp at_=(lL n aa sp at_/16384%2==1):=by simp[e_,e]
  replace d2:=d2.resolve_left (by omega)
  rw[eF,eW,e,d2,Pm 14 (by omega) (by decide) x2.1 x2.2]
  have e14:(lL n aa sp at_/16384%2*16384 !=0)=(lL n aa sp at_/16384%2==1):=by
    have hz:lL n aa sp at_/16384%2=0\/lL n aa sp at_/16384%2=1:=by omega
    rcases hz with h|h<;>rw[h]<;>rfl
  rw[e14]
  repeat' (first|exact trivial|rfl|omega|exact wr _ (by omega) (by omega)|refine And.intro ?_ ?_)
end Go.Proofs.YtmieeldmfehpoaaGreatDoor
set_option linter.unusedVariables false
set_option linter.unusedSimpArgs false
set_option maxRecDepth 100000
namespace Go.Proofs.YtmieeldmfehpoaaGreatDoor
open Go.RowKit Go.Sy
def sK (k b l m:Int):Bool:=decide (b<0)||decide (24<b)||decide (l<1)||decide (24<l)||decide (24<b+l)||(k !=1&&(l !=1||m !=0))||(k==1&&aB m l)
def sL (k g:Int):Bool:=aB g 65535||(decide (0<g)&&k !=7&&k !=8)
def fU (k b l m r g:Int):Int:=
  bif aB k 8 then 3 else
  bif k==0 then(bif b !=0||l !=0||m !=0||r !=0||g !=0 then 2 else 0)else
  bif sK k b l m then 2 else bif aB r 7 then 4 else bif sL k g then 2 else 0
theorem Bq {k b l m r g:Int} (h:fU k b l m r g=0):0<=k/\k<=8/\0<=b/\b<=24/\0<=l/\l<=24/\0<=m/\m<=24/\0<=r/\r<=7/\0<=g/\g<=65535:=by
  unfold fU sK sL aB at h
  simp only[cond_eq_ite,bne,Bool.or_eq_true,Bool.and_eq_true,Bool.not_eq_true',decide_eq_true_eq,beq_iff_eq,beq_eq_false_iff_ne]at h
  repeat' split at h
  all_goals first|(cases h;done)|omega
structure JD where
  (k b l m r g:Int)
def Ub:Sy.Spec:=⟨JD,λ⟨k,b,l,m,r,g⟩=> [.ag 6 (aH [.v (.int .i64 k),.v (.int .i64 b),.v (.int .i64 l),.v (.int .i64 m),.v (.int .i64 r),.v (.int .i64 g)])],λ_=> [],λ_=>True,λ⟨k,b,l,m,r,g⟩=> .v (.int .i64 (fU k b l m r g)),λ_=> [],
  λargs mem=>match args with| [a0]=>some ⟨av (cy a0 0),av (cy a0 1),av (cy a0 2),av (cy a0 3),av (cy a0 4),av (cy a0 5)⟩|_=>none⟩
def Uc:aQ:=⟨[],(Ub).g,none⟩
def JE:JD->Prop:=λ⟨k,b,l,m,r,g⟩=>let a0:=True/\True;let b0:=fU k b l m r g;let c0:=cond (cond (cond (cond (b !=0) true (l !=0)) true (m !=0)) true (r !=0)) true (g !=0);let d0:=2=b0/\True;let e0:=0=b0/\True;let g0:=cond (cond (cond (cond (decide (b<0)) true (decide (24<b))) true (decide (l<1))) true (decide (24<l))) true (decide (24<ah (b+l)));let h0:=cond (k !=1) (cond (l !=1) true (m !=0)) false;let k0:=cond h0 true (cond (k==1) (aB m l) false);let l0:=cond (aB g 65535) true (cond (cond (decide (0<g)) (k !=7) false) (k !=8) false);True/\((k=k/\(8:Int)=8/\True)/\a0)/\(aB k 8=true->3=b0/\True)/\(aB k 8=false->((k==0)=true->(c0=true->d0)/\(c0=false->e0))/\((k==0)=false->(g0=true->d0)/\(g0=false->((k==1)=true->h0=false->(m=m/\l=l/\True)/\a0)/\(k0=true->d0)/\(k0=false->((r=r/\(7:Int)=7/\True)/\a0)/\(aB r 7=true->4=b0/\True)/\(aB r 7=false->((g=g/\(65535:Int)=65535/\True)/\a0)/\(l0=true->d0)/\(l0=false->e0))))))
theorem SH:aL Tryz.prog aO 105 Uc:=aW (.cons sX .nil) true Tryz.call105 Tryz.func105 (λ_=> []) (V:=JE) (λ_=>by kernel_rfl) λ⟨k,b,l,m,r,g⟩ hp=>by
  dsimp only[JE,tn,ah]
  have hw:(bif bif bif bif decide (b<(0:Int))then true else decide ((24:Int)<b)then true else decide (l<(1:Int))then true else decide ((24:Int)<l)then true else decide ((24:Int)<IntKind.i64.wrap (b+l)))=
   (decide (b<0)||decide (24<b)||decide (l<1)||decide (24<l)||decide (24<b+l)):=by
    by_cases h:b<0\/24<b\/l<1\/24<l
    · rcases h with h|h|h|h<;>simp[h]
    · have e:IntKind.i64.wrap (b+l)=b+l:=by rw[IntKind.wrap_i64];omega
      rw[e]
      cases decide (b<0)<;>cases decide (24<b)<;>cases decide (l<1)<;>cases decide (24<l)<;>rfl
  rw[hw]
  unfold fU sK sL aB
  repeat' (first|exact trivial|refine And.intro ?_ ?_|intro h)
  all_goals (clear hw)
  all_goals (try simp only[Bool.cond_true_left,Bool.cond_false_right]at*)
  all_goals (simp only[cond_eq_ite,aB,bne,Bool.or_eq_true,Bool.and_eq_true,Bool.not_eq_true',Bool.not_eq_false',Bool.and_eq_false_iff,decide_eq_true_eq,beq_iff_eq,beq_eq_false_iff_ne,Bool.or_eq_false_iff,decide_eq_false_iff_not,Bool.ite_eq_true_distrib,Bool.ite_eq_false_distrib]at*)
  all_goals (repeat' split)
  all_goals (first|rfl|(exfalso;simp_all<;>omega)|omega)
structure Hm where
  (k b l m r g:Int)
def Rr:Sy.Spec:=⟨Hm,λ⟨k,b,l,m,r,g⟩=> [.ag 6 (aH [.v (.int .i64 k),.v (.int .i64 b),.v (.int .i64 l),.v (.int .i64 m),.v (.int .i64 r),.v (.int .i64 g)])],λ_=> [],λ_=>True,λ⟨k,b,l,m,r,g⟩=> .er 35 79 (fU k b l m r g) (-1),λ_=> [],
  λargs mem=>match args with| [a0]=>some ⟨av (cy a0 0),av (cy a0 1),av (cy a0 2),av (cy a0 3),av (cy a0 4),av (cy a0 5)⟩|_=>none⟩
def Rs:aQ:=⟨[],(Rr).g,none⟩
def Hn:Hm->Prop:=λ⟨k,b,l,m,r,g⟩=>let a0:=cond (decide (k<0)) true (decide (8<k));let b0:=fU k b l m r g;let c0:=((-1):Int)=(-1);let d0:=!(k==0&&(b==0&&(l==0&&(m==0&&(r==0&&(g==0&&true))))));let e0:=((2:Int)≠0/\b0=2/\c0)/\True;let g0:=(b0=0/\c0)/\True;let h0:=cond (cond (cond (decide (b<0)) true (decide (24<=b))) true (decide (l<1))) true (decide (ah (24-b)<l));let k0:=cond (cond (cond (cond (k !=1) (l !=1) false) true (decide (m<0))) true (decide (l<m))) true (cond (k !=1) (m !=0) false);let l0:=cond (decide (r<0)) true (decide (7<r));let o0:=cond (cond (decide (g<0)) true (decide (65535<g))) true (cond (cond (g !=0) (k !=7) false) (k !=8) false);True/\(a0=true->((3:Int)≠0/\b0=3/\c0)/\True)/\(a0=false->((k==0)=true->(d0=true->e0)/\(d0=false->g0))/\((k==0)=false->(h0=true->e0)/\(h0=false->(k0=true->e0)/\(k0=false->(l0=true->((4:Int)≠0/\b0=4/\c0)/\True)/\(l0=false->(o0=true->e0)/\(o0=false->g0))))))
theorem G1:aL Tryz.prog aO 74 Rs:=aW .nil true Tryz.call74 Tryz.func74 (λ_=> []) (V:=Hn) (λ_=>by kernel_rfl) λ⟨k,b,l,m,r,g⟩ hp=>by
  dsimp only[Hn,tn,ah]
  have hw:(bif bif bif decide (b<(0:Int))then true else decide ((24:Int)<=b)then true else decide (l<(1:Int))then true else decide (IntKind.i64.wrap (24 -b)<l))=
   (decide (b<0)||decide (24<b)||decide (l<1)||decide (24<l)||decide (24<b+l)):=by
    by_cases h:b<0\/24<=b\/l<1
    · have:b<0\/24<b\/l<1\/24<b+l:=by omega
      have U:(bif bif bif decide (b<(0:Int))then true else decide ((24:Int)<=b)then true else decide (l<(1:Int))then true else decide (IntKind.i64.wrap (24 -b)<l))=true:=by
        rcases h with h|h|h<;>simp[h]
      rw[U]
      rcases this with h|h|h|h<;>simp[h]
    · have e:IntKind.i64.wrap (24 -b)=24 -b:=by rw[IntKind.wrap_i64];omega
      rw[e]
      have J: ¬b<0:=by omega
      have U: ¬24<=b:=by omega
      have h3: ¬l<1:=by omega
      have h4: ¬24<b:=by omega
      simp[J,U,h3,h4]
      by_cases h5:24 -b<l<;>simp[h5]<;>omega
  rw[hw]
  unfold fU sK sL aB
  repeat' (first|exact trivial|refine And.intro ?_ ?_|intro h)
  all_goals (clear hw)
  all_goals (try simp only[Bool.cond_true_left,Bool.cond_false_right]at*)
  all_goals (simp only[cond_eq_ite,aB,bne,Bool.or_eq_true,Bool.and_eq_true,Bool.not_eq_true',Bool.not_eq_false',Bool.and_eq_false_iff,decide_eq_true_eq,beq_iff_eq,beq_eq_false_iff_ne,Bool.or_eq_false_iff,decide_eq_false_iff_not,Bool.ite_eq_true_distrib,Bool.ite_eq_false_distrib]at*)
  all_goals (repeat' split)
  all_goals (first|rfl|(exfalso;simp_all<;>omega)|omega)
end Go.Proofs.YtmieeldmfehpoaaGreatDoor
namespace Go.Sy
theorem JF {x m:Int} (hx:0<=x) (lG:x<=65535):dF .andNot .i64 x m=x -dF .and .i64 x m:=by
  show IntKind.i64.wrap ((BitVec.ofInt 64 x&&& ~~~BitVec.ofInt 64 m).toNat:Int)=x -IntKind.i64.wrap ((BitVec.ofInt 64 x&&&BitVec.ofInt 64 m).toNat:Int)
  have hX:(BitVec.ofInt 64 x).toNat=x.toNat:=by
    rw[BitVec.toNat_ofInt];congr 1;exact Int.emod_eq_of_lt hx (by simp;omega)
  generalize hA:BitVec.ofInt 64 x=X at hX⊢
  generalize BitVec.ofInt 64 m=Y
  have J:(X&&& ~~~Y)+(X&&&Y)=X:=by
    rw[BitVec.add_eq_or_of_and_eq_zero]
    · ext i hi
      simp
      cases X[i]<;>cases Y[i]<;>rfl
    · ext i hi
      simp
      cases X[i]<;>cases Y[i]<;>simp
  have U:(X&&& ~~~Y).toNat<=X.toNat:=by rw[BitVec.toNat_and];exact Nat.and_le_left
  have h3:(X&&&Y).toNat<=X.toNat:=by rw[BitVec.toNat_and];exact Nat.and_le_left
  have h4:=congrArg BitVec.toNat J
  rw[BitVec.toNat_add]at h4
  rw[IntKind.wrap_i64,IntKind.wrap_i64]
  omega
theorem HV {x:Int} (hx:0<=x) (lG:x<=65535):dF .andNot .i64 x 1023=x -x%1024:=by
  rw[JF hx lG,zc 10 (by omega) (by decide)];rfl
theorem aal (k X:Nat):X&&&2^k=X/2^k%2*2^k:=by
  have hk:X.testBit k=decide (X/2^k%2=1):=Nat.testBit_eq_decide_div_mod_eq
  apply Nat.eq_of_testBit_eq
  intro i
  rw[Nat.testBit_and,Nat.testBit_two_pow]
  rcases Nat.mod_two_eq_zero_or_one (X/2^k)with h|h
  · rw[h]
    by_cases e:k=i
    · subst e;simp[hk,h]
    · simp[e]
  · rw[h,Nat.one_mul,Nat.testBit_two_pow]
    by_cases e:k=i
    · subst e;simp[hk,h]
    · simp[e]
theorem Rt {x:Int} (hx:0<=x) (lG:x<=65535):dF .andNot .i64 x 17407=(x -x%1024) -(x -x%1024)/16384%2*16384:=by
  have e:dF .andNot .i64 x 17407=dF .andNot .i64 (dF .andNot .i64 x 1023) 16384:=by
    show IntKind.i64.wrap ((BitVec.ofInt 64 x&&& ~~~BitVec.ofInt 64 17407).toNat:Int)=IntKind.i64.wrap ((BitVec.ofInt 64 (dF .andNot .i64 x 1023)&&& ~~~BitVec.ofInt 64 16384).toNat:Int)
    have h0:BitVec.ofInt 64 (dF .andNot .i64 x 1023)=BitVec.ofInt 64 x&&& ~~~BitVec.ofInt 64 1023:=by
      have J:dF .andNot .i64 x 1023=IntKind.i64.wrap ((BitVec.ofInt 64 x&&& ~~~BitVec.ofInt 64 1023).toNat:Int):=rfl
      have U:(BitVec.ofInt 64 x&&& ~~~BitVec.ofInt 64 1023).toNat<=65535:=by
        rw[BitVec.toNat_and]
        refine Nat.le_trans Nat.and_le_left ?_
        rw[BitVec.toNat_ofInt,Int.emod_eq_of_lt hx (by simp;omega)];omega
      rw[J,IntKind.wrap_i64]
      apply BitVec.eq_of_toNat_eq
      rw[BitVec.toNat_ofInt]
      generalize (BitVec.ofInt 64 x&&& ~~~BitVec.ofInt 64 1023).toNat=t at U⊢
      show((_:Int)%((2^64:Nat):Int)).toNat=t
      rw[show((2^64:Nat):Int)=18446744073709551616 by decide]
      omega
    rw[h0]
    congr 3
    rw[BitVec.and_assoc]
    congr 1
  rw[e,HV hx lG,JF (by omega) (by omega),EH (by omega) (by omega) (by omega) (by omega)]
  obtain⟨Y,hY⟩: ∃Y:Nat,x -x%1024=Y:=⟨(x -x%1024).toNat,by omega⟩
  rw[hY,Int.toNat_natCast,show Int.toNat 16384=2^14 from rfl,aal]
  simp
theorem RJ {r q:Int} (r0:0<=r) (r1:r<=7) (q0:0<=q) (q1:q<=7):(dF .andNot .i64 r q==0)=(dF .and .i64 q r==r):=by
  have hr:r=0\/r=1\/r=2\/r=3\/r=4\/r=5\/r=6\/r=7:=by omega
  have hq:q=0\/q=1\/q=2\/q=3\/q=4\/q=5\/q=6\/q=7:=by omega
  rcases hr with rfl|rfl|rfl|rfl|rfl|rfl|rfl|rfl<;>rcases hq with rfl|rfl|rfl|rfl|rfl|rfl|rfl|rfl<;>decide
theorem Pn: ∀(L:Nat) (f:Nat->Nat),(∀k,k<=L->f k<L)-> ∃a b,a<b/\b<=L/\f a=f b
  |0,f,h=>absurd (h 0 (Nat.le_refl _)) (by omega)
  |L+1,f,h=>by
   rcases Classical.em (∃k,k<=L/\f k=f (L+1))with⟨k,J,U⟩|cP
   · exact⟨k,L+1,by omega,by omega,U⟩
   · have cf: ∀k,k<=L->f k≠f (L+1):=λk hk e=>cP ⟨k,hk,e⟩
     obtain⟨a,b,J,U,h3⟩:=Pn L (λk=>if f k=L then f (L+1)else f k) λk hk=>by
       have l1:=h k (by omega)
       have l2:=h (L+1) (by omega)
       have l3:=cf k hk
       show(if f k=L then f (L+1)else f k)<L
       split<;>omega
     refine⟨a,b,J,by omega,?_⟩
     have n1:=cf a (by omega)
     have n2:=cf b (by omega)
     have h3:(if f a=L then f (L+1)else f a)=(if f b=L then f (L+1)else f b):=h3
     split at h3<;>split at h3
     · omega
     · exact absurd h3.symm n2
     · exact absurd h3 n1
     · exact h3
theorem Ud (L:Nat) (g:Nat->Nat) (s:Nat->Nat) (hs: ∀k,s k<L->s (k+1)=g (s k)) (bT: ∀k,k<=L->s k<L): ∀k,s k<L:=by
  obtain⟨a,b,J,U,h3⟩:=Pn L s bT
  have gX: ∀n k,k<=n->s k<L:=by
    intro n
    induction n with
    |zero=>intro k hk;exact bT k (by omega)
    |succ n ih=>
     intro k hk
     rcases Nat.lt_or_ge b k with hb|hb
     · --step back by the period
       have aam: ∀d,b+d<=n+1->s (a+d)=s (b+d):=by
         intro d
         induction d with
         |zero=>intro _;exact h3
         |succ d ihd=>
          intro hd
          have e1:=hs (a+d) (ih _ (by omega))
          have e2:=hs (b+d) (ih _ (by omega))
          rw[show a+(d+1)=a+d+1 by omega,show b+(d+1)=b+d+1 by omega,e1,e2,ihd (by omega)]
       have:=aam (k -b) (by omega)
       rw[show b+(k -b)=k by omega]at this
       rw[<-this]
       exact ih _ (by omega)
     · exact bT k (by omega)
  exactλk=>gX k k (Nat.le_refl _)
end Go.Sy
set_option linter.unusedVariables false
set_option linter.unusedSimpArgs false
set_option maxRecDepth 100000
namespace Go.Proofs.YtmieeldmfehpoaaGreatDoor
open Go.RowKit Go.Sy
def bL:Nat->(Nat->Bool)->Nat
  |0,_=>0
  |n+1,p=>bL n p+(bif p n then 1 else 0)
def dp (n:Nat) (p:Nat->Bool):Bool:=!fe n λi=>!p i
theorem jt (p:Nat->Bool): ∀n,bL n p<=n
  |0=>Nat.le_refl _
  |n+1=>by have:=jt p n;unfold bL;cases p n<;>simp<;>omega
theorem kE {n:Nat} {p:Nat->Bool}:dp n p=true↔ ∃i,i<n/\p i=true:=by
  unfold dp
  cases h:fe n λi=>!p i with
  |true=>
   simp only[Bool.not_true,Bool.false_eq_true,false_iff]
   rintro ⟨i,hi,hp⟩
   have:=j5.1 h i hi
   simp[hp]at this
  |false=>
   simp only[Bool.not_false,true_iff]
   refine Classical.byContradiction λhn=>?_
   rw[j5.2]at h
   · cases h
   · intro i hi
     cases hp:p i
     · rfl
     · exact absurd ⟨i,hi,hp⟩ hn
theorem ld {n:Nat} {p:Nat->Bool}:dp n p=false↔ ∀i,i<n->p i=false:=by
  constructor
  · intro h i hi
    cases hp:p i
    · rfl
    · rw[kE.2 ⟨i,hi,hp⟩]at h;cases h
  · intro h
    cases hq:dp n p
    · rfl
    · obtain⟨i,hi,hp⟩:=kE.1 hq
      rw[h i hi]at hp;cases hp
theorem uA (n:Nat) (p:Nat->Bool):dp (n+1) p=(dp n p||p n):=by
  show(!(fe n (λi=>!p i)&&!p n))=(!fe n (λi=>!p i)||p n)
  cases fe n (λi=>!p i)<;>cases p n<;>rfl
def v_:Nat->(Nat->Nat)->Nat
  |0,_=>0
  |n+1,f=>v_ n f+f n
theorem uX {f:Nat->Nat} {b:Nat}: ∀{n:Nat},(∀i,i<n->f i<=b)->v_ n f<=n*b
  |0,_=>by simp[v_]
  |n+1,h=>by
   have J:=uX (n:=n) λi hi=>h i (by omega)
   have U:=h n (by omega)
   unfold v_;rw[Nat.succ_mul];omega
def bB (n:Nat) (p:Nat->Bool) (e:Int) (r:Int×Int):Int×Int:=bif Nat.blt (bU n p) n then(e,((bU n p:Nat):Int))else r
theorem fy {n i:Nat} {p:Nat->Bool} {e:Int} {r:Int×Int} (hb: ∀j,j<i->p j=false) (hp:p i=true) (hi:i<n):bB n p e r=(e,((i:Nat):Int)):=by
  unfold bB;rw[oK hb hp hi,cD hi];rfl
theorem dD {n:Nat} {p:Nat->Bool} {e:Int} {r:Int×Int} (h: ∀j,j<n->p j=false):bB n p e r=r:=by
  unfold bB;rw[sj h,eI (Nat.le_refl _)];rfl
theorem BN {p:Nat->Bool}: ∀{n:Nat},bU n p<n->p (bU n p)=true/\ ∀j,j<bU n p->p j=false:=by
  intro n h
  rcases Classical.em (∃i,i<n/\p i=true)with hx|hx
  · --the least one
    have key: ∀k i,i<=k->i<n->p i=true-> ∃m,m<n/\p m=true/\ ∀j,j<m->p j=false:=by
      intro k
      induction k with
      |zero=>
       intro i hi hn hp
       exact⟨i,hn,hp,λj hj=>absurd hj (by omega)⟩
      |succ k ih=>
       intro i hi hn hp
       rcases Classical.em (∃j,j<i/\p j=true)with⟨j,hj,hpj⟩|cP
       · exact ih j (by omega) (by omega) hpj
       · refine⟨i,hn,hp,λj hj=>?_⟩
         cases hq:p j
         · rfl
         · exact absurd ⟨j,hj,hq⟩ cP
    obtain⟨i,hi,hp⟩:=hx
    obtain⟨m,J,U,h3⟩:=key i i (Nat.le_refl _) hi hp
    rw[oK h3 U J]
    exact⟨U,h3⟩
  · have: ∀j,j<n->p j=false:=λj hj=>by
      cases hq:p j
      · rfl
      · exact absurd ⟨j,hj,hq⟩ hx
    rw[sj this]at h
    omega
theorem p_ {n i:Nat} {p:Nat->Bool} (hi:i<n) (hp:p i=true):bU n p<n:=by
  rcases Nat.lt_or_ge (bU n p) n with h|h
  · exact h
  · have e:bU n p=n:=Nat.le_antisymm (p9 p n) h
    rcases Classical.em (∃j,j<i+1/\p j=true/\ ∀k,k<j->p k=false)with⟨j,J,U,h3⟩|cP
    · rw[oK h3 U (by omega)]at h;omega
    · exfalso
      have: ∀k,k<i+1->p k=false:=by
        intro k
        induction k using Nat.strongRecOn with
        |_ k ih=>
         intro hk
         cases hq:p k
         · rfl
         · exact absurd ⟨k,hk,hq,λj hj=>ih j hj (by omega)⟩ cP
      rw[this i (by omega)]at hp;cases hp
theorem RS {n:Nat} {p q:Nat->Bool} {e:Int} {r r':Int×Int} (h: ∀i,i<n->p i=q i) (hr:(∀i,i<n->p i=false)->r=r'):bB n p e r=bB n q e r':=by
  rcases Nat.lt_or_ge (bU n p) n with J|J
  · obtain⟨U,h3⟩:=BN J
    rw[fy h3 U J,fy (p:=q) (λj hj=>by rw[<-h j (by omega)];exact h3 j hj) (by rw[<-h _ J];exact U) J]
  · have: ∀i,i<n->p i=false:=λi hi=>by
      cases hq:p i
      · rfl
      · have:=p_ hi hq;omega
    rw[dD this,dD (λj hj=>by rw[<-h j hj];exact this j hj),hr this]
theorem kD {n:Nat} {p:Nat->Bool} {e:Int} {r:Int×Int} (he:e≠0) (h:(bB n p e r).1=0):(∀i,i<n->p i=false)/\r.1=0:=by
  rcases Nat.lt_or_ge (bU n p) n with J|J
  · obtain⟨U,h3⟩:=BN J
    rw[fy h3 U J]at h;exact absurd h he
  · have: ∀i,i<n->p i=false:=λi hi=>by
      cases hq:p i
      · rfl
      · have:=p_ hi hq;omega
    rw[dD this]at h
    exact⟨this,h⟩
def cm (W:Wd) (f:Int):Int:=bif decide (f<0)||decide ((W.ar:Int)<=f)then -1 else W.kinds f.toNat
theorem ll {W:Wd} {f:Int} (h:cm W f≠ -1):0<=f/\f<W.ar:=by
  unfold cm at h
  cases J:decide (f<0)<;>cases U:decide ((W.ar:Int)<=f)<;>simp[J,U]at h<;>simp at J U<;>omega
theorem DR {W:Wd} {f:Int} (h:0<=f/\f<W.ar):cm W f=W.kinds f.toNat:=by
  unfold cm;rw[decide_eq_false (by omega),decide_eq_false (by omega)];rfl
theorem C0 {W:Wd} {f:Int} (h:f<0\/W.ar<=f):cm W f= -1:=by
  unfold cm
  rcases h with h|h
  · rw[decide_eq_true h];rfl
  · rw[decide_eq_true h];cases decide (f<0)<;>rfl
def pf (W:Wd):Bool:=
  decide (W.ar<1)||decide (24<W.ar)||decide (W.aP<1)||decide (4<W.aP)||W.aq !=W.ar*16||W.aw !=W.ar*16||W.az !=W.ar||W.ba !=W.ar||W.aN !=W.ar||W.aT !=W.aP*4||W.aG !=W.aP||decide (W.aI<1)||decide (8<W.aI)||aB W.time 1000000
structure bW (W:Wd):Prop where
  k0:1<=W.ar
  k1:W.ar<=24
  c0:1<=W.aP
  c1:W.aP<=4
  aa:W.aq=W.ar*16
  af:W.aw=W.ar*16
  tasks:W.az=W.ar
  lines:W.ba=W.ar
  bits:W.aN=W.ar
  ready:W.aT=W.aP*4
  aj:W.aG=W.aP
  d0:1<=W.aI
  d1:W.aI<=8
  t0:0<=W.time
  t1:W.time<=1000000
theorem D2 {W:Wd} (h:pf W=false):bW W:=by
  unfold pf aB at h
  simp only[Bool.or_eq_false_iff,decide_eq_false_iff_not,bne_eq_false_iff_eq]at h
  obtain⟨⟨⟨⟨⟨⟨⟨⟨⟨⟨⟨⟨⟨J,U⟩,h3⟩,h4⟩,h5⟩,h6⟩,h7⟩,h8⟩,h9⟩,dU⟩,fm⟩,iK⟩,jq⟩,xe,mG⟩:=h
  exact⟨by omega,by omega,by omega,by omega,h5,h6,h7,h8,h9,dU,fm,by omega,by omega,by omega,by omega⟩
def kv (W:Wd):Prop:=(∀i,i<W.ba->W.ao i<=50)/\(∀i,i<W.aT->W.aJ i<=50)/\(∀i,i<W.aG->W.aA i<=50)
def gN (s:cp):Int:=fU s.kind s.base s.len s.mark s.cQ s.bJ
def dh (W:Wd) (u:Int):Bool:=decide (0<=u)&&decide (u<W.aw)
def iV (W:Wd) (u:Int):Int:=bif dh W u then(W.af u.toNat).from_ else u
def cA (W:Wd) (u:Int):Nat->Int
  |0=>u
  |k+1=>iV W (cA W u k)
def gI (k p:cp):Bool:=
  gN p==0&&bif p.kind==1 then k.kind !=1&&decide (p.base<=k.base)&&decide (k.base -p.base<p.mark)else k.kind==p.kind&&k.base==p.base&&(p.bJ==0||p.bJ==k.bJ)&&(((jC 6 p.cQ.toNat k.cQ.toNat:Nat):Int)==k.cQ)
def kU (W:Wd) (i:Nat) (s:cp):Bool:=
  bif s.kind==0 then gN s==0&&s.from_== -1 else
  W.kinds (i/16)==5&&gN s==0&&decide (s.base+s.len<=W.ar)&&(s.kind==1||W.kinds s.base.toNat==s.kind)&&
  (s.from_== -1||(dh W s.from_&&gI s (W.af s.from_.toNat)&&!dh W (cA W s.from_ W.aw)))
def cT (W:Wd) (i:Nat):Bool:=kU W i (W.af i)
theorem C2 {W:Wd} {i:Nat} {s:cp} (h:kU W i s=true):gN s=0:=by
  unfold kU at h
  cases hk:s.kind==0<;>simp only[hk,cond_true,cond_false,Bool.and_eq_true,beq_iff_eq]at h
  · exact h.1.1.1.2
  · exact h.1
theorem nt {s:cp} (h:gN s=0):0<=s.kind/\s.kind<=8/\0<=s.base/\s.base<=24/\0<=s.len/\s.len<=24/\0<=s.mark/\s.mark<=24/\0<=s.cQ/\s.cQ<=7/\0<=s.bJ/\s.bJ<=65535:=Bq h
theorem dT {p:Nat->Bool} {i:Nat} (h: ∀j,j<i->p j=false) (hi:p i=false): ∀j,j<i+1->p j=false:=by
  intro j hj
  rcases Nat.lt_or_ge j i with h3|h3
  · exact h j h3
  · obtain rfl:j=i:=by omega
    exact hi
theorem yX {W:Wd} {u:Int} (h:dh W u=true):iV W u=(W.af u.toNat).from_:=by unfold iV;rw[h];rfl
theorem VW {W:Wd} {u:Int} (h:dh W u=false):iV W u=u:=by unfold iV;rw[h];rfl
theorem kI {W:Wd} {u:Int}:dh W u=true↔0<=u/\u<W.aw:=by unfold dh;simp
theorem K9 {W:Wd} {u:Int} {k:Nat} (h:dh W (cA W u k)=false): ∀{m:Nat},k<=m->cA W u m=cA W u k
  |m,hm=>by
   induction m with
   |zero=>obtain rfl:k=0:=by omega
          rfl
   |succ m ih=>
    rcases Nat.lt_or_ge m k with J|J
    · obtain rfl:k=m+1:=by omega
      rfl
    · show iV W (cA W u m)=_
      rw[ih J,VW h]
def eO (s:cp) (f:Nat):Bool:=s.kind==1&&decide (s.base<=f)&&decide ((f:Int)<s.base+s.len)
def gF (s:cp) (f:Nat):Bool:=eO s f&&decide (s.base+s.mark<=f)
def fW (s:cp) (f:Nat):Bool:=s.kind !=1&&s.kind !=0&&s.base==f
def iL (W:Wd) (f:Nat):Bool:=
  decide (bL W.aw (λi=>eO (W.af i) f)<=1)&&(W.kinds f==0||(decide (0<bL W.aw λi=>fW (W.af i) f)&&!dp W.aw λi=>gF (W.af i) f))
def n9 (n:Nat) (l:Nat->Int) (x:Int):Nat:=bL n λk=>l k==x
def eJ (n:Nat) (ln:Nat->Nat) (l:Nat->Nat->Int) (x:Int):Nat:=v_ n λi=>n9 (ln i) (l i) x
def fF (n:Nat) (l:Nat->Int) (x:Int):Bool:=dp n λk=>l k==x
def kM (t:bu):Bool:=aB t.r0 65535||aB t.r1 65535||aB t.r2 65535||aB t.r3 65535||aB t.r4 65535||aB t.r5 65535||aB t.r6 65535||aB t.r7 65535
def lZ (W:Wd) (t:bu):Bool:=aB t.pc 65535||aB t.word 65535||aB t.bJ 65535||aB t.st 6||aB t.prio 3||aB t.core (W.aP -1)||aB t.dH 3
def okF (W:Wd) (f k:Int):Bool:=f== -1||cm W f==k
def jO (W:Wd) (t:bu):Bool:=okF W t.node 5&&okF W t.space 4&&okF W t.helper 7&&okF W t.aX 6
def mR (W:Wd) (t:bu):Bool:=t.aX== -1||((W.tasks t.aX.toNat).st==5&&t.st !=4)
def Ak (W:Wd) (f:Nat):Nat:=bL W.az λi=>(W.tasks i).aX==f
def lp (W:Wd) (f:Nat):Bool:=decide (Ak W f<=1)&&((Ak W f==1)==((W.tasks f).st==5))
def kN (W:Wd) (f:Nat):Nat:=eJ W.ba W.ao W.lines f
def im (W:Wd) (f:Nat):Nat:=eJ W.aT W.aJ W.ready f+n9 W.aP W.aF f
def sM (W:Wd) (f:Nat) (k:Int):Bool:=(kN W f==1)&&(im W f==0)&&cm W (W.tasks f).loc==k&&fF (W.ao (W.tasks f).loc.toNat) (W.lines (W.tasks f).loc.toNat) f
def km (W:Wd) (f:Nat):Bool:=
  let s:=(W.tasks f).st
  bif s==2||s==3||s==4 then sM W f 7 else bif s==6 then sM W f 8 else
  bif s==1 then(kN W f==0)&&(im W f==1)&&(W.tasks f).loc== -1 else(kN W f==0)&&(im W f==0)&&(W.tasks f).loc== -1
def cS (W:Wd) (f:Nat):Bool:=
  let t:=W.tasks f
  bif W.kinds f !=6 then ke t bu.blank else !kM t&&!lZ W t&&jO W t&&mR W t&&lp W f&&km W f
def oz (W:Wd) (t:Int):Bool:=(W.tasks t.toNat).st==4
def fA (W:Wd) (f:Nat) (t:Int):Bool:=cm W t==6&&(W.tasks t.toNat).loc==f&&(oz W t==oz W (W.lines f 0))
def cU (W:Wd) (f:Nat):Bool:=
  !(decide (0<W.ao f)&&W.kinds f !=7&&W.kinds f !=8)&&!(W.bits f !=0&&(W.kinds f !=8||decide (0<W.ao f)))&&!aB (W.bits f) 65535&&fe (W.ao f) λi=>fA W f (W.lines f i)
def dB (W:Wd) (t c p:Int):Bool:=cm W t==6&&(W.tasks t.toNat).st==1&&(W.tasks t.toNat).core==c&&(decide (p<0)||(W.tasks t.toNat).prio==p)
def dg (W:Wd) (c:Nat):Bool:=W.aF c== -1||dB W (W.aF c) c (-1)
def dC (W:Wd) (i:Nat):Bool:=fe (W.aJ i) λk=>dB W (W.ready i k) ((i/4:Nat):Int) ((i%4:Nat):Int)
def cV (W:Wd) (i:Nat):Bool:=
  let x:=W.aa i
  let k:=W.kinds (i/16)
  x==0||(k !=3&&k !=4)||(bif k==4 then x -x%1024==32768&&cm W (x%1024)==3 else(x -x%1024==32768||x -x%1024==49152)&&cm W (x%1024)==2)
def eX (W:Wd) (l:Nat->bI) (i:Nat):Bool:=
  cm W (l i).sp==4&&!aB (l i).pg 255&&dN W.aq W.aa (l i).sp (16*(l i).pg)==0&&eZ W.aq W.aa (l i).sp (16*(l i).pg)==(l i).fr&&(e_ W.aq W.aa (l i).sp (16*(l i).pg)==(l i).wr)&&!dp i λk=>(l k).sp==(l i).sp&&(l k).pg==(l i).pg
def cI (W:Wd) (n:Nat) (l:Nat->bI):Bool:=decide (n<=4)&&fe n λi=>eX W l i
def oA (W:Wd) (r:Int×Int):Int×Int:=bB W.aq (λi=>aB (W.aa i) 65535) 1<|bB W.ar (λi=>aB (W.kinds i) 8||W.kinds i==1) 3<|bB W.aI (λi=>aB (W.aM i) 3) 2 r
def pO (W:Wd) (r:Int×Int):Int×Int:=bB W.aw (λi=>!cT W i) 8 r
def rR (W:Wd) (r:Int×Int):Int×Int:=bB W.ar (λi=>!iL W i) 8 r
def pP (W:Wd) (r:Int×Int):Int×Int:=bB W.ar (λi=>!cS W i) 8 r
def pQ (W:Wd) (r:Int×Int):Int×Int:=bB W.ar (λi=>!cU W i) 8 r
def pR (W:Wd) (r:Int×Int):Int×Int:=bB W.aP (λi=>!dg W i) 8<|bB W.aT (λi=>!dC W i) 8 r
def pS (W:Wd) (r:Int×Int):Int×Int:=bB W.aq (λi=>!cV W i) 9<|bB W.aP (λi=>!cI W (W.aA i) (W.aj i)) 9 r
def wm (W:Wd):Int×Int:=bif pf W then(2,-1)else oA W (pO W (rR W (pP W (pQ W (pR W (pS W (0,-1)))))))
end Go.Proofs.YtmieeldmfehpoaaGreatDoor
set_option linter.unusedVariables false
set_option linter.unusedSimpArgs false
set_option maxRecDepth 100000
namespace Go.Proofs.YtmieeldmfehpoaaGreatDoor
open Go.RowKit Go.Sy
def Zn (n:Nat) (l:Nat->Int) (x:Int):bS where
  σ:=Nat
  rt:= []
  sh i:= [(5,.v (.int .i64 i))]
  mh _:= []
  inv i:=i<=n/\ ∀j,j<i->(l j==x)=false
  μ i:=n -i
  init:=0
def XF (n:Nat) (ln:Nat->Nat) (l:Nat->Nat->Int) (x:Int):bS where
  σ:=Nat
  rt:= []
  sh i:= [(6,.v (.int .i64 i)),(5,.v (.int .i64 (eJ i ln l x:Nat)))]
  mh _:= []
  inv i:=i<=n
  μ i:=n -i
  init:=0
def XG (ln:Nat->Nat) (l:Nat->Nat->Int) (x:Int) (i c:Int):bS where
  σ:=Nat
  rt:= []
  sh k:= [(7,.v (.int .i64 k)),(5,.v (.int .i64 (c+(bL k λq=>l i.toNat q==x:Nat))))]
  mh _:= []
  inv k:=k<=ln i.toNat
  μ k:=ln i.toNat -k
  init:=0
def Zo (W:Wd) (f:Nat):bS where
  σ:=Nat
  rt:= [(2,0)]
  sh i:= [(2,bd 0),(8,.v (.int .i64 i)),(5,.v (.int .i64 (bL i λk=>eO (W.af k) f:Nat))),(6,.v (.bool (dp i λk=>gF (W.af k) f))),(7,.v (.int .i64 (bL i λk=>fW (W.af k) f:Nat)))]
  mh _:= []
  inv i:=i<=W.aw
  μ i:=W.aw -i
  init:=0
def Zm (W:Wd) (u:Int):bS where
  σ:=Nat
  rt:= [(2,0)]
  sh k:= [(2,bd 0),(9,.v (.int .i64 k)),(8,.v (.int .i64 (cA W u k)))]
  mh _:= []
  inv k:=k<=W.aw
  μ k:=W.aw -k
  init:=0
structure Jr where
  (W:Wd) (f:Int)
def TU:Sy.Spec:=⟨Jr,λ⟨W,f⟩=> [eY W,.v (.int .i64 f)],λ_=> [],λ_=>True,λ⟨W,f⟩=> .v (.int .i64 (cm W f)),λ_=> [],
  λargs mem=>match args with| [a0,a1]=>some ⟨eP a0,av (a1)⟩|_=>none⟩
def TV:aQ:=⟨[],(TU).g,none⟩
def Js:Jr->Prop:=λ⟨W,f⟩=>let a0:=cond (decide (f<0)) true (decide (((W.ar:Nat):Int)<=f));True/\(a0=true->(-1)=cm W f/\True)/\(a0=false->(0<=f/\f<((W.ar:Nat):Int))/\W.kinds (Int.toNat f)=cm W f/\True)
theorem uz:aL Tryz.prog aO 107 TV:=aW .nil false Tryz.call107 Tryz.func107 (λ_=> []) (V:=Js) (λ_=>by kernel_rfl) λ⟨W,f⟩ hp=>by
  dsimp only[Js,tn,ah,ak,aE,aD,ay]
  simp only[aS,aZ,eq_self,implies_true,Bool.cond_self]
  refine⟨λh=>?_,λh=>?_⟩
  · rw[Bool.or_eq_true,decide_eq_true_eq,decide_eq_true_eq]at h;exact(C0 h).symm
  · rw[Bool.or_eq_false_iff,decide_eq_false_iff_not,decide_eq_false_iff_not]at h
    have U:0<=f/\f<W.ar:=by omega
    exact⟨U,(DR U).symm⟩
structure Pd where
  (x:Int) (n:Nat) (l:Nat->Int)
def Zp:Sy.Spec:=⟨Pd,λ⟨x,n,l⟩=> [.v (.int .i64 x),.sl true 1 n (λi_ _=> .v (.int .i64 (l i_)))],λ_=> [],λ_=>True,λ⟨x,n,l⟩=> .v (.bool (fF n l x)),λ_=> [],
  λargs mem=>match args with| [a0,a1]=>some ⟨av (a0),bO a1,λi=>av (bF a1 i 0)⟩|_=>none⟩
def Zq:aQ:=⟨[],(Zp).g,none⟩
def Pe:Pd->Prop:=λ⟨x,n,l⟩=>let a0:=(n:Int);0=((0:Nat):Int)/\True/\(0<=n/\(∀b0:Nat,b0<0->(l b0==x)=false))/\(∀c0:Nat,let d0:=(c0:Int);let e0:=decide (d0<a0);let g0:=l (Int.toNat d0)==x;let h0:Int:=d0+1;c0<=n/\(∀k0:Nat,k0<c0->(l k0==x)=false)->a0<=9223372036854775807->(e0=true->(0<=d0/\d0<a0)/\(g0=true->true=fF n l x/\True)/\(g0=false->ah h0=h0/\(∃l0:Nat,h0=(l0:Int)/\True/\(l0<=n/\(∀o0:Nat,o0<l0->(l o0==x)=false))/\n-l0<n-c0)))/\(e0=false->false=fF n l x/\True))
theorem XE:aL Tryz.prog aO 109 Zq:=aW .nil false Tryz.call109 Tryz.func109 (λ⟨x,n,l⟩=> [.inv (Zn n l x)]) (V:=Pe) (λ_=>by kernel_rfl) λ⟨x,n,l⟩ hp=>by
  dsimp only[Pe,tn,ah,ak,aE,aD,ay]
  simp only[aS,eq_self,implies_true,Bool.cond_self]
  intro s hs hn
  refine⟨λh=>?_,λh=>?_⟩
  · have ai:=aY h
    refine⟨by omega,λh=>(kE.2 ⟨s,ai,h⟩).symm,λh=>⟨by rw[IntKind.wrap_i64];omega,bZ ⟨⟨by omega,dT (p:=λj=>l j==x) hs.2 h⟩,by omega⟩⟩⟩
  · have bo:=bD h
    obtain rfl:s=n:=by omega
    exact(ld.2 hs.2).symm
structure HP where
  (n:Nat) (ln:Nat->Nat) (l:Nat->Nat->Int) (x:Int)
def HQ:Sy.Spec:=⟨HP,λ⟨n,ln,l,x⟩=> [.sl true 1 n (λi _=> .sl true 1 (ln i) (iF (l i))),.v (.int .i64 x)],λ_=> [],λ⟨n,ln,_,_⟩=>n<=1000/\ ∀i,i<n->ln i<=1000,λ⟨n,ln,l,x⟩=> .v (.int .i64 (eJ n ln l x:Nat)),λ_=> [],
  λargs mem=>match args with| [a0,a1]=>some ⟨bO a0,λi=>bO (bF a0 i 0),λi k=>av (bF (bF a0 i 0) k 0),av (a1)⟩|_=>none⟩
def RR:aQ:=⟨[],(HQ).g,none⟩
def HR:HP->Prop:=λ⟨n,ln,l,x⟩=>let a0:=(n:Int);0=((0:Nat):Int)/\0=((eJ 0 ln l x:Nat):Int)/\True/\0<=n/\(∀b0:Nat,let c0:=(b0:Int);let d0:=decide (c0<a0);let e0:=((eJ b0 ln l x:Nat):Int);let g0:=Int.toNat c0;let h0:=ln g0;let k0:=0<=c0/\c0<a0;let l0:=(h0:Int);let o0:Int:=c0+1;b0<=n->a0<=9223372036854775807->(d0=true->0=((0:Nat):Int)/\e0=e0+((bL 0 (λq0:Nat=>l g0 q0==x):Nat):Int)/\True/\0<=h0/\(∀r0:Nat,let u0:=(r0:Int);let v0:=decide (u0<l0);let w0:=l g0 (Int.toNat u0)==x;let x0:Int:=e0+((bL r0 (λy0:Nat=>l g0 y0==x):Nat):Int);let z0:Int:=x0+1;let a1:Int:=u0+1;let b1:=ah a1=a1;r0<=h0->k0/\(l0<=9223372036854775807->(v0=true->k0/\(0<=u0/\u0<l0)/\(w0=true->ah z0=z0/\b1/\(∃c1:Nat,a1=(c1:Int)/\z0=e0+((bL c1 (λd1:Nat=>l g0 d1==x):Nat):Int)/\True/\c1<=h0/\h0-c1<h0-r0))/\(w0=false->b1/\(∃e1:Nat,a1=(e1:Int)/\x0=e0+((bL e1 (λg1:Nat=>l g0 g1==x):Nat):Int)/\True/\e1<=h0/\h0-e1<h0-r0)))/\(v0=false->ah o0=o0/\(∃J:Nat,o0=(J:Int)/\x0=((eJ J ln l x:Nat):Int)/\True/\J<=n/\n-J<n-b0)))))/\(d0=false->e0=((eJ n ln l x:Nat):Int)/\True))
theorem Rm:aL Tryz.prog aO 108 RR:=aW .nil false Tryz.call108 Tryz.func108 (λ⟨n,ln,l,x⟩=> [.inv (XF n ln l x),.ph false λfr=>XG ln l x (av (fr 6)) (av (fr 5))]) (V:=HR) (λ_=>by kernel_rfl) λ⟨n,ln,l,x⟩ hp=>by
  dsimp only[HQ]at hp
  dsimp only[HR,tn,ah,ak,aE,aD,ay]
  simp only[aS,eq_self,implies_true,Bool.cond_self]
  refine⟨rfl,λs hs hn=>⟨λh=>?_,λh=>?_⟩⟩
  · have ai:=aY h
    have hl:=hp.2 s ai
    have hc:eJ s ln l x<=s*1000:=uX λi hi=>Nat.le_trans (jt _ _) (hp.2 i (by omega))
    refine⟨by simp[bL],λk hk=>⟨by omega,λhm=>⟨λU=>?_,λU=>?_⟩⟩⟩
    · have Fh:=aY U
      have hb:=jt (λq=>l s q==x) k
      refine⟨by omega,by omega,λh3=>?_,λh3=>?_⟩
      · have e:(bL (k+1) λq=>l s q==x)=(bL k λq=>l s q==x)+1:=by simp[bL,h3]
        exact⟨by rw[IntKind.wrap_i64];omega,by rw[IntKind.wrap_i64];omega,bZ ⟨by rw[e];omega,by omega,by omega⟩⟩
      · have e:(bL (k+1) λq=>l s q==x)=(bL k λq=>l s q==x):=by simp[bL,h3]
        exact⟨by rw[IntKind.wrap_i64];omega,bZ ⟨by rw[e],by omega,by omega⟩⟩
    · have bo:=bD U
      obtain rfl:k=ln s:=by omega
      refine⟨by rw[IntKind.wrap_i64];omega,bZ ⟨?_,by omega,by omega⟩⟩
      rw[show eJ (s+1) ln l x=eJ s ln l x+bL (ln s) (λq=>l s q==x)from rfl];omega
  · have bo:=bD h
    obtain rfl:s=n:=by omega
    rfl
structure si where
  (W:Wd) (t c p:Int)
def xL:Sy.Spec:=⟨si,λ⟨W,t,c,p⟩=> [eY W,.v (.int .i64 t),.v (.int .i64 c),.v (.int .i64 p)],λ_=> [],λ⟨W,_,_,_⟩=>bW W,λ⟨W,t,c,p⟩=> .v (.bool (dB W t c p)),λ_=> [],
  λargs mem=>match args with| [a0,a1,a2,a3]=>some ⟨eP a0,av (a1),av (a2),av (a3)⟩|_=>none⟩
def SI:aQ:=⟨[],(xL).g,none⟩
def Ip:si->Prop:=λ⟨W,t,c,p⟩=>let a0:=W.ar;let b0:=W.aw;let c0:=W.az;let d0:=W.ba;let e0:=W.aP;let g0:=W.aT;let h0:=cm W t==6;let k0:=0<=t/\t<(c0:Int);let l0:=W.tasks (Int.toNat t);let o0:=cond h0 (l0.st==1) false;let q0:=cond o0 (l0.core==c) false;True/\(((((((((((((True/\W.aq=W.aq/\(∀r0:Nat,r0<W.aq->True/\W.aa r0=W.aa r0))/\a0=a0/\(∀u0:Nat,u0<a0->True/\W.kinds u0=W.kinds u0))/\b0=b0/\(∀v0:Nat,v0<b0->aD (W.af v0) (W.af v0)))/\c0=c0/\(∀w0:Nat,w0<c0->aE (W.tasks w0) (W.tasks w0)))/\d0=d0/\(∀x0:Nat,let y0:=W.ao x0;x0<d0->True/\y0=y0/\(∀z0:Nat,z0<y0->True/\W.lines x0 z0=W.lines x0 z0)))/\W.aN=W.aN/\(∀a1:Nat,a1<W.aN->True/\W.bits a1=W.bits a1))/\e0=e0/\(∀b1:Nat,b1<e0->True/\W.aF b1=W.aF b1))/\g0=g0/\(∀c1:Nat,let d1:=W.aJ c1;c1<g0->True/\d1=d1/\(∀e1:Nat,e1<d1->True/\W.ready c1 e1=W.ready c1 e1)))/\W.aG=W.aG/\(∀g1:Nat,let J:=W.aA g1;g1<W.aG->True/\J=J/\(∀k1:Nat,k1<J->ay (W.aj g1 k1) (W.aj g1 k1))))/\W.aI=W.aI/\(∀l1:Nat,l1<W.aI->True/\W.aM l1=W.aM l1))/\W.time=W.time)/\t=t/\True)/\True/\True)/\(h0=true->k0)/\(o0=true->k0)/\(decide (p<0)=false->q0=true->k0)/\cond q0 (cond (decide (p<0)) true (l0.prio==p)) false=dB W t c p/\True
theorem RL:aL Tryz.prog aO 61 SI:=aW (.cons uz .nil) false Tryz.call61 Tryz.func61 (λ_=> []) (V:=Ip) (λ_=>by kernel_rfl) λ⟨W,t,c,p⟩ hp=>by
  dsimp only[xL]at hp
  dsimp only[Ip,tn,ah,ak,aE,aD,ay]
  simp only[aS,aZ,eq_self,implies_true,Bool.cond_self]
  have hr:(cm W t==6)=true->0<=t/\t<W.az:=λh=>by
    have:=ll (W:=W) (f:=t) (by rw[eq_of_beq h];decide)
    rw[hp.tasks];exact this
  refine⟨hr,λh=>hr (by revert h;cases cm W t==6<;>simp),λ_ h=>hr (by revert h;cases cm W t==6<;>simp),rfl⟩
structure Hh where
  (W:Wd) (f:Int)
def Hi:Sy.Spec:=⟨Hh,λ⟨W,f⟩=> [eY W,.v (.int .i64 f)],λ_=> [],λ⟨W,f⟩=>bW W/\0<=f/\f<W.ar/\ ∀i,i<W.aw->cT W i=true,λ⟨W,f⟩=> .v (.bool (iL W f.toNat)),λ_=> [],
  λargs mem=>match args with| [a0,a1]=>some ⟨eP a0,av (a1)⟩|_=>none⟩
def Rn:aQ:=⟨[],(Hi).g,none⟩
def Hj:Hh->Prop:=λ⟨W,f⟩=>let a0:=SV.ptr 0 0 none 0 0=SV.ptr 0 0 none 0 0;let b0:=Int.toNat f;let c0:=W.ar;let d0:=W.aw;let e0:=W.az;let g0:=W.ba;let h0:=W.aP;let k0:=W.aT;let l0:=(((((((((((True/\W.aq=W.aq/\(∀o0:Nat,o0<W.aq->True/\W.aa o0=W.aa o0))/\c0=c0/\(∀q0:Nat,q0<c0->True/\W.kinds q0=W.kinds q0))/\d0=d0/\(∀r0:Nat,r0<d0->aD (W.af r0) (W.af r0)))/\e0=e0/\(∀u0:Nat,u0<e0->aE (W.tasks u0) (W.tasks u0)))/\g0=g0/\(∀v0:Nat,let w0:=W.ao v0;v0<g0->True/\w0=w0/\(∀x0:Nat,x0<w0->True/\W.lines v0 x0=W.lines v0 x0)))/\W.aN=W.aN/\(∀y0:Nat,y0<W.aN->True/\W.bits y0=W.bits y0))/\h0=h0/\(∀z0:Nat,z0<h0->True/\W.aF z0=W.aF z0))/\k0=k0/\(∀a1:Nat,let b1:=W.aJ a1;a1<k0->True/\b1=b1/\(∀c1:Nat,c1<b1->True/\W.ready a1 c1=W.ready a1 c1)))/\W.aG=W.aG/\(∀d1:Nat,let e1:=W.aA d1;d1<W.aG->True/\e1=e1/\(∀g1:Nat,g1<e1->ay (W.aj d1 g1) (W.aj d1 g1))))/\W.aI=W.aI/\(∀J:Nat,J<W.aI->True/\W.aM J=W.aM J))/\W.time=W.time)/\True;let k1:=(d0:Int);True/\a0/\0=((0:Nat):Int)/\0=((bL 0 (λl1:Nat=>eO (W.af l1) b0):Nat):Int)/\false=dp 0 (λo1:Nat=>gF (W.af o1) b0)/\0=((bL 0 (λq1:Nat=>fW (W.af q1) b0):Nat):Int)/\l0/\0<=d0/\(∀r1:Nat,let u1:=(r1:Int);let v1:=decide (u1<k1);let w1:=W.af (Int.toNat u1);let x1:=w1.kind;let y1:=w1.base;let z1:=cond (x1==1) (decide (y1<=f)) false;let a2:Int:=y1+w1.len;let b2:=cond z1 (decide (f<a2)) false;let c2:=((bL r1 (λd2:Nat=>eO (W.af d2) b0):Nat):Int);let e2:Int:=c2+1;let g2:=dp r1 (λU:Nat=>gF (W.af U) b0);
    let k2:Int:=y1+w1.mark;let l2:=cond (cond (x1 !=1) (x1 !=0) false) (y1==f) false;let o2:=l2=true;let q2:=((bL r1 (λr2:Nat=>fW (W.af r2) b0):Nat):Int);let u2:Int:=q2+1;let v2:=ah u2=u2;let w2:Int:=u1+1;let x2:=ah w2=w2;let y2:=cond g2 true (decide (k2<=f));let z2:=d0-r1;let a3:=l2=false;let b3:=decide (c2<=1);r1<=d0->k1<=9223372036854775807->(v1=true->(0<=u1/\u1<k1)/\True/\tn 5 True/\(z1=true->ah a2=a2)/\(b2=true->ah e2=e2/\(g2=false->ah k2=k2)/\(o2->v2/\x2/\(∃c3:Nat,a0/\w2=(c3:Int)/\e2=((bL c3 (λd3:Nat=>eO (W.af d3) b0):Nat):Int)/\y2=dp c3 (λe3:Nat=>gF (W.af e3) b0)/\u2=((bL c3 (λg3:Nat=>fW (W.af g3) b0):Nat):Int)/\l0/\c3<=d0/\d0-c3<z2))/\(a3->x2/\(∃h3:Nat,a0/\w2=(h3:Int)/\e2=((bL h3 (λk3:Nat=>eO (W.af k3) b0):Nat):Int)/\y2=dp h3 (λl3:Nat=>gF (W.af l3) b0)/\q2=((bL h3 (λo3:Nat=>fW (W.af o3) b0):Nat):Int)/\l0/\h3<=d0/\d0-h3<z2)))/\(b2=false->(o2->v2/\x2/\(∃q3:Nat,a0/\w2=(q3:Int)/\c2=((bL q3 (λr3:Nat=>eO (W.af r3) b0):Nat):Int)/\g2=dp q3 (λu3:Nat=>gF (W.af u3) b0)/\u2=((bL q3 (λv3:Nat=>fW (W.af v3) b0):Nat):Int)/\l0/\q3<=d0/\d0-q3<z2))/\(a3->x2/\(∃w3:Nat,a0/\w2=(w3:Int)/\c2=((bL w3 (λx3:Nat=>eO (W.af x3) b0):Nat):Int)/\g2=dp w3 (λy3:Nat=>gF (W.af y3) b0)/\q2=((bL w3 (λz3:Nat=>fW (W.af z3) b0):Nat):Int)/\l0/\w3<=d0/\d0-w3<z2))))/\(v1=false->(b3=true->0<=f/\f<(c0:Int))/\cond b3 (cond (W.kinds b0==0) true (cond (decide (0<q2)) (!g2) false)) false=iL W b0/\True))
theorem Q0:aL Tryz.prog aO 58 Rn:=aW .nil false Tryz.call58 Tryz.func58 (λ⟨W,f⟩=> [.inv (Zo W f.toNat)]) (V:=Hj) (λ_=>by kernel_rfl) λ⟨W,f⟩ hp=>by
  dsimp only[Hi]at hp
  dsimp only[Hj,tn,ah,ak,aE,aD,ay]
  obtain⟨hz,f0,f1,hs⟩:=hp
  obtain⟨F,rfl⟩: ∃F:Nat,f=F:=⟨f.toNat,by omega⟩
  simp only[aS,aZ,eq_self,implies_true,Bool.cond_self]
  refine⟨rfl,rfl,rfl,λs py hn=>⟨λh=>?_,λh=>?_⟩⟩
  · have ai:=aY h
    have hr:=nt (C2 (hs s ai))
    have k1:IntKind.i64.wrap ((s:Int)+1)=s+1:=by rw[IntKind.wrap_i64];omega
    have hb1:=jt (λk=>eO (W.af k) F) s
    have jT:=jt (λk=>fW (W.af k) F) s
    have kc:((W.af s).kind==1&&decide ((W.af s).base<=F)&&decide ((F:Int)<(W.af s).base+(W.af s).len))=eO (W.af s) F:=rfl
    have kk:((W.af s).kind !=1&&(W.af s).kind !=0&&(W.af s).base==F)=fW (W.af s) F:=rfl
    have ec:(bL (s+1) λk=>eO (W.af k) F)=(bL s λk=>eO (W.af k) F)+(bif eO (W.af s) F then 1 else 0):=rfl
    have ek:(bL (s+1) λk=>fW (W.af k) F)=(bL s λk=>fW (W.af k) F)+(bif fW (W.af s) F then 1 else 0):=rfl
    have ef:(dp (s+1) λk=>gF (W.af k) F)=((dp s λk=>gF (W.af k) F)||gF (W.af s) F):=uA _ _
    rw[kc,kk]
    refine⟨by omega,λ_=>by rw[IntKind.wrap_i64];omega,λhc=>?_,λhc=>?_⟩
    · have jh:gF (W.af s) F=decide ((W.af s).base+(W.af s).mark<=F):=by unfold gF;rw[hc];rfl
      refine⟨by rw[IntKind.wrap_i64];omega,λ_=>by rw[IntKind.wrap_i64];omega,λhk=>?_,λhk=>?_⟩
      · exact⟨by rw[IntKind.wrap_i64];omega,k1,bZ ⟨by rw[ec,hc];simp,by rw[ef,jh],by rw[ek,hk];simp,by omega,by omega⟩⟩
      · exact⟨k1,bZ ⟨by rw[ec,hc];simp,by rw[ef,jh],by rw[ek,hk];simp,by omega,by omega⟩⟩
    · have jh:gF (W.af s) F=false:=by unfold gF;rw[hc];rfl
      refine⟨λhk=>?_,λhk=>?_⟩
      · exact⟨by rw[IntKind.wrap_i64];omega,k1,bZ ⟨by rw[ec,hc];simp,by rw[ef,jh];simp,by rw[ek,hk];simp,by omega,by omega⟩⟩
      · exact⟨k1,bZ ⟨by rw[ec,hc];simp,by rw[ef,jh];simp,by rw[ek,hk];simp,by omega,by omega⟩⟩
  · have bo:=bD h
    obtain rfl:s=W.aw:=by omega
    refine⟨λ_=>by omega,?_⟩
    unfold iL
    rw[show decide (((bL W.aw λk=>eO (W.af k) F:Nat):Int)<=1)=decide ((bL W.aw λk=>eO (W.af k) F)<=1)from decide_eq_decide.2 (by omega),show decide (0<((bL W.aw λk=>fW (W.af k) F:Nat):Int))=decide (0<bL W.aw λk=>fW (W.af k) F)from decide_eq_decide.2 (by omega)]
end Go.Proofs.YtmieeldmfehpoaaGreatDoor
set_option linter.unusedVariables false
set_option linter.unusedSimpArgs false
set_option maxRecDepth 100000
namespace Go.Proofs.YtmieeldmfehpoaaGreatDoor
open Go.RowKit Go.Sy
theorem sr {W:Wd} {i:Nat} {s:cp} (h:(s.kind==0)=false):kU W i s=(W.kinds (i/16)==5&&gN s==0&&decide (s.base+s.len<=W.ar)&&(s.kind==1||W.kinds s.base.toNat==s.kind)&&(s.from_== -1||(dh W s.from_&&gI s (W.af s.from_.toNat)&&!dh W (cA W s.from_ W.aw)))):=by unfold kU;rw[h];rfl
theorem zL {W:Wd} {u:Int}:(decide (u<0)||decide ((W.aw:Int)<=u))=!dh W u:=by
  cases hq:dh W u with
  |true=>have:=kI.1 hq;rw[decide_eq_false (by omega),decide_eq_false (by omega)];rfl
  |false=>
   have: ¬(0<=u/\u<W.aw):=λh=>by rw[kI.2 h]at hq;cases hq
   rcases Int.lt_or_le u 0 with h|h
   · rw[decide_eq_true h];rfl
   · rw[decide_eq_true (show(W.aw:Int)<=u by omega)];simp
theorem K8 {W:Wd} {u:Int} {b:Bool} (hN:W.aw<=1000) (hR:b=!dh W (cA W u W.aw)):u=cA W u 0/\ ∀(s:Nat),s<=W.aw->(W.aw:Int)<=9223372036854775807->
    ((decide ((s:Int)<(W.aw:Int))&&decide (0<=cA W u s)&&decide (cA W u s<(W.aw:Int)))=true->(0<=cA W u s/\cA W u s<(W.aw:Int))/\IntKind.i64.wrap ((s:Int)+1)=(s:Int)+1/\ ∃s':Nat,(s:Int)+1=(s':Int)/\(W.af (cA W u s).toNat).from_=cA W u s'/\s'<=W.aw/\W.aw -s'<W.aw -s)/\
    ((decide ((s:Int)<(W.aw:Int))&&decide (0<=cA W u s)&&decide (cA W u s<(W.aw:Int)))=false->(decide (cA W u s<0)||decide ((W.aw:Int)<=cA W u s))=b):=by
  refine⟨rfl,λs hs _=>⟨λh=>?_,λh=>?_⟩⟩
  · simp only[Bool.and_eq_true,decide_eq_true_eq]at h
    obtain⟨⟨J,U⟩,h3⟩:=h
    exact⟨⟨U,h3⟩,by rw[IntKind.wrap_i64];omega,bZ ⟨(yX (kI.2 ⟨U,h3⟩)).symm,by omega,by omega⟩⟩
  · rw[hR,zL]
    congr 1
    cases hq:dh W (cA W u s)with
    |false=>rw[K9 hq hs,hq]
    |true=>
     have U:=kI.1 hq
     simp only[decide_eq_true U.1,decide_eq_true U.2,Bool.and_true]at h
     obtain rfl:s=W.aw:=by have:=of_decide_eq_false h;omega
     exact hq.symm
theorem HL (s:cp):fU s.kind s.base s.len s.mark s.cQ s.bJ=gN s:=rfl
theorem rP {b:Bool} (h:b=true->False):false=b:=by cases b<;>simp_all
structure HM where
  (W:Wd) (i:Int)
def HN:Sy.Spec:=⟨HM,λ⟨W,i⟩=> [eY W,.v (.int .i64 i)],λ_=> [],λ⟨W,i⟩=>bW W/\0<=i/\i<W.aw,λ⟨W,i⟩=> .v (.bool (cT W i.toNat)),λ_=> [],
  λargs mem=>match args with| [a0,a1]=>some ⟨eP a0,av (a1)⟩|_=>none⟩
def RP:aQ:=⟨[],(HN).g,none⟩
def HO:HM->Prop:=λ⟨W,i⟩=>let a0:=W.aw;let b0:=(a0:Int);let c0:=True/\True;let d0:=tn 4 c0;let e0:=W.af (Int.toNat i);let g0:=e0.kind;let h0:=g0==0;let k0:=e0.base;let l0:=e0.len;let o0:=e0.mark;let q0:=e0.cQ;let r0:=q0=q0;let u0:=e0.bJ;let v0:=(((((((True/\g0=g0)/\k0=k0)/\l0=l0)/\o0=o0)/\r0)/\u0=u0)/\True)/\c0;let w0:=fU g0 k0 l0 o0 q0 u0;let x0:=e0.from_;let y0:=x0==(-1);let z0:=cT W (Int.toNat i);let a1:Int:=i/16;let b1:=W.ar;let c1:=(b1:Int);let d1:=W.kinds (Int.toNat a1) !=5;let e1:=cond d1 true (w0 !=0);let g1:Int:=k0+l0;let J:=cond e1 true (decide (c1<g1));let k1:=false=z0/\True;let l1:=g0 !=1;let o1:=cond l1 (W.kinds (Int.toNat k0) !=g0) false;let q1:=cond (decide (x0<0)) true (decide (b0<=x0));let r1:=W.af (Int.toNat x0);let u1:=r1.kind;let v1:=r1.base;let w1:=r1.len;let x1:=r1.mark;let y1:=r1.cQ;let z1:=y1=y1;let a2:=r1.bJ;let b2:=fU u1 v1 w1 x1 y1 a2 !=0;let c2:=u1==1;let d2:=cond (g0==1) true (decide (k0<v1));let e2:Int:=k0-v1;let g2:=cond d2 true (decide (x1<=e2));let U:=SV.ptr 0 0 none 0 0=SV.ptr 0 0 none 0 0;let k2:=W.az;let l2:=W.ba;let o2:=W.aP;let q2:=W.aT;
    let r2:=(((((((((((True/\W.aq=W.aq/\(∀u2:Nat,u2<W.aq->True/\W.aa u2=W.aa u2))/\b1=b1/\(∀v2:Nat,v2<b1->True/\W.kinds v2=W.kinds v2))/\a0=a0/\(∀w2:Nat,w2<a0->aD (W.af w2) (W.af w2)))/\k2=k2/\(∀x2:Nat,x2<k2->aE (W.tasks x2) (W.tasks x2)))/\l2=l2/\(∀y2:Nat,let z2:=W.ao y2;y2<l2->True/\z2=z2/\(∀a3:Nat,a3<z2->True/\W.lines y2 a3=W.lines y2 a3)))/\W.aN=W.aN/\(∀b3:Nat,b3<W.aN->True/\W.bits b3=W.bits b3))/\o2=o2/\(∀c3:Nat,c3<o2->True/\W.aF c3=W.aF c3))/\q2=q2/\(∀d3:Nat,let e3:=W.aJ d3;d3<q2->True/\e3=e3/\(∀g3:Nat,g3<e3->True/\W.ready d3 g3=W.ready d3 g3)))/\W.aG=W.aG/\(∀h3:Nat,let k3:=W.aA h3;h3<W.aG->True/\k3=k3/\(∀l3:Nat,l3<k3->ay (W.aj h3 l3) (W.aj h3 l3))))/\W.aI=W.aI/\(∀o3:Nat,o3<W.aI->True/\W.aM o3=W.aM o3))/\W.time=W.time)/\True;let q3:=U/\0=((0:Nat):Int)/\x0=cA W x0 0/\r2/\0<=a0/\(∀r3:Nat,let u3:=cA W x0 r3;let v3:=cond (cond (decide ((r3:Int)<b0)) (decide (0<=u3)) false) (decide (u3<b0)) false;let w3:Int:=(r3:Int)+1;r3<=a0->b0<=9223372036854775807->(v3=true->(0<=u3/\u3<b0)/\ah w3=w3/\(∃x3:Nat,U/\w3=(x3:Int)/\(W.af (Int.toNat u3)).from_=cA W x0 x3/\r2/\x3<=a0/\a0-x3<a0-r3))/\(v3=false->cond (decide (u3<0)) true (decide (b0<=u3))=z0/\True));let y3:=cond (cond (u1 !=g0) true (v1 !=k0)) true (cond (a2 !=0) (a2 !=u0) false);let z3:=cond y3 true (((jC 6 (Int.toNat y1) (Int.toNat q0):Nat):Int) !=q0);True/\(0<=i/\i<b0)/\True/\(True/\d0)/\True/\d0/\(h0=true->v0/\cond (w0==0) y0 false=z0/\True)/\(h0=false->(0<=i/\(0:Int)<16/\ah a1=a1)/\(0<=a1/\a1<c1)/\(d1=false->v0)/\(e1=false->ah g1=g1)/\(J=true->
    k1)/\(J=false->tn 8 ((l1=true->0<=k0/\k0<c1)/\tn 3 ((o1=true->k1)/\(o1=false->(y0=true->true=z0/\True)/\(y0=false->(q1=true->k1)/\(q1=false->(0<=x0/\x0<b0)/\True/\d0/\((((((((True/\u1=u1)/\v1=v1)/\w1=w1)/\x1=x1)/\z1)/\a2=a2)/\True)/\c0)/\(b2=true->k1)/\(b2=false->(c2=true->(d2=false->ah e2=e2)/\(g2=true->k1)/\(g2=false->q3))/\(c2=false->tn 29 ((y3=false->(z1/\r0/\(6:Int)=6/\True)/\True/\0<=y1/\y1<=65535/\0<=q0/\q0<=65535/\((6:Int)=6\/(6:Int)=7\/(6:Int)=8))/\tn 2 ((z3=true->k1)/\(z3=false->q3))))))))))))
theorem Ri:aL Tryz.prog aO 57 RP:=aW (.cons SH (.cons RQ .nil)) false Tryz.call57 Tryz.func57 (λ⟨W,i⟩=> [.inv (Zm W (W.af i.toNat).from_)]) (V:=HO) (λ_=>by kernel_rfl) λ⟨W,i⟩ hp=>by
  dsimp only[HN]at hp
  dsimp only[HO,tn,ah,ak,aE,aD,ay]
  obtain⟨hz,i0,i1⟩:=hp
  obtain⟨I,rfl⟩: ∃I:Nat,i=I:=⟨i.toNat,by omega⟩
  simp only[aS,aZ,eq_self,implies_true,Bool.cond_self]
  have rQ:((I:Int)/16).toNat=I/16:=by omega
  unfold cT
  rw[rQ]
  simp only[HL]
  have mF:=hz.af
  have m_:=hz.k1
  have rO:=hz.k0
  have toP: ∀{b:Bool},b=false-> ¬b=true:=λh=>by rw[h];exact Bool.false_ne_true
  obtain⟨S,hS⟩: ∃S,S=W.af I:=⟨_,rfl⟩
  simp only[<-hS]
  refine⟨by omega,λh=>?_,λh=>⟨⟨by decide,by rw[IntKind.wrap_i64];omega⟩,⟨by omega,by omega⟩,λJ=>?_,λJ=>?_,λJ=>?_⟩⟩
  · unfold kU;rw[h];rfl
  · simp only[Bool.or_eq_false_iff,bne_eq_false_iff_eq]at J
    have:=nt J.2
    rw[IntKind.wrap_i64];omega
  · refine rP λht=>?_
    rw[sr h]at ht
    simp only[Bool.and_eq_true,Bool.or_eq_true,beq_iff_eq,decide_eq_true_eq,bne_iff_ne,ne_eq]at ht J
    omega
  have T:W.kinds (I/16)=5/\gN S=0/\S.base+S.len<=W.ar:=by
    simp only[Bool.or_eq_false_iff,bne_eq_false_iff_eq,decide_eq_false_iff_not]at J
    exact⟨J.1.1,J.1.2,by omega⟩
  obtain⟨T1,T2,T3⟩:=T
  have hr:=nt T2
  have Qo:S.kind≠0:=by simpa using h
  have hlen:1<=S.len:=by
    have h0:fU S.kind S.base S.len S.mark S.cQ S.bJ=0:=T2
    unfold fU sK sL aB at h0
    simp only[cond_eq_ite,bne,Bool.or_eq_true,Bool.and_eq_true,Bool.not_eq_true',decide_eq_true_eq,beq_iff_eq,beq_eq_false_iff_ne]at h0
    repeat' split at h0
    all_goals first|(cases h0;done)|omega
  refine⟨λ_=>by omega,λU=>?_,λU=>?_⟩
  · refine rP λht=>?_
    rw[sr h]at ht
    simp only[Bool.and_eq_true,Bool.or_eq_true,beq_iff_eq,decide_eq_true_eq,bne_iff_ne,ne_eq]at ht U
    omega
  have T4:(S.kind==1||W.kinds S.base.toNat==S.kind)=true:=by
    revert U
    simp only[bne]
    cases S.kind==1<;>cases W.kinds S.base.toNat==S.kind<;>simp
  have core:kU W I S=(S.from_== -1||(dh W S.from_&&gI S (W.af S.from_.toNat)&&!dh W (cA W S.from_ W.aw))):=by
    rw[sr h,T4,show(W.kinds (I/16)==5)=true from beq_iff_eq.2 T1,show(gN S==0)=true from beq_iff_eq.2 T2,show decide (S.base+S.len<=W.ar)=true from decide_eq_true T3]
    simp
  rw[core]
  refine⟨λh3=>by rw[h3];rfl,λh3=>?_⟩
  rw[h3,zL]
  refine⟨λh4=>by rw[show dh W S.from_=false by revert h4;cases dh W S.from_<;>simp];rfl,λh4=>?_⟩
  have bT:dh W S.from_=true:=by revert h4;cases dh W S.from_<;>simp
  rw[bT]
  have gS:=kI.1 bT
  obtain⟨p,hp⟩: ∃p,p=W.af S.from_.toNat:=⟨_,rfl⟩
  simp only[<-hp]
  refine⟨gS,λh5=>?_,λh5=>?_⟩
  · rw[show gI S p=false by unfold gI;rw[show(gN p==0)=false by simpa using h5];rfl];rfl
  have Ba:gN p=0:=by simpa using h5
  have AS:=nt Ba
  refine⟨λh6=>?_,λh6=>?_⟩
  · have hm:gI S p=(S.kind !=1&&decide (p.base<=S.base)&&decide (S.base -p.base<p.mark)):=by unfold gI;rw[h6,show(gN p==0)=true from beq_iff_eq.2 Ba];rfl
    refine⟨λ_=>by rw[IntKind.wrap_i64];omega,λh7=>?_,λh7=>?_⟩
    · refine rP λht=>?_
      rw[hm]at ht
      simp only[Bool.and_eq_true,Bool.or_eq_true,beq_iff_eq,decide_eq_true_eq,bne_iff_ne,ne_eq,Bool.false_eq_true,false_or]at ht h7
      omega
    · refine K8 (by omega) ?_
      have:gI S p=true:=by
        rw[hm]
        simp only[Bool.and_eq_true,Bool.or_eq_false_iff,beq_eq_false_iff_ne,decide_eq_true_eq,decide_eq_false_iff_not,bne_iff_ne,ne_eq]at h7⊢
        omega
      rw[this];rfl
  · have hm:gI S p=(S.kind==p.kind&&S.base==p.base&&(p.bJ==0||p.bJ==S.bJ)&&(((jC 6 p.cQ.toNat S.cQ.toNat:Nat):Int)==S.cQ)):=by unfold gI;rw[h6,show(gN p==0)=true from beq_iff_eq.2 Ba];rfl
    refine⟨λ_=>⟨by omega,by omega,by omega,by omega,.inl trivial⟩,λh7=>?_,λh7=>?_⟩
    · refine rP λht=>?_
      rw[hm]at ht
      simp only[Bool.and_eq_true,Bool.or_eq_true,beq_iff_eq,decide_eq_true_eq,bne_iff_ne,ne_eq,Bool.false_eq_true,false_or]at ht h7
      omega
    · refine K8 (by omega) ?_
      have:gI S p=true:=by
        rw[hm]
        simp only[Bool.and_eq_true,Bool.or_eq_true,Bool.or_eq_false_iff,Bool.and_eq_false_iff,beq_iff_eq,bne_eq_false_iff_eq,decide_eq_true_eq,decide_eq_false_iff_not,bne_iff_ne,ne_eq]at h7⊢
        omega
      rw[this];rfl
end Go.Proofs.YtmieeldmfehpoaaGreatDoor
set_option linter.unusedVariables false
set_option linter.unusedSimpArgs false
set_option maxRecDepth 100000
namespace Go.Proofs.YtmieeldmfehpoaaGreatDoor
open Go.RowKit Go.Sy
def wL (W:Wd):List SV:= [.sl true 1 W.aq (iF W.aa),.sl true 1 W.ar (iF W.kinds),.sl true 7 W.aw (rF λi=>kx (W.af i)),.sl true 20 W.az (rF λi=>gZ (W.tasks i)),.sl true 1 W.ba (λi _=> .sl true 1 (W.ao i) (iF (W.lines i))),.sl true 1 W.aN (iF W.bits),.sl true 1 W.aP (iF W.aF),.sl true 1 W.aT (λi _=> .sl true 1 (W.aJ i) (iF (W.ready i))),.sl true 1 W.aG (λi _=> .sl true 4 (W.aA i) (rF λk=>eG (W.aj i k))),.sl true 1 W.aI (iF W.aM),.v (.int .i64 W.time)]
def XB (W:Wd) (f:Nat):bS where
  σ:=Nat
  rt:= [(2,0),(5,0)]
  sh i:= [(2,bd 0),(5,bd 1),(6,.v (.int .i64 i))]
  mh _:= []
  inv i:=i<=8/\ ∀j,j<i->aB (fj [(W.tasks f).r0,(W.tasks f).r1,(W.tasks f).r2,(W.tasks f).r3,(W.tasks f).r4,(W.tasks f).r5,(W.tasks f).r6,(W.tasks f).r7] j) 65535=false
  μ i:=8 -i
  init:=0
def XC (W:Wd) (f:Nat):bS where
  σ:=Nat
  rt:= [(2,0),(5,0)]
  sh i:= [(2,bd 0),(5,bd 1),(8,.v (.int .i64 i)),(7,.v (.int .i64 (bL i λk=>(W.tasks k).aX==f:Nat)))]
  mh _:= []
  inv i:=i<=W.az
  μ i:=W.az -i
  init:=0
theorem zg (a:Nat):(((a:Nat):Int)==0)=(a==0):=by rw[Bool.eq_iff_iff];simp
theorem vl (a:Nat):(((a:Nat):Int)==1)=(a==1):=by rw[Bool.eq_iff_iff];simp;omega
theorem C1 {W:Wd} {f:Nat} (h:(W.kinds f !=6)=false):cS W f=(!kM (W.tasks f)&&!lZ W (W.tasks f)&&jO W (W.tasks f)&&mR W (W.tasks f)&&lp W f&&km W f):=by unfold cS;rw[h];rfl
theorem Nu {t:bu} (h: ∀j,j<8->aB (fj [t.r0,t.r1,t.r2,t.r3,t.r4,t.r5,t.r6,t.r7] j) 65535=false):kM t=false:=by
  unfold kM
  have h0:aB t.r0 65535=false:=h 0 (by omega)
  have J:aB t.r1 65535=false:=h 1 (by omega)
  have U:aB t.r2 65535=false:=h 2 (by omega)
  have h3:aB t.r3 65535=false:=h 3 (by omega)
  have h4:aB t.r4 65535=false:=h 4 (by omega)
  have h5:aB t.r5 65535=false:=h 5 (by omega)
  have h6:aB t.r6 65535=false:=h 6 (by omega)
  have h7:aB t.r7 65535=false:=h 7 (by omega)
  rw[h0,J,U,h3,h4,h5,h6,h7];rfl
theorem Nv {t:bu} (h:kM t=false): ∀j,j<8->aB (fj [t.r0,t.r1,t.r2,t.r3,t.r4,t.r5,t.r6,t.r7] j) 65535=false:=by
  unfold kM at h
  simp only[Bool.or_eq_false_iff]at h
  obtain⟨⟨⟨⟨⟨⟨⟨h0,J⟩,U⟩,h3⟩,h4⟩,h5⟩,h6⟩,h7⟩:=h
  intro j hj
  have:j=0\/j=1\/j=2\/j=3\/j=4\/j=5\/j=6\/j=7:=by omega
  rcases this with rfl|rfl|rfl|rfl|rfl|rfl|rfl|rfl
  · exact h0
  · exact J
  · exact U
  · exact h3
  · exact h4
  · exact h5
  · exact h6
  · exact h7
theorem Nw {W:Wd} {f k:Int} (hk:k≠ -1) (h:okF W f k=true) (hf:(f != -1)=true):0<=f/\f<W.ar:=by
  unfold okF at h
  have:(f== -1)=false:=by revert hf;simp only[bne];cases f== -1<;>simp
  rw[this]at h
  have h:cm W f=k:=by simpa using h
  exact ll (by rw[h];exact hk)
theorem VV {W:Wd} {f c:Nat} (hc:Ak W f=c):(decide (1<(c:Int))||((c:Int)==1&&(W.tasks f).st !=5)||((c:Int)==0&&(W.tasks f).st==5))=!lp W f:=by
  unfold lp
  rw[hc,zg,vl]
  have:c=0\/c=1\/2<=c:=by omega
  rcases this with rfl|rfl|h
  · cases hq:(W.tasks f).st==5<;>simp[bne,hq]
  · cases hq:(W.tasks f).st==5<;>simp[bne,hq]
  · rw[decide_eq_true (show(1:Int)<c by omega),decide_eq_false (show¬c<=1 by omega)];rfl
theorem PV (n:Nat) (l:Nat->Int) (x:Int):eJ 1 (λ_=>n) (λ_=>l) x=n9 n l x:=by show 0+n9 n l x=n9 n l x;omega
structure Bo where
  b:Bool
def XD (W:Wd) (f:Nat):Cut where
  σ:=Bo
  rt:= [(2,0),(5,0)]
  sh s:= [(2,bd 0),(5,bd 1),(9,.v (.int .i64 (kN W f:Nat))),(10,.v (.int .i64 (im W f:Nat))),(187,.v (.int .i64 (W.tasks f).st)),(188,.v (.bool s.b))]
  mem _:= [.cells (wL W),.cells (gZ (W.tasks f))]
  inv s:=s.b=((W.tasks f).st==2||(W.tasks f).st==3||(W.tasks f).st==4)
  dec fr _:=⟨vm (fr 188)⟩
structure HI where
  (W:Wd) (f:Int)
def HJ:Sy.Spec:=⟨HI,λ⟨W,f⟩=> [eY W,.v (.int .i64 f)],λ_=> [],λ⟨W,f⟩=>bW W/\kv W/\0<=f/\f<W.ar,λ⟨W,f⟩=> .v (.bool (cS W f.toNat)),λ_=> [],
  λargs mem=>match args with| [a0,a1]=>some ⟨eP a0,av (a1)⟩|_=>none⟩
def RO:aQ:=⟨[],(HJ).g,none⟩
def HK:HI->Prop:=λ⟨W,f⟩=>let a0:=W.az;let b0:=(a0:Int);let c0:=True/\True;let d0:=True/\c0;let e0:=W.ar;let g0:=Int.toNat f;let h0:=W.kinds g0 !=6;let k0:=W.tasks g0;let l0:=k0.r0;let o0:=k0.r1;let q0:=k0.r2;let u0:=k0.r3;let v0:=k0.r4;let w0:=k0.r5;let x0:=k0.r6;let y0:=k0.r7;let z0:=k0.pc;let a1:=k0.st;let b1:=k0.prio;let c1:=k0.node;let d1:=k0.space;let e1:=k0.helper;let g1:=k0.loc;let J:=g1==(-1);let k1:=k0.word;let l1:=k0.bJ;let o1:=k0.aX;let q1:=k0.core;let u1:=k0.dH;let v1:=cS W g0;let w1:=SV.ptr 0 0 none 0 0=SV.ptr 0 0 none 0 0;let x1:=SV.ptr (0+1) 0 none 0 0=SV.ptr 1 0 none 0 0;let y1:=W.aw;let z1:=W.ba;let a2:=z1=z1/\(∀b2:Nat,let c2:=W.ao b2;b2<z1->True/\c2=c2/\(∀d2:Nat,d2<c2->True/\W.lines b2 d2=W.lines b2 d2));let e2:=W.aP;let g2:=e2=e2/\(∀U:Nat,U<e2->True/\W.aF U=W.aF U);let k2:=W.aT;let l2:=k2=k2/\(∀o2:Nat,let q2:=W.aJ o2;o2<k2->True/\q2=q2/\(∀u2:Nat,u2<q2->True/\W.ready o2 u2=W.ready o2 u2));let v2:=((((((((((True/\W.aq=W.aq/\(∀w2:Nat,w2<W.aq->True/\W.aa w2=W.aa w2))/\e0=e0/\(∀x2:Nat,x2<e0->True/\W.kinds x2=W.kinds x2))/\y1=y1/\(∀y2:Nat,y2<y1->aD (W.af y2) (W.af y2)))/\a0=a0/\(∀z2:Nat,z2<a0->aE (W.tasks z2) (W.tasks z2)))/\a2)/\W.aN=W.aN/\(∀a3:Nat,a3<W.aN->True/\W.bits a3=W.bits a3))/\g2)/\l2)/\W.aG=W.aG/\(∀b3:Nat,let c3:=W.aA b3;b3<W.aG->True/\c3=c3/\(∀d3:Nat,d3<c3->ay (W.aj b3 d3) (W.aj b3 d3))))/\W.aI=W.aI/\(∀e3:Nat,e3<W.aI->True/\W.aM e3=W.aM e3))/\W.time=W.time;let g3:=v2/\aE k0 k0/\True;let h3:=[l0,o0,q0,u0,v0,w0,x0,y0];
    let k3:=(65535:Int)=65535/\True;let l3:=false=v1/\True;let o3:=aB z0 65535;let q3:=cond o3 true (aB k1 65535);let u3:=cond q3 true (aB l1 65535);let v3:=a1=a1;let w3:=cond u3 true (aB a1 6);let x3:=(3:Int)=3/\True;let y3:=cond w3 true (aB b1 3);let z3:=y3=false;let a4:Int:=(e2:Int)-1;let b4:=cond y3 true (aB q1 a4);let c4:=cond b4 true (aB u1 3);let d4:=c1 !=(-1);let e4:=d1 !=(-1);let g4:=cond d4 (cm W c1 !=5) false;let h4:=e1 !=(-1);let k4:=cond g4 true (cond e4 (cm W d1 !=4) false);let l4:=o1 !=(-1);let o4:=l4=true;let q4:=cond k4 true (cond h4 (cm W e1 !=7) false);let u4:=cond q4 true (cond l4 (cm W o1 !=6) false);let v4:=a1==4;let w4:=cond l4 (cond ((W.tasks (Int.toNat o1)).st !=5) true v4) false;let x4:=(g0:Int);let y4:=a1 !=5;let z4:=a1==5;let a5:=f=f/\True;let b5:Int:=((eJ k2 W.aJ W.ready f:Nat):Int)+((eJ 1 (λc5:Nat=>e2) (λd5:Nat=>W.aF) f:Nat):Int);let e5:=a1==2;let g5:=((kN W g0:Nat):Int);let h5:=((eJ z1 W.ao W.lines f:Nat):Int)=g5;let k5:=((im W g0:Nat):Int);let l5:=b5=k5;let o5:=a1==3;let q5:=e5||o5||v4;let u5:=k5==0;let v5:=cond (g5==1) u5 false;let w5:=v5=true;let x5:=(v2/\g1=g1/\True)/\c0;let y5:=cm W g1;let z5:=cond v5 (y5==7) false;let a6:=z5=true;let b6:=0<=g1/\g1<(z1:Int);let c6:=Int.toNat g1;let d6:=W.ao c6;let e6:=(f=f/\(d6=d6/\(∀g6:Nat,g6<d6->True/\W.lines c6 g6=W.lines c6 g6))/\True)/\c0;let h6:=fF d6 (W.lines c6) f;let k6:=a1==6;let l6:=cond v5 (y5==8) false;let o6:=l6=true;let q6:=a1==1;let u6:=g5==0;True/\
    (0<=f/\f<b0)/\True/\tn 17 d0/\(0<=f/\f<(e0:Int))/\(h0=true->True/\d0/\(l0==0&&(o0==0&&(q0==0&&(u0==0&&(v0==0&&(w0==0&&(x0==0&&(y0==0&&true)))))))&&(z0==0&&(a1==0&&(b1==0&&(c1==(-1)&&(d1==(-1)&&(e1==(-1)&&(J&&(k1==0&&(l1==0&&(o1==(-1)&&(q1==0&&(u1==0&&true)))))))))))))=v1/\True)/\(h0=false->w1/\x1/\0=((0:Nat):Int)/\g3/\(0<=8/\(∀v6:Nat,v6<0->aB (List.getD h3 v6 0) 65535=false))/\(∀w6:Nat,let x6:=(w6:Int);let y6:=decide (x6<8);let z6:=List.getD h3 (Int.toNat x6) 0;let a7:=aB z6 65535;let b7:Int:=x6+1;w6<=8/\(∀c7:Nat,c7<w6->aB (List.getD h3 c7 0) 65535=false)->(y6=true->(0<=x6/\x6<((8:Nat):Int))/\((z6=z6/\k3)/\c0)/\(a7=true->l3)/\(a7=false->ah b7=b7/\(∃d7:Nat,w1/\x1/\b7=(d7:Int)/\g3/\(d7<=8/\(∀e7:Nat,e7<d7->aB (List.getD h3 e7 0) 65535=false))/\8-d7<8-w6)))/\(y6=false->((z0=z0/\k3)/\c0)/\(o3=false->(k1=k1/\k3)/\c0)/\(q3=false->(l1=l1/\k3)/\c0)/\(u3=false->(v3/\(6:Int)=6/\True)/\c0)/\(w3=false->(b1=b1/\x3)/\c0)/\(z3->ah a4=a4)/\(z3->(q1=q1/\a4=a4/\True)/\c0)/\(b4=false->(u1=u1/\x3)/\c0)/\(c4=true->l3)/\(c4=false->(d4=true->(v2/\c1=c1/\True)/\c0)/\(e4=true->g4=false->(v2/\d1=d1/\True)/\c0)/\(h4=true->k4=false->(v2/\e1=e1/\True)/\c0)/\(o4->q4=false->(v2/\o1=o1/\True)/\c0)/\(u4=true->l3)/\(u4=false->(o4->0<=o1/\o1<b0)/\(w4=true->l3)/\(w4=false->w1/\x1/\0=((0:Nat):Int)/\0=((bL 0 (λg7:Nat=>(W.tasks g7).aX==x4):Nat):Int)/\g3/\0<=a0/\(∀h7:Nat,let k7:=(h7:Int);let l7:=decide (k7<b0);let o7:=(W.tasks (Int.toNat k7)).aX==f;let q7:=((bL h7 (λu7:Nat=>(W.tasks u7).aX==x4):Nat):Int);let v7:Int:=q7+1;let w7:Int:=k7+1;let x7:=ah w7=w7;
    let y7:=cond (cond (decide (1<q7)) true (cond (q7==1) y4 false)) true (cond (q7==0) z4 false);h7<=a0->b0<=9223372036854775807->(l7=true->(0<=k7/\k7<b0)/\(o7=true->ah v7=v7/\x7/\(∃z7:Nat,w1/\x1/\w7=(z7:Int)/\v7=((bL z7 (λa8:Nat=>(W.tasks a8).aX==x4):Nat):Int)/\g3/\z7<=a0/\a0-z7<a0-h7))/\(o7=false->x7/\(∃b8:Nat,w1/\x1/\w7=(b8:Int)/\q7=((bL b8 (λc8:Nat=>(W.tasks c8).aX==x4):Nat):Int)/\g3/\b8<=a0/\a0-b8<a0-h7)))/\(l7=false->(y7=true->l3)/\(y7=false->((a2/\a5)/\True/\z1<=1000/\(∀d8:Nat,d8<z1->W.ao d8<=1000))/\tn 3 (((l2/\a5)/\True/\k2<=1000/\(∀e8:Nat,e8<k2->W.aJ e8<=1000))/\tn 4 ((((1=1/\(∀g8:Nat,g8<1->True/\g2))/\a5)/\True/\1<=1000/\(∀h8:Nat,h8<1->e2<=1000))/\ah b5=b5/\((e5=true->w1/\x1/\h5/\l5/\v3/\e5=e5/\g3/\e5=q5)/\(e5=false->(o5=true->w1/\x1/\h5/\l5/\v3/\o5=o5/\g3/\o5=q5)/\(o5=false->w1/\x1/\h5/\l5/\v3/\v4=v4/\g3/\v4=q5)))/\(∀k8:Bo,k8.b=q5->(k8.b=true->(w5->x5)/\(a6->b6)/\(a6->e6)/\cond z5 h6 false=v1/\True)/\(k8.b=false->(k6=true->(w5->x5)/\(o6->b6)/\(o6->e6)/\cond l6 h6 false=v1/\True)/\(k6=false->(q6=true->cond (cond u6 (k5==1) false) J false=v1/\True)/\(q6=false->cond (cond u6 u5 false) J false=v1/\True)))))))))))))))
set_option maxHeartbeats 1000000 in
theorem Rj:aL Tryz.prog aO 59 RO:=aW (.cons sX (.cons mK (.cons uz (.cons Rm (.cons XE .nil))))) false Tryz.call59 Tryz.func59 (λ⟨W,f⟩=> [.inv (XB W f.toNat),.inv (XC W f.toNat),.cut 29 (XD W f.toNat)]) (V:=HK) (λ_=>by kernel_rfl) λ⟨W,f⟩ hp=>by
  dsimp only[HJ]at hp
  dsimp only[HK,tn,ah,ak,aE,aD,ay]
  obtain⟨hz,hm,f0,f1⟩:=hp
  obtain⟨F,rfl⟩: ∃F:Nat,f=F:=⟨f.toNat,by omega⟩
  simp only[aS,aZ,eq_self,implies_true,Bool.cond_self]
  have mF:=hz.tasks
  have m_:=hz.k1
  have rO:=hz.lines
  have GG:=hz.c1
  have hz5:=hz.c0
  have hz6:=hz.ready
  refine⟨by omega,by omega,λh=>?_,λh=>?_⟩
  · unfold cS;rw[h];rfl
  have core:=C1 h
  intro s hs
  refine⟨λJ=>?_,λJ=>?_⟩
  · have ai:s<8:=by have:=of_decide_eq_true J;omega
    refine⟨by omega,λU=>rP λht=>?_,λU=>⟨by rw[IntKind.wrap_i64];omega,bZ ⟨⟨by omega,dT (p:=λj=>aB (fj [(W.tasks F).r0,(W.tasks F).r1,(W.tasks F).r2,(W.tasks F).r3,(W.tasks F).r4,(W.tasks F).r5,(W.tasks F).r6,(W.tasks F).r7] j) 65535) hs.2 U⟩,by omega⟩⟩⟩
    rw[core]at ht
    have hq:kM (W.tasks F)=false:=by revert ht;cases kM (W.tasks F)<;>simp
    have:=Nv hq s ai
    exact Bool.false_ne_true (this.symm.trans U)
  have hs8:s=8:=by have:=of_decide_eq_false J;omega
  have gq:kM (W.tasks F)=false:=Nu λj hj=>hs.2 j (by omega)
  rw[gq]at core
  have e1:(aB (W.tasks F).pc 65535||aB (W.tasks F).word 65535||aB (W.tasks F).bJ 65535||aB (W.tasks F).st 6||aB (W.tasks F).prio 3||aB (W.tasks F).core (W.aP -1)||aB (W.tasks F).dH 3)=lZ W (W.tasks F):=rfl
  have e2:((W.tasks F).node != -1&&cm W (W.tasks F).node !=5||(W.tasks F).space != -1&&cm W (W.tasks F).space !=4||(W.tasks F).helper != -1&&cm W (W.tasks F).helper !=7||(W.tasks F).aX != -1&&cm W (W.tasks F).aX !=6)=!jO W (W.tasks F):=by
    unfold jO okF;simp only[bne,Bool.not_and,Bool.not_or]
  have e3:((W.tasks F).aX != -1&&((W.tasks (W.tasks F).aX.toNat).st !=5||(W.tasks F).st==4))=!mR W (W.tasks F):=by
    unfold mR;simp only[bne,Bool.not_and,Bool.not_or,Bool.not_not]
  rw[e1,e2,e3]
  refine⟨λ_=>by rw[IntKind.wrap_i64];omega,λU=>?_,λU=>?_⟩
  · rw[core,U];rfl
  rw[U]at core
  refine⟨λh3=>?_,λh3=>?_⟩
  · rw[core,show jO W (W.tasks F)=false by revert h3;cases jO W (W.tasks F)<;>simp];rfl
  have n_:jO W (W.tasks F)=true:=by revert h3;cases jO W (W.tasks F)<;>simp
  rw[n_]at core
  refine⟨λh4=>?_,λh4=>?_,λh4=>?_⟩
  · have:okF W (W.tasks F).aX 6=true:=by unfold jO at n_;simp only[Bool.and_eq_true]at n_;exact n_.2
    have:=Nw (by decide) this h4
    omega
  · rw[core,show mR W (W.tasks F)=false by revert h4;cases mR W (W.tasks F)<;>simp];rfl
  rw[show mR W (W.tasks F)=true by revert h4;cases mR W (W.tasks F)<;>simp]at core
  refine⟨rfl,λs hs _=>⟨λh5=>?_,λh5=>?_⟩⟩
  · have ai:=aY h5
    have hb:=jt (λk=>(W.tasks k).aX==F) s
    refine⟨by omega,λh6=>?_,λh6=>?_⟩
    · exact⟨by rw[IntKind.wrap_i64];omega,by rw[IntKind.wrap_i64];omega,bZ ⟨by simp[bL,h6],by omega,by omega⟩⟩
    · exact⟨by rw[IntKind.wrap_i64];omega,bZ ⟨by simp[bL,h6],by omega,by omega⟩⟩
  have bo:=bD h5
  obtain rfl:s=W.az:=by omega
  rw[show(decide (1<((bL W.az λk=>(W.tasks k).aX==F:Nat):Int))||(((bL W.az λk=>(W.tasks k).aX==F:Nat):Int)==1&&(W.tasks F).st !=5)||(((bL W.az λk=>(W.tasks k).aX==F:Nat):Int)==0&&(W.tasks F).st==5))=!lp W F from VV (W:=W) (f:=F) rfl]
  refine⟨λh6=>?_,λh6=>?_⟩
  · rw[core,show lp W F=false by revert h6;cases lp W F<;>simp];rfl
  rw[show lp W F=true by revert h6;cases lp W F<;>simp]at core
  have core:cS W F=km W F:=by rw[core];rfl
  rw[PV]
  have b1:eJ W.aT W.aJ W.ready F<=W.aT*50:=uX λi hi=>Nat.le_trans (jt _ _) (hm.2.1 i hi)
  have b2:n9 W.aP W.aF F<=W.aP:=jt _ _
  have et:((eJ W.aT W.aJ W.ready F:Nat):Int)+((n9 W.aP W.aF F:Nat):Int)=(im W F:Nat):=by unfold im;omega
  rw[et]
  refine⟨⟨by omega,λi hi=>Nat.le_trans (hm.1 i hi) (by omega)⟩,⟨by omega,λi hi=>Nat.le_trans (hm.2.1 i hi) (by omega)⟩,⟨by omega,λ_ _=>by omega⟩,by rw[IntKind.wrap_i64];unfold im;omega,?_,?_⟩
  · refine⟨λh=>⟨rfl,rfl,by rw[h];rfl⟩,λh=>⟨λh7=>⟨rfl,rfl,by rw[h,h7];rfl⟩,λh7=>⟨rfl,rfl,by rw[h,h7];rfl⟩⟩⟩
  rintro ⟨b⟩ hb
  have hb:b=((W.tasks F).st==2||(W.tasks F).st==3||(W.tasks F).st==4):=hb
  simp only[zg,vl]
  have hl: ∀k:Int,k≠ -1->((kN W F==1)&&(im W F==0)&&cm W (W.tasks F).loc==k)=true->0<=(W.tasks F).loc/\(W.tasks F).loc<W.ba:=λk hk h=>by
    simp only[Bool.and_eq_true,beq_iff_eq]at h
    rw[rO]
    exact ll (by rw[h.2];exact hk)
  refine⟨λh7=>⟨hl 7 (by decide),?_⟩,λh7=>⟨λh8=>⟨hl 8 (by decide),?_⟩,λh8=>⟨λh9=>?_,λh9=>?_⟩⟩⟩
  · have h7:b=true:=h7
    rw[core];simp only[km];rw[<-hb,h7];rfl
  · have h7:b=false:=h7
    rw[core];simp only[km];rw[<-hb,h7,h8];rfl
  · have h7:b=false:=h7
    rw[core];simp only[km];rw[<-hb,h7,h8,h9];rfl
  · have h7:b=false:=h7
    rw[core];simp only[km];rw[<-hb,h7,h8,h9];rfl
end Go.Proofs.YtmieeldmfehpoaaGreatDoor
