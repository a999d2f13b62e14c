/- Tables of pages: walking through them. -/
import Derived.Test.YtbngaammbjaajaaGreatDoorYI
set_option linter.unusedVariables false
set_option linter.unusedSimpArgs false
set_option linter.unusedVariables false
set_option linter.unusedSimpArgs false
set_option maxRecDepth 100000
namespace Go.Proofs.YtbngaammbjaajaaGreatDoor
open Go.RowKit Go.Sy
def gN (x:Int):Prop:=0<=x/\x<=65535
def cB (n:Nat):Int:=bif decide (0<n%16)||decide (384<n)then -1 else(n/16:Nat)
def eS (x n:Int):Int:=bif x/32768%2==0||decide (n<=x%1024)then -1 else x%1024
def mN (n:Nat) (sp at_:Int):Bool:=decide (cB n<0)||decide (sp<0)||decide (cB n<=sp)||al at_ 4095
def mg (n:Nat) (af:Nat->Int) (sp at_:Int):Int:=eS (af (sp*16+at_/256).toNat) (cB n)
def kA (n:Nat) (af:Nat->Int) (sp at_:Int):Int:=af (mg n af sp at_*16+at_/16%16).toNat
def oy (n:Nat) (af:Nat->Int) (sp at_:Int):Int:=eS (kA n af sp at_) (cB n)
def dC (n:Nat) (af:Nat->Int) (sp at_:Int):Int:=bif mN n sp at_ then 2 else bif decide (mg n af sp at_<0)||decide (oy n af sp at_<0)then 9 else 0
def ff (n:Nat) (af:Nat->Int) (sp at_:Int):Int:=bif dC n af sp at_==0 then oy n af sp at_ else 0
def fg (n:Nat) (af:Nat->Int) (sp at_:Int):Bool:=bif dC n af sp at_==0 then kA n af sp at_/16384%2==1 else false
theorem vt (n:Nat):(cB n= -1/\(0<n%16\/384<n))\/(cB n*16=n/\0<=cB n/\cB n<=24):=by
  unfold cB
  by_cases J:0<n%16
  · left;simp[J]
  · by_cases U:384<n
    · left;simp[U]
    · right;simp only[J,U,decide_false,Bool.or_false,cond_false];omega
theorem qd {x:Int} (hx:0<=x) (m:Int):(eS x m= -1/\(x/32768%2=0\/m<=x%1024))\/(x/32768%2=1/\eS x m=x%1024/\0<=eS x m/\eS x m<m):=by
  by_cases J:x/32768%2=0
  · left;unfold eS;simp[J]
  · by_cases U:m<=x%1024
    · left;unfold eS;simp[U]
    · right
      have e:eS x m=x%1024:=by
        unfold eS
        rw[show(x/32768%2==0)=false from beq_eq_false_iff_ne.2 J,show decide (m<=x%1024)=false from decide_eq_false U];rfl
      rw[e];omega
theorem TM (k X:Nat):X&&&2^k=X/2^k%2*2^k:=by
  have hk:X.testBit k=decide (X/2^k%2=1):=Nat.testBit_eq_decide_div_mod_eq
  apply Nat.eq_of_testBit_eq
  intro i
  rw[Nat.testBit_and,Nat.testBit_two_pow]
  rcases Nat.mod_two_eq_zero_or_one (X/2^k)with h|h
  · rw[h]
    by_cases e:k=i
    · subst e;simp[hk,h]
    · simp[e]
  · rw[h,Nat.one_mul,Nat.testBit_two_pow]
    by_cases e:k=i
    · subst e;simp[hk,h]
    · simp[e]
theorem J7 (k:Nat) (hk:k<=62) {x m:Int} (hm:m=(2^k:Nat)) (hx:0<=x) (kq:x<=65535):cT .and .i64 x m=x/m%2*m:=by
  subst hm
  have hp:(2:Nat)^k<9223372036854775808:=Nat.lt_of_le_of_lt (Nat.pow_le_pow_right (by omega) hk) (by decide)
  obtain⟨X,rfl⟩: ∃X:Nat,x=X:=⟨x.toNat,by omega⟩
  rw[Cq (by omega) (by omega) (Int.natCast_nonneg _) (show((2^k:Nat):Int)<9223372036854775808 from Int.ofNat_lt.2 hp),Int.toNat_natCast,Int.toNat_natCast,TM]
  simp
theorem ED {x:Int} (hx:0<=x) (kq:x<=65535) (m:Int):(bif cT .and .i64 x 32768==0 then true else decide (m<=cT .and .i64 x 1023))=decide (eS x m<0)/\(eS x m<0\/cT .and .i64 x 1023=eS x m):=by
  rw[J7 15 (by omega) (by decide) hx kq,xe 10 (by omega) (by decide)]
  have iE:((2:Int)^10)=1024:=by decide
  rw[iE]
  rcases qd hx m with⟨J,U⟩|⟨J,U,h3,h4⟩
  · rw[J]
    refine⟨?_,.inl (by decide)⟩
    rcases U with U|U
    · rw[U];rfl
    · rw[show decide (m<=x%1024)=true from decide_eq_true U];cases (x/32768%2*32768==0)<;>rfl
  · rw[J,show decide (m<=x%1024)=false from decide_eq_false (by omega),show decide (eS x m<0)=false from decide_eq_false (by omega)]
    exact⟨rfl,.inr U.symm⟩
structure EE where
  (n:Nat) (af:Nat->Int)
def Mn:Sy.Spec:=⟨EE,λ⟨n,af⟩=> [.sl true 1 n (λi_ _=> .v (.int .i64 (af i_)))],λ_=> [],λ_=>True,λ⟨n,_⟩=> .v (.int .i64 (cB n)),λ_=> [],
  λargs mem=>match args with| [a0]=>some ⟨bN a0,λi=>ao (bD a0 i 0)⟩|_=>none⟩
def Mo:aX:=⟨[],(Mn).g,none⟩
def EF:EE->Prop:=λ⟨n,_⟩=>let a0:=(n:Int);let b0:=cond (decide (0<a0%16)) true (decide (384<a0));let c0:Int:=a0/16;a0<=9223372036854775807->(0<=a0/\(0:Int)<16)/\(b0=true->(-1)=cB n/\True)/\(b0=false->a0<=9223372036854775807->(0<=a0/\(0:Int)<16/\ak c0=c0)/\c0=cB n/\True)
set_option maxHeartbeats 1000000 in
theorem LQ:aW Tryz.prog bf 88 Mo:=bd .nil false Tryz.call88 Tryz.func88 (λ_=> []) (V:=EF) (λ_=>by kernel_rfl) λ⟨n,af⟩ hp=>by
  dsimp only[EF,tn,ak,bx,aG,aF,aH]
  simp only[bn,bG,eq_self,implies_true,Bool.cond_self,Bool.or_eq_true,Bool.or_eq_false_iff,Bool.and_eq_true,Bool.and_eq_false_iff,decide_eq_true_eq,decide_eq_false_iff_not,beq_iff_eq,beq_eq_false_iff_ne,bne_iff_ne,bne_eq_false_iff_eq,Bool.not_eq_true',Bool.not_eq_false',ne_eq,Int.not_lt,Int.not_le]
  intro _
  rcases vt n with⟨J,U⟩|⟨J,U,h3⟩
  · exact⟨by omega,λ_=>J.symm,λh=>absurd U (by omega)⟩
  · exact⟨by omega,λh=>by omega,λh _=>⟨⟨by omega,by rw[IntKind.wrap_i64];omega⟩,by omega⟩⟩
structure Hy where
  (x n:Int)
def Hz:Sy.Spec:=⟨Hy,λ⟨x,n⟩=> [.v (.int .i64 x),.v (.int .i64 n)],λ_=> [],λ⟨x,_⟩=>0<=x/\x<=65535,λ⟨x,n⟩=> .v (.int .i64 (eS x n)),λ_=> [],
  λargs mem=>match args with| [a0,a1]=>some ⟨ao (a0),ao (a1)⟩|_=>none⟩
def PK:aX:=⟨[],(Hz).g,none⟩
def HA:Hy->Prop:=λ⟨x,n⟩=>let a0:Int:=x/32768;let b0:=a0%2==0;let c0:=0<=x/\(0:Int)<1024;let d0:=cond b0 true (decide (n<=x%1024));(0<=x/\(0:Int)<32768/\ak a0=a0)/\(0<=a0/\(0:Int)<2)/\(b0=false->c0)/\(d0=true->(-1)=eS x n/\True)/\(d0=false->c0/\x%1024=eS x n/\True)
set_option maxHeartbeats 1000000 in
theorem Oe:aW Tryz.prog bf 89 PK:=bd .nil false Tryz.call89 Tryz.func89 (λ_=> []) (V:=HA) (λ_=>by kernel_rfl) λ⟨x,n⟩ hp=>by
  dsimp only[Hz]at hp
  dsimp only[HA,tn,ak,bx,aG,aF,aH]
  simp only[bn,bG,eq_self,implies_true,Bool.cond_self,Bool.or_eq_true,Bool.or_eq_false_iff,Bool.and_eq_true,Bool.and_eq_false_iff,decide_eq_true_eq,decide_eq_false_iff_not,beq_iff_eq,beq_eq_false_iff_ne,bne_iff_ne,bne_eq_false_iff_eq,Bool.not_eq_true',Bool.not_eq_false',ne_eq,Int.not_lt,Int.not_le]
  obtain⟨hp,eM⟩:=hp
  rcases qd hp n with⟨J,U⟩|⟨J,U,h3,h4⟩
  · exact⟨⟨by omega,by omega,by rw[IntKind.wrap_i64];omega⟩,by omega,λ_=>by omega,λ_=>J.symm,λh=>by omega⟩
  · exact⟨⟨by omega,by omega,by rw[IntKind.wrap_i64];omega⟩,by omega,λ_=>by omega,λh=>by omega,λh=>⟨by omega,U.symm⟩⟩
structure F8 where
  (n:Nat) (af:Nat->Int) (sp at_:Int)
def F9:Sy.Spec:=⟨F8,λ⟨n,af,sp,at_⟩=> [.sl true 1 n (λi_ _=> .v (.int .i64 (af i_))),.v (.int .i64 sp),.v (.int .i64 at_)],λ_=> [],λ⟨n,af,_,_⟩=> ∀i,i<n->gN (af i),λ⟨n,af,sp,at_⟩=> .tp 3 (aA [.v (.int .i64 (ff n af sp at_)),.v (.bool (fg n af sp at_)),.v (.int .i64 (dC n af sp at_))]),λ_=> [],
  λargs mem=>match args with| [a0,a1,a2]=>some ⟨bN a0,λi=>ao (bD a0 i 0),ao (a1),ao (a2)⟩|_=>none⟩
def Of:aX:=⟨[],(F9).g,none⟩
def F_:F8->Prop:=λ⟨n,af,sp,at_⟩=>let a0:=cB n;let b0:=cond (cond (decide (a0<0)) true (decide (sp<0))) true (decide (a0<=sp));let c0:=cond b0 true (al at_ 4095);let d0:=ff n af sp at_;let e0:=fg n af sp at_;let g0:=(True/\0=d0)/\false=e0;let h0:=dC n af sp at_;let k0:Int:=sp*16+at_/256;let l0:Int:=af (Int.toNat k0);let o0:=a0=a0/\True;let q0:=eS l0 a0;let r0:=decide (q0<0);let u0:=(g0/\9=h0)/\True;let v0:Int:=q0*16;let w0:Int:=at_/16;let x0:Int:=v0+w0%16;let y0:Int:=af (Int.toNat x0);let z0:=0<=y0;let a1:=eS y0 a0;let b1:=decide (a1<0);let c1:Int:=y0/16384;(((n=n/\(∀d1:Nat,d1<n->True/\af d1=af d1))/\True)/\True/\True)/\(b0=false->(at_=at_/\(4095:Int)=4095/\True)/\True/\True)/\(c0=true->(g0/\2=h0)/\True)/\(c0=false->ak (sp*16)=sp*16/\(0<=at_/\(0:Int)<256/\ak (at_/256)=at_/256)/\ak k0=k0/\(0<=k0/\k0<(n:Int))/\((l0=l0/\o0)/\True/\0<=l0/\l0<=65535)/\(r0=true->u0)/\(r0=false->ak v0=v0/\(0<=at_/\(0:Int)<16/\ak w0=w0)/\(0<=w0/\(0:Int)<16)/\ak x0=x0/\(0<=x0/\x0<(n:Int))/\((y0=y0/\o0)/\True/\z0/\y0<=65535)/\(b1=true->u0)/\(b1=false->(z0/\(0:Int)<16384/\ak c1=c1)/\(0<=c1/\(0:Int)<2)/\(((True/\a1=d0)/\(c1%2==1)=e0)/\0=h0)/\True)))
set_option maxHeartbeats 1000000 in
theorem Nb:aW Tryz.prog bf 78 Of:=bd (.cons qK (.cons LQ (.cons Oe .nil))) false Tryz.call78 Tryz.func78 (λ_=> []) (V:=F_) (λ_=>by kernel_rfl) λ⟨n,af,sp,at_⟩ hp=>by
  dsimp only[F9]at hp
  dsimp only[F_,tn,ak,bx,aG,aF,aH]
  have hx: ∀z:Int,0<=z->z<n->gN (af z.toNat):=λz J U=>hp _ (by omega)
  unfold gN at hx
  have wr: ∀z:Int,-100000<=z->z<=100000->IntKind.i64.wrap z=z:=λz J U=>by rw[IntKind.wrap_i64];omega
  have hb: ∀b,mN n sp at_=b->(b=true/\dC n af sp at_=2/\ff n af sp at_=0/\fg n af sp at_=false)\/(b=false/\cB n*16=n/\0<=sp/\sp<cB n/\0<=at_/\at_<=4095/\cB n<=24):=λb h=>by
    cases b with
    |true=>left;simp[dC,ff,fg,h]
    |false=>
     right
     simp[mN,al]at h
     rcases vt n with⟨f1,f2⟩|⟨f1,f2,f3⟩
     · omega
     · exact⟨rfl,by omega⟩
  have nZ:(bif bif bif decide (cB n<0)then true else decide (sp<0)then true else decide (cB n<=sp)then true else al at_ 4095)=mN n sp at_:=by
    unfold mN;cases decide (cB n<0)<;>cases decide (sp<0)<;>cases decide (cB n<=sp)<;>rfl
  simp only[bn,eq_self,implies_true,Bool.cond_self]
  rw[nZ]
  refine⟨λh=>?_,λh=>?_⟩
  · rcases hb _ h with⟨_,J,U,h3⟩|⟨h0,_⟩
    · rw[J,U,h3];exact⟨⟨rfl,rfl⟩,rfl⟩
    · cases h0
  rcases hb _ h with⟨h0,_⟩|⟨_,f1,p1,p2,q1,q2,f3⟩
  · cases h0
  have x1:=hx (sp*16+at_/256) (by omega) (by omega)
  have hT:eS (af (sp*16+at_/256).toNat) (cB n)=mg n af sp at_:=rfl
  rw[hT]
  refine⟨wr _ (by omega) (by omega),⟨by omega,by omega,wr _ (by omega) (by omega)⟩,wr _ (by omega) (by omega),by omega,x1,?_⟩
  rcases qd x1.1 (cB n)with⟨t1,t2⟩|⟨t1,t2,t3,t4⟩
  · rw[hT]at t1
    refine⟨λ_=>?_,λh=>by simp[t1]at h⟩
    have e:dC n af sp at_=9:=by simp[dC,h,t1]
    exact⟨⟨by simp[ff,e],by simp[fg,e]⟩,e.symm⟩
  rw[hT]at t2 t3 t4
  refine⟨λh=>by simp at h;omega,λ_=>?_⟩
  have x2:=hx (mg n af sp at_*16+at_/16%16) (by omega) (by omega)
  have hX:af (mg n af sp at_*16+at_/16%16).toNat=kA n af sp at_:=rfl
  rw[hX]at x2⊢
  refine⟨wr _ (by omega) (by omega),⟨by omega,by omega,wr _ (by omega) (by omega)⟩,by omega,wr _ (by omega) (by omega),by omega,x2,?_⟩
  have hP:eS (kA n af sp at_) (cB n)=oy n af sp at_:=rfl
  rw[hP]
  rcases qd x2.1 (cB n)with⟨u1,u2⟩|⟨u1,u2,u3,u4⟩
  · rw[hP]at u1
    refine⟨λ_=>?_,λh=>by simp[u1]at h⟩
    have e:dC n af sp at_=9:=by simp[dC,h,u1]
    exact⟨⟨by simp[ff,e],by simp[fg,e]⟩,e.symm⟩
  rw[hP]at u2 u3 u4
  have d1:decide (mg n af sp at_<0)=false:=decide_eq_false (by omega)
  have d2:decide (oy n af sp at_<0)=false:=decide_eq_false (by omega)
  have e:dC n af sp at_=0:=by simp[dC,h,d1,d2]
  refine⟨λh=>by simp at h;omega,λ_=>?_⟩
  have eF:ff n af sp at_=oy n af sp at_:=by simp[ff,e]
  have eW:fg n af sp at_=(kA n af sp at_/16384%2==1):=by simp[fg,e]
  rw[eF,eW,e]
  repeat' (first|exact trivial|rfl|omega|exact wr _ (by omega) (by omega)|refine And.intro ?_ ?_)
structure Ga where
  (n:Nat) (af:Nat->Int)
def Og:Sy.Spec:=⟨Ga,λ⟨n,af⟩=> [.sl true 1 n (λi_ _=> .v (.int .i64 (af i_)))],λ_=> [],λ_=>True,λ⟨n,_⟩=> .v (.int .i64 (cB n)),λ_=> [],
  λargs mem=>match args with| [a0]=>some ⟨bN a0,λi=>ao (bD a0 i 0)⟩|_=>none⟩
def Oh:aX:=⟨[],(Og).g,none⟩
def Gb:Ga->Prop:=λ⟨n,_⟩=>let a0:=(n:Int);let b0:=cond (a0%16 !=0) true (decide (384<a0));let c0:Int:=a0/16;a0<=9223372036854775807->(0<=a0/\(0:Int)<16)/\(b0=true->(-1)=cB n/\True)/\(b0=false->a0<=9223372036854775807->(0<=a0/\(0:Int)<16/\ak c0=c0)/\c0=cB n/\True)
set_option maxHeartbeats 1000000 in
theorem Nc:aW Tryz.prog bf 82 Oh:=bd .nil false Tryz.call82 Tryz.func82 (λ_=> []) (V:=Gb) (λ_=>by kernel_rfl) λ⟨n,af⟩ hp=>by
  dsimp only[Gb,tn,ak,bx,aG,aF,aH]
  simp only[bn,bG,eq_self,implies_true,Bool.cond_self,Bool.or_eq_true,Bool.or_eq_false_iff,Bool.and_eq_true,Bool.and_eq_false_iff,decide_eq_true_eq,decide_eq_false_iff_not,beq_iff_eq,beq_eq_false_iff_ne,bne_iff_ne,bne_eq_false_iff_eq,Bool.not_eq_true',Bool.not_eq_false',ne_eq,Int.not_lt,Int.not_le]
  intro _
  rcases vt n with⟨J,U⟩|⟨J,U,h3⟩
  · exact⟨by omega,λ_=>J.symm,λh=>absurd U (by omega)⟩
  · exact⟨by omega,λh=>by omega,λh _=>⟨⟨by omega,by rw[IntKind.wrap_i64];omega⟩,by omega⟩⟩
structure IS where
  (n:Nat) (af:Nat->Int) (sp at_:Int)
def IT:Sy.Spec:=⟨IS,λ⟨n,af,sp,at_⟩=> [.sl true 1 n (λi_ _=> .v (.int .i64 (af i_))),.v (.int .i64 sp),.v (.int .i64 at_)],λ_=> [],λ⟨n,af,_,_⟩=> ∀i,i<n->gN (af i),λ⟨n,af,sp,at_⟩=> .tp 3 (aA [.v (.int .i64 (ff n af sp at_)),.v (.bool (fg n af sp at_)),.er 30 73 (dC n af sp at_) (-1)]),λ_=> [],
  λargs mem=>match args with| [a0,a1,a2]=>some ⟨bN a0,λi=>ao (bD a0 i 0),ao (a1),ao (a2)⟩|_=>none⟩
def QR:aX:=⟨[],(IT).g,none⟩
def IU:IS->Prop:=λ⟨n,af,sp,at_⟩=>let a0:=cB n;let b0:=cond (cond (cond (cond (decide (a0<0)) true (decide (sp<0))) true (decide (a0<=sp))) true (decide (at_<0))) true (decide (4096<=at_));let c0:=ff n af sp at_;let d0:=fg n af sp at_;let e0:=(True/\0=c0)/\false=d0;let g0:=dC n af sp at_;let h0:=((-1):Int)=(-1);let k0:Int:=sp*16+at_/256;let l0:Int:=af (Int.toNat k0);let o0:=cT BinOp.and IntKind.i64 l0 1023;let q0:=cond (cT BinOp.and IntKind.i64 l0 32768==0) true (decide (a0<=o0));let r0:=(e0/\(9:Int)≠0/\g0=9/\h0)/\True;let u0:Int:=o0*16;let v0:Int:=at_/16;let w0:Int:=u0+v0%16;let x0:Int:=af (Int.toNat w0);let y0:=cT BinOp.and IntKind.i64 x0 1023;let z0:=cond (cT BinOp.and IntKind.i64 x0 32768==0) true (decide (a0<=y0));(((n=n/\(∀a1:Nat,a1<n->True/\af a1=af a1))/\True)/\True/\True)/\(b0=true->(e0/\(2:Int)≠0/\g0=2/\h0)/\True)/\(b0=false->ak (sp*16)=sp*16/\(0<=at_/\(0:Int)<256/\ak (at_/256)=at_/256)/\ak k0=k0/\(0<=k0/\k0<(n:Int))/\(q0=true->r0)/\(q0=false->ak u0=u0/\(0<=at_/\(0:Int)<16/\ak v0=v0)/\(0<=v0/\(0:Int)<16)/\ak w0=w0/\(0<=w0/\w0<(n:Int))/\(z0=true->r0)/\(z0=false->(((True/\y0=c0)/\(cT BinOp.and IntKind.i64 x0 16384 !=0)=d0)/\g0=0/\h0)/\True)))
set_option maxHeartbeats 1000000 in
theorem PL:aW Tryz.prog bf 66 QR:=bd (.cons Nc .nil) false Tryz.call66 Tryz.func66 (λ_=> []) (V:=IU) (λ_=>by kernel_rfl) λ⟨n,af,sp,at_⟩ hp=>by
  dsimp only[IT]at hp
  dsimp only[IU,tn,ak,bx,aG,aF,aH]
  have hx: ∀z:Int,0<=z->z<n->gN (af z.toNat):=λz J U=>hp _ (by omega)
  unfold gN at hx
  have wr: ∀z:Int,-100000<=z->z<=100000->IntKind.i64.wrap z=z:=λz J U=>by rw[IntKind.wrap_i64];omega
  have hb: ∀b,mN n sp at_=b->(b=true/\dC n af sp at_=2/\ff n af sp at_=0/\fg n af sp at_=false)\/(b=false/\cB n*16=n/\0<=sp/\sp<cB n/\0<=at_/\at_<=4095/\cB n<=24):=λb h=>by
    cases b with
    |true=>left;simp[dC,ff,fg,h]
    |false=>
     right
     simp[mN,al]at h
     rcases vt n with⟨f1,f2⟩|⟨f1,f2,f3⟩
     · omega
     · exact⟨rfl,by omega⟩
  have nZ:(bif bif bif bif decide (cB n<0)then true else decide (sp<0)then true else decide (cB n<=sp)then true else decide (at_<0)then true else decide (4096<=at_))=mN n sp at_:=by
    unfold mN al;rw[show decide (4096<=at_)=decide (4095<at_)from decide_eq_decide.2 (by omega)];cases decide (cB n<0)<;>cases decide (sp<0)<;>cases decide (cB n<=sp)<;>cases decide (at_<0)<;>rfl
  simp only[bn,eq_self,implies_true,Bool.cond_self]
  rw[nZ]
  refine⟨λh=>?_,λh=>?_⟩
  · rcases hb _ h with⟨_,J,U,h3⟩|⟨h0,_⟩
    · rw[J,U,h3];exact⟨⟨rfl,rfl⟩,by decide,rfl⟩
    · cases h0
  rcases hb _ h with⟨h0,_⟩|⟨_,f1,p1,p2,q1,q2,f3⟩
  · cases h0
  have x1:=hx (sp*16+at_/256) (by omega) (by omega)
  have hT:eS (af (sp*16+at_/256).toNat) (cB n)=mg n af sp at_:=rfl
  obtain⟨c1,c2⟩:=ED x1.1 x1.2 (cB n)
  rw[c1]
  rw[hT]at c2⊢
  refine⟨wr _ (by omega) (by omega),⟨by omega,by omega,wr _ (by omega) (by omega)⟩,wr _ (by omega) (by omega),by omega,?_⟩
  rcases qd x1.1 (cB n)with⟨t1,t2⟩|⟨t1,t2,t3,t4⟩
  · rw[hT]at t1
    refine⟨λ_=>?_,λh=>by simp[t1]at h⟩
    have e:dC n af sp at_=9:=by simp[dC,h,t1]
    exact⟨⟨by simp[ff,e],by simp[fg,e]⟩,by decide,e⟩
  rw[hT]at t2 t3 t4
  refine⟨λh=>by simp at h;omega,λ_=>?_⟩
  replace c2:=c2.resolve_left (by omega)
  rw[c2]
  have x2:=hx (mg n af sp at_*16+at_/16%16) (by omega) (by omega)
  have hX:af (mg n af sp at_*16+at_/16%16).toNat=kA n af sp at_:=rfl
  rw[hX]at x2⊢
  refine⟨wr _ (by omega) (by omega),⟨by omega,by omega,wr _ (by omega) (by omega)⟩,by omega,wr _ (by omega) (by omega),by omega,?_⟩
  obtain⟨d1,d2⟩:=ED x2.1 x2.2 (cB n)
  rw[d1]
  have hP:eS (kA n af sp at_) (cB n)=oy n af sp at_:=rfl
  rw[hP]at d2⊢
  rcases qd x2.1 (cB n)with⟨u1,u2⟩|⟨u1,u2,u3,u4⟩
  · rw[hP]at u1
    refine⟨λ_=>?_,λh=>by simp[u1]at h⟩
    have e:dC n af sp at_=9:=by simp[dC,h,u1]
    exact⟨⟨by simp[ff,e],by simp[fg,e]⟩,by decide,e⟩
  rw[hP]at u2 u3 u4
  have d3:decide (mg n af sp at_<0)=false:=decide_eq_false (by omega)
  have d4:decide (oy n af sp at_<0)=false:=decide_eq_false (by omega)
  have e:dC n af sp at_=0:=by simp[dC,h,d3,d4]
  refine⟨λh=>by simp at h;omega,λ_=>?_⟩
  have eF:ff n af sp at_=oy n af sp at_:=by simp[ff,e]
  have eW:fg n af sp at_=(kA n af sp at_/16384%2==1):=by simp[fg,e]
  replace d2:=d2.resolve_left (by omega)
  rw[eF,eW,e,d2,J7 14 (by omega) (by decide) x2.1 x2.2]
  have rW:(kA n af sp at_/16384%2*16384 !=0)=(kA n af sp at_/16384%2==1):=by
    have hz:kA n af sp at_/16384%2=0\/kA n af sp at_/16384%2=1:=by omega
    rcases hz with h|h<;>rw[h]<;>rfl
  rw[rW]
  repeat' (first|exact trivial|rfl|omega|exact wr _ (by omega) (by omega)|refine And.intro ?_ ?_)
end Go.Proofs.YtbngaammbjaajaaGreatDoor
set_option linter.unusedVariables false
set_option linter.unusedSimpArgs false
set_option maxRecDepth 100000
namespace Go.Proofs.YtbngaammbjaajaaGreatDoor
open Go.RowKit Go.Sy
def oK (k b l m:Int):Bool:=decide (b<0)||decide (24<b)||decide (l<1)||decide (24<l)||decide (24<b+l)||(k !=1&&(l !=1||m !=0))||(k==1&&al m l)
def oL (k g:Int):Bool:=al g 65535||(decide (0<g)&&k !=7&&k !=8)
def d' (k b l m r g:Int):Int:=
  bif al k 8 then 3 else
  bif k==0 then(bif b !=0||l !=0||m !=0||r !=0||g !=0 then 2 else 0)else
  bif oK k b l m then 2 else bif al r 7 then 4 else bif oL k g then 2 else 0
theorem zl {k b l m r g:Int} (h:d' k b l m r g=0):0<=k/\k<=8/\0<=b/\b<=24/\0<=l/\l<=24/\0<=m/\m<=24/\0<=r/\r<=7/\0<=g/\g<=65535:=by
  unfold d' oK oL al at h
  simp only[cond_eq_ite,bne,Bool.or_eq_true,Bool.and_eq_true,Bool.not_eq_true',decide_eq_true_eq,beq_iff_eq,beq_eq_false_iff_ne]at h
  repeat' split at h
  all_goals first|(cases h;done)|omega
structure Gc where
  (k b l m r g:Int)
def Oi:Sy.Spec:=⟨Gc,λ⟨k,b,l,m,r,g⟩=> [.ag 6 (aA [.v (.int .i64 k),.v (.int .i64 b),.v (.int .i64 l),.v (.int .i64 m),.v (.int .i64 r),.v (.int .i64 g)])],λ_=> [],λ_=>True,λ⟨k,b,l,m,r,g⟩=> .v (.int .i64 (d' k b l m r g)),λ_=> [],
  λargs mem=>match args with| [a0]=>some ⟨ao (bU a0 0),ao (bU a0 1),ao (bU a0 2),ao (bU a0 3),ao (bU a0 4),ao (bU a0 5)⟩|_=>none⟩
def Oj:aX:=⟨[],(Oi).g,none⟩
def Ge:Gc->Prop:=λ⟨k,b,l,m,r,g⟩=>let a0:=True/\True;let b0:=d' k b l m r g;let c0:=cond (cond (cond (cond (b !=0) true (l !=0)) true (m !=0)) true (r !=0)) true (g !=0);let d0:=2=b0/\True;let e0:=0=b0/\True;let g0:=cond (cond (cond (cond (decide (b<0)) true (decide (24<b))) true (decide (l<1))) true (decide (24<l))) true (decide (24<ak (b+l)));let h0:=cond (k !=1) (cond (l !=1) true (m !=0)) false;let k0:=cond h0 true (cond (k==1) (al m l) false);let l0:=cond (al g 65535) true (cond (cond (decide (0<g)) (k !=7) false) (k !=8) false);True/\((k=k/\(8:Int)=8/\True)/\a0)/\(al k 8=true->3=b0/\True)/\(al k 8=false->((k==0)=true->(c0=true->d0)/\(c0=false->e0))/\((k==0)=false->(g0=true->d0)/\(g0=false->((k==1)=true->h0=false->(m=m/\l=l/\True)/\a0)/\(k0=true->d0)/\(k0=false->((r=r/\(7:Int)=7/\True)/\a0)/\(al r 7=true->4=b0/\True)/\(al r 7=false->((g=g/\(65535:Int)=65535/\True)/\a0)/\(l0=true->d0)/\(l0=false->e0))))))
theorem Nd:aW Tryz.prog bf 72 Oj:=bd (.cons qK .nil) true Tryz.call72 Tryz.func72 (λ_=> []) (V:=Ge) (λ_=>by kernel_rfl) λ⟨k,b,l,m,r,g⟩ hp=>by
  dsimp only[Ge,tn,ak]
  have hw:(bif bif bif bif decide (b<(0:Int))then true else decide ((24:Int)<b)then true else decide (l<(1:Int))then true else decide ((24:Int)<l)then true else decide ((24:Int)<IntKind.i64.wrap (b+l)))=
   (decide (b<0)||decide (24<b)||decide (l<1)||decide (24<l)||decide (24<b+l)):=by
    by_cases h:b<0\/24<b\/l<1\/24<l
    · rcases h with h|h|h|h<;>simp[h]
    · have e:IntKind.i64.wrap (b+l)=b+l:=by rw[IntKind.wrap_i64];omega
      rw[e]
      cases decide (b<0)<;>cases decide (24<b)<;>cases decide (l<1)<;>cases decide (24<l)<;>rfl
  rw[hw]
  unfold d' oK oL al
  repeat' (first|exact trivial|refine And.intro ?_ ?_|intro h)
  all_goals (clear hw)
  all_goals (try simp only[Bool.cond_true_left,Bool.cond_false_right]at*)
  all_goals (simp only[cond_eq_ite,al,bne,Bool.or_eq_true,Bool.and_eq_true,Bool.not_eq_true',Bool.not_eq_false',Bool.and_eq_false_iff,decide_eq_true_eq,beq_iff_eq,beq_eq_false_iff_ne,Bool.or_eq_false_iff,decide_eq_false_iff_not,Bool.ite_eq_true_distrib,Bool.ite_eq_false_distrib]at*)
  all_goals (repeat' split)
  all_goals (first|rfl|(exfalso;simp_all<;>omega)|omega)
structure Ee where
  (k b l m r g:Int)
def LR:Sy.Spec:=⟨Ee,λ⟨k,b,l,m,r,g⟩=> [.ag 6 (aA [.v (.int .i64 k),.v (.int .i64 b),.v (.int .i64 l),.v (.int .i64 m),.v (.int .i64 r),.v (.int .i64 g)])],λ_=> [],λ_=>True,λ⟨k,b,l,m,r,g⟩=> .er 30 73 (d' k b l m r g) (-1),λ_=> [],
  λargs mem=>match args with| [a0]=>some ⟨ao (bU a0 0),ao (bU a0 1),ao (bU a0 2),ao (bU a0 3),ao (bU a0 4),ao (bU a0 5)⟩|_=>none⟩
def LS:aX:=⟨[],(LR).g,none⟩
def Ef:Ee->Prop:=λ⟨k,b,l,m,r,g⟩=>let a0:=cond (decide (k<0)) true (decide (8<k));let b0:=d' k b l m r g;let c0:=((-1):Int)=(-1);let d0:=!(k==0&&(b==0&&(l==0&&(m==0&&(r==0&&(g==0&&true))))));let e0:=((2:Int)≠0/\b0=2/\c0)/\True;let g0:=(b0=0/\c0)/\True;let h0:=cond (cond (cond (decide (b<0)) true (decide (24<=b))) true (decide (l<1))) true (decide (ak (24-b)<l));let k0:=cond (cond (cond (cond (k !=1) (l !=1) false) true (decide (m<0))) true (decide (l<m))) true (cond (k !=1) (m !=0) false);let l0:=cond (decide (r<0)) true (decide (7<r));let o0:=cond (cond (decide (g<0)) true (decide (65535<g))) true (cond (cond (g !=0) (k !=7) false) (k !=8) false);True/\(a0=true->((3:Int)≠0/\b0=3/\c0)/\True)/\(a0=false->((k==0)=true->(d0=true->e0)/\(d0=false->g0))/\((k==0)=false->(h0=true->e0)/\(h0=false->(k0=true->e0)/\(k0=false->(l0=true->((4:Int)≠0/\b0=4/\c0)/\True)/\(l0=false->(o0=true->e0)/\(o0=false->g0))))))
theorem D8:aW Tryz.prog bf 47 LS:=bd .nil true Tryz.call47 Tryz.func47 (λ_=> []) (V:=Ef) (λ_=>by kernel_rfl) λ⟨k,b,l,m,r,g⟩ hp=>by
  dsimp only[Ef,tn,ak]
  have hw:(bif bif bif decide (b<(0:Int))then true else decide ((24:Int)<=b)then true else decide (l<(1:Int))then true else decide (IntKind.i64.wrap (24 -b)<l))=
   (decide (b<0)||decide (24<b)||decide (l<1)||decide (24<l)||decide (24<b+l)):=by
    by_cases h:b<0\/24<=b\/l<1
    · have:b<0\/24<b\/l<1\/24<b+l:=by omega
      have U:(bif bif bif decide (b<(0:Int))then true else decide ((24:Int)<=b)then true else decide (l<(1:Int))then true else decide (IntKind.i64.wrap (24 -b)<l))=true:=by
        rcases h with h|h|h<;>simp[h]
      rw[U]
      rcases this with h|h|h|h<;>simp[h]
    · have e:IntKind.i64.wrap (24 -b)=24 -b:=by rw[IntKind.wrap_i64];omega
      rw[e]
      have J: ¬b<0:=by omega
      have U: ¬24<=b:=by omega
      have h3: ¬l<1:=by omega
      have h4: ¬24<b:=by omega
      simp[J,U,h3,h4]
      by_cases h5:24 -b<l<;>simp[h5]<;>omega
  rw[hw]
  unfold d' oK oL al
  repeat' (first|exact trivial|refine And.intro ?_ ?_|intro h)
  all_goals (clear hw)
  all_goals (try simp only[Bool.cond_true_left,Bool.cond_false_right]at*)
  all_goals (simp only[cond_eq_ite,al,bne,Bool.or_eq_true,Bool.and_eq_true,Bool.not_eq_true',Bool.not_eq_false',Bool.and_eq_false_iff,decide_eq_true_eq,beq_iff_eq,beq_eq_false_iff_ne,Bool.or_eq_false_iff,decide_eq_false_iff_not,Bool.ite_eq_true_distrib,Bool.ite_eq_false_distrib]at*)
  all_goals (repeat' split)
  all_goals (first|rfl|(exfalso;simp_all<;>omega)|omega)
end Go.Proofs.YtbngaammbjaajaaGreatDoor
namespace Go.Sy
theorem Gf {x m:Int} (hx:0<=x) (kq:x<=65535):cT .andNot .i64 x m=x -cT .and .i64 x m:=by
  show IntKind.i64.wrap ((BitVec.ofInt 64 x&&& ~~~BitVec.ofInt 64 m).toNat:Int)=x -IntKind.i64.wrap ((BitVec.ofInt 64 x&&&BitVec.ofInt 64 m).toNat:Int)
  have hX:(BitVec.ofInt 64 x).toNat=x.toNat:=by
    rw[BitVec.toNat_ofInt];congr 1;exact Int.emod_eq_of_lt hx (by simp;omega)
  generalize hA:BitVec.ofInt 64 x=X at hX⊢
  generalize BitVec.ofInt 64 m=Y
  have J:(X&&& ~~~Y)+(X&&&Y)=X:=by
    rw[BitVec.add_eq_or_of_and_eq_zero]
    · ext i hi
      simp
      cases X[i]<;>cases Y[i]<;>rfl
    · ext i hi
      simp
      cases X[i]<;>cases Y[i]<;>simp
  have U:(X&&& ~~~Y).toNat<=X.toNat:=by rw[BitVec.toNat_and];exact Nat.and_le_left
  have h3:(X&&&Y).toNat<=X.toNat:=by rw[BitVec.toNat_and];exact Nat.and_le_left
  have h4:=congrArg BitVec.toNat J
  rw[BitVec.toNat_add]at h4
  rw[IntKind.wrap_i64,IntKind.wrap_i64]
  omega
theorem EG {x:Int} (hx:0<=x) (kq:x<=65535):cT .andNot .i64 x 1023=x -x%1024:=by
  rw[Gf hx kq,xe 10 (by omega) (by decide)];rfl
theorem TN (k X:Nat):X&&&2^k=X/2^k%2*2^k:=by
  have hk:X.testBit k=decide (X/2^k%2=1):=Nat.testBit_eq_decide_div_mod_eq
  apply Nat.eq_of_testBit_eq
  intro i
  rw[Nat.testBit_and,Nat.testBit_two_pow]
  rcases Nat.mod_two_eq_zero_or_one (X/2^k)with h|h
  · rw[h]
    by_cases e:k=i
    · subst e;simp[hk,h]
    · simp[e]
  · rw[h,Nat.one_mul,Nat.testBit_two_pow]
    by_cases e:k=i
    · subst e;simp[hk,h]
    · simp[e]
theorem LU {x:Int} (hx:0<=x) (kq:x<=65535):cT .andNot .i64 x 17407=(x -x%1024) -(x -x%1024)/16384%2*16384:=by
  have e:cT .andNot .i64 x 17407=cT .andNot .i64 (cT .andNot .i64 x 1023) 16384:=by
    show IntKind.i64.wrap ((BitVec.ofInt 64 x&&& ~~~BitVec.ofInt 64 17407).toNat:Int)=IntKind.i64.wrap ((BitVec.ofInt 64 (cT .andNot .i64 x 1023)&&& ~~~BitVec.ofInt 64 16384).toNat:Int)
    have h0:BitVec.ofInt 64 (cT .andNot .i64 x 1023)=BitVec.ofInt 64 x&&& ~~~BitVec.ofInt 64 1023:=by
      have J:cT .andNot .i64 x 1023=IntKind.i64.wrap ((BitVec.ofInt 64 x&&& ~~~BitVec.ofInt 64 1023).toNat:Int):=rfl
      have U:(BitVec.ofInt 64 x&&& ~~~BitVec.ofInt 64 1023).toNat<=65535:=by
        rw[BitVec.toNat_and]
        refine Nat.le_trans Nat.and_le_left ?_
        rw[BitVec.toNat_ofInt,Int.emod_eq_of_lt hx (by simp;omega)];omega
      rw[J,IntKind.wrap_i64]
      apply BitVec.eq_of_toNat_eq
      rw[BitVec.toNat_ofInt]
      generalize (BitVec.ofInt 64 x&&& ~~~BitVec.ofInt 64 1023).toNat=t at U⊢
      show((_:Int)%((2^64:Nat):Int)).toNat=t
      rw[show((2^64:Nat):Int)=18446744073709551616 by decide]
      omega
    rw[h0]
    congr 3
    rw[BitVec.and_assoc]
    congr 1
  rw[e,EG hx kq,Gf (by omega) (by omega),Cq (by omega) (by omega) (by omega) (by omega)]
  obtain⟨Y,hY⟩: ∃Y:Nat,x -x%1024=Y:=⟨(x -x%1024).toNat,by omega⟩
  rw[hY,Int.toNat_natCast,show Int.toNat 16384=2^14 from rfl,TN]
  simp
theorem Mp {r q:Int} (r0:0<=r) (r1:r<=7) (q0:0<=q) (q1:q<=7):(cT .andNot .i64 r q==0)=(cT .and .i64 q r==r):=by
  have hr:r=0\/r=1\/r=2\/r=3\/r=4\/r=5\/r=6\/r=7:=by omega
  have hq:q=0\/q=1\/q=2\/q=3\/q=4\/q=5\/q=6\/q=7:=by omega
  rcases hr with rfl|rfl|rfl|rfl|rfl|rfl|rfl|rfl<;>rcases hq with rfl|rfl|rfl|rfl|rfl|rfl|rfl|rfl<;>decide
theorem J8: ∀(L:Nat) (f:Nat->Nat),(∀k,k<=L->f k<L)-> ∃a b,a<b/\b<=L/\f a=f b
  |0,f,h=>absurd (h 0 (Nat.le_refl _)) (by omega)
  |L+1,f,h=>by
   rcases Classical.em (∃k,k<=L/\f k=f (L+1))with⟨k,J,U⟩|cd
   · exact⟨k,L+1,by omega,by omega,U⟩
   · have bq: ∀k,k<=L->f k≠f (L+1):=λk hk e=>cd ⟨k,hk,e⟩
     obtain⟨a,b,J,U,h3⟩:=J8 L (λk=>if f k=L then f (L+1)else f k) λk hk=>by
       have l1:=h k (by omega)
       have l2:=h (L+1) (by omega)
       have l3:=bq k hk
       show(if f k=L then f (L+1)else f k)<L
       split<;>omega
     refine⟨a,b,J,by omega,?_⟩
     have n1:=bq a (by omega)
     have n2:=bq b (by omega)
     have h3:(if f a=L then f (L+1)else f a)=(if f b=L then f (L+1)else f b):=h3
     split at h3<;>split at h3
     · omega
     · exact absurd h3.symm n2
     · exact absurd h3 n1
     · exact h3
theorem Ok (L:Nat) (g:Nat->Nat) (s:Nat->Nat) (hs: ∀k,s k<L->s (k+1)=g (s k)) (bo: ∀k,k<=L->s k<L): ∀k,s k<L:=by
  obtain⟨a,b,J,U,h3⟩:=J8 L s bo
  have fQ: ∀n k,k<=n->s k<L:=by
    intro n
    induction n with
    |zero=>intro k hk;exact bo k (by omega)
    |succ n ih=>
     intro k hk
     rcases Nat.lt_or_ge b k with hb|hb
     · --step back by the period
       have TO: ∀d,b+d<=n+1->s (a+d)=s (b+d):=by
         intro d
         induction d with
         |zero=>intro _;exact h3
         |succ d U3=>
          intro hd
          have e1:=hs (a+d) (ih _ (by omega))
          have e2:=hs (b+d) (ih _ (by omega))
          rw[show a+(d+1)=a+d+1 by omega,show b+(d+1)=b+d+1 by omega,e1,e2,U3 (by omega)]
       have:=TO (k -b) (by omega)
       rw[show b+(k -b)=k by omega]at this
       rw[<-this]
       exact ih _ (by omega)
     · exact bo k (by omega)
  exactλk=>fQ k k (Nat.le_refl _)
end Go.Sy
set_option linter.unusedVariables false
set_option linter.unusedSimpArgs false
set_option maxRecDepth 100000
namespace Go.Proofs.YtbngaammbjaajaaGreatDoor
open Go.RowKit Go.Sy
def bj:Nat->(Nat->Bool)->Nat
  |0,_=>0
  |n+1,p=>bj n p+(bif p n then 1 else 0)
def cX (n:Nat) (p:Nat->Bool):Bool:=!fj n λi=>!p i
theorem iI (p:Nat->Bool): ∀n,bj n p<=n
  |0=>Nat.le_refl _
  |n+1=>by have:=iI p n;unfold bj;cases p n<;>simp<;>omega
theorem lE {n:Nat} {p:Nat->Bool}:cX n p=true↔ ∃i,i<n/\p i=true:=by
  unfold cX
  cases h:fj n λi=>!p i with
  |true=>
   simp only[Bool.not_true,Bool.false_eq_true,false_iff]
   rintro ⟨i,hi,hp⟩
   have:=my.1 h i hi
   simp[hp]at this
  |false=>
   simp only[Bool.not_false,true_iff]
   refine Classical.byContradiction λhn=>?_
   rw[my.2]at h
   · cases h
   · intro i hi
     cases hp:p i
     · rfl
     · exact absurd ⟨i,hi,hp⟩ hn
theorem mu {n:Nat} {p:Nat->Bool}:cX n p=false↔ ∀i,i<n->p i=false:=by
  constructor
  · intro h i hi
    cases hp:p i
    · rfl
    · rw[lE.2 ⟨i,hi,hp⟩]at h;cases h
  · intro h
    cases hq:cX n p
    · rfl
    · obtain⟨i,hi,hp⟩:=lE.1 hq
      rw[h i hi]at hp;cases hp
theorem zN (n:Nat) (p:Nat->Bool):cX (n+1) p=(cX n p||p n):=by
  show(!(fj n (λi=>!p i)&&!p n))=(!fj n (λi=>!p i)||p n)
  cases fj n (λi=>!p i)<;>cases p n<;>rfl
def ua:Nat->(Nat->Nat)->Nat
  |0,_=>0
  |n+1,f=>ua n f+f n
theorem sW {f:Nat->Nat} {b:Nat}: ∀{n:Nat},(∀i,i<n->f i<=b)->ua n f<=n*b
  |0,_=>by simp[ua]
  |n+1,h=>by
   have J:=sW (n:=n) λi hi=>h i (by omega)
   have U:=h n (by omega)
   unfold ua;rw[Nat.succ_mul];omega
def a_ (n:Nat) (p:Nat->Bool) (e:Int) (r:Int×Int):Int×Int:=bif Nat.blt (cA n p) n then(e,((cA n p:Nat):Int))else r
theorem dY {n i:Nat} {p:Nat->Bool} {e:Int} {r:Int×Int} (hb: ∀j,j<i->p j=false) (hp:p i=true) (hi:i<n):a_ n p e r=(e,((i:Nat):Int)):=by
  unfold a_;rw[qx hb hp hi,da hi];rfl
theorem cR {n:Nat} {p:Nat->Bool} {e:Int} {r:Int×Int} (h: ∀j,j<n->p j=false):a_ n p e r=r:=by
  unfold a_;rw[qk h,dy (Nat.le_refl _)];rfl
theorem Fj {p:Nat->Bool}: ∀{n:Nat},cA n p<n->p (cA n p)=true/\ ∀j,j<cA n p->p j=false:=by
  intro n h
  rcases Classical.em (∃i,i<n/\p i=true)with hx|hx
  · --the least one
    have key: ∀k i,i<=k->i<n->p i=true-> ∃m,m<n/\p m=true/\ ∀j,j<m->p j=false:=by
      intro k
      induction k with
      |zero=>
       intro i hi hn hp
       exact⟨i,hn,hp,λj hj=>absurd hj (by omega)⟩
      |succ k ih=>
       intro i hi hn hp
       rcases Classical.em (∃j,j<i/\p j=true)with⟨j,hj,U2⟩|cd
       · exact ih j (by omega) (by omega) U2
       · refine⟨i,hn,hp,λj hj=>?_⟩
         cases hq:p j
         · rfl
         · exact absurd ⟨j,hj,hq⟩ cd
    obtain⟨i,hi,hp⟩:=hx
    obtain⟨m,J,U,h3⟩:=key i i (Nat.le_refl _) hi hp
    rw[qx h3 U J]
    exact⟨U,h3⟩
  · have: ∀j,j<n->p j=false:=λj hj=>by
      cases hq:p j
      · rfl
      · exact absurd ⟨j,hj,hq⟩ hx
    rw[qk this]at h
    omega
theorem sX {n i:Nat} {p:Nat->Bool} (hi:i<n) (hp:p i=true):cA n p<n:=by
  rcases Nat.lt_or_ge (cA n p) n with h|h
  · exact h
  · have e:cA n p=n:=Nat.le_antisymm (Hu p n) h
    rcases Classical.em (∃j,j<i+1/\p j=true/\ ∀k,k<j->p k=false)with⟨j,J,U,h3⟩|cd
    · rw[qx h3 U (by omega)]at h;omega
    · exfalso
      have: ∀k,k<i+1->p k=false:=by
        intro k
        induction k using Nat.strongRecOn with
        |_ k ih=>
         intro hk
         cases hq:p k
         · rfl
         · exact absurd ⟨k,hk,hq,λj hj=>ih j hj (by omega)⟩ cd
      rw[this i (by omega)]at hp;cases hp
theorem Mm {n:Nat} {p q:Nat->Bool} {e:Int} {r r':Int×Int} (h: ∀i,i<n->p i=q i) (hr:(∀i,i<n->p i=false)->r=r'):a_ n p e r=a_ n q e r':=by
  rcases Nat.lt_or_ge (cA n p) n with J|J
  · obtain⟨U,h3⟩:=Fj J
    rw[dY h3 U J,dY (p:=q) (λj hj=>by rw[<-h j (by omega)];exact h3 j hj) (by rw[<-h _ J];exact U) J]
  · have: ∀i,i<n->p i=false:=λi hi=>by
      cases hq:p i
      · rfl
      · have:=sX hi hq;omega
    rw[cR this,cR (λj hj=>by rw[<-h j hj];exact this j hj),hr this]
theorem jv {n:Nat} {p:Nat->Bool} {e:Int} {r:Int×Int} (he:e≠0) (h:(a_ n p e r).1=0):(∀i,i<n->p i=false)/\r.1=0:=by
  rcases Nat.lt_or_ge (cA n p) n with J|J
  · obtain⟨U,h3⟩:=Fj J
    rw[dY h3 U J]at h;exact absurd h he
  · have: ∀i,i<n->p i=false:=λi hi=>by
      cases hq:p i
      · rfl
      · have:=sX hi hq;omega
    rw[cR this]at h
    exact⟨this,h⟩
def bM (W:Wd) (f:Int):Int:=bif decide (f<0)||decide ((W.ae:Int)<=f)then -1 else W.kinds f.toNat
theorem jB {W:Wd} {f:Int} (h:bM W f≠ -1):0<=f/\f<W.ae:=by
  unfold bM at h
  cases J:decide (f<0)<;>cases U:decide ((W.ae:Int)<=f)<;>simp[J,U]at h<;>simp at J U<;>omega
theorem IQ {W:Wd} {f:Int} (h:0<=f/\f<W.ae):bM W f=W.kinds f.toNat:=by
  unfold bM;rw[decide_eq_false (by omega),decide_eq_false (by omega)];rfl
theorem AV {W:Wd} {f:Int} (h:f<0\/W.ae<=f):bM W f= -1:=by
  unfold bM
  rcases h with h|h
  · rw[decide_eq_true h];rfl
  · rw[decide_eq_true h];cases decide (f<0)<;>rfl
def nL (W:Wd):Bool:=
  decide (W.ae<1)||decide (24<W.ae)||decide (W.aE<1)||decide (4<W.aE)||W.ar !=W.ae*16||W.av !=W.ae*16||W.aV !=W.ae||W.bz !=W.ae||W.aI !=W.ae||W.aY !=W.aE*4||W.aK !=W.aE||decide (W.az<1)||decide (8<W.az)||al W.time 1000000
structure bL (W:Wd):Prop where
  k0:1<=W.ae
  k1:W.ae<=24
  c0:1<=W.aE
  c1:W.aE<=4
  af:W.ar=W.ae*16
  aj:W.av=W.ae*16
  tasks:W.aV=W.ae
  lines:W.bz=W.ae
  bits:W.aI=W.ae
  ready:W.aY=W.aE*4
  aB:W.aK=W.aE
  d0:1<=W.az
  d1:W.az<=8
  t0:0<=W.time
  t1:W.time<=1000000
theorem BI {W:Wd} (h:nL W=false):bL W:=by
  unfold nL al at h
  simp only[Bool.or_eq_false_iff,decide_eq_false_iff_not,bne_eq_false_iff_eq]at h
  obtain⟨⟨⟨⟨⟨⟨⟨⟨⟨⟨⟨⟨⟨J,U⟩,h3⟩,h4⟩,h5⟩,h6⟩,h7⟩,h8⟩,h9⟩,cv⟩,dM⟩,ib⟩,gJ⟩,gM,uX⟩:=h
  exact⟨by omega,by omega,by omega,by omega,h5,h6,h7,h8,h9,cv,dM,by omega,by omega,by omega,by omega⟩
def js (W:Wd):Prop:=(∀i,i<W.bz->W.aD i<=50)/\(∀i,i<W.aY->W.aL i<=50)/\(∀i,i<W.aK->W.aQ i<=50)
def fE (s:fM):Int:=d' s.kind s.base s.len s.mark s.dx s.bS
def cQ (W:Wd) (u:Int):Bool:=decide (0<=u)&&decide (u<W.av)
def jt (W:Wd) (u:Int):Int:=bif cQ W u then(W.aj u.toNat).from_ else u
def bX (W:Wd) (u:Int):Nat->Int
  |0=>u
  |k+1=>jt W (bX W u k)
def fB (k p:fM):Bool:=
  fE p==0&&bif p.kind==1 then k.kind !=1&&decide (p.base<=k.base)&&decide (k.base -p.base<p.mark)else k.kind==p.kind&&k.base==p.base&&(p.bS==0||p.bS==k.bS)&&(((iz 6 p.dx.toNat k.dx.toNat:Nat):Int)==k.dx)
def j_ (W:Wd) (i:Nat) (s:fM):Bool:=
  bif s.kind==0 then fE s==0&&s.from_== -1 else
  W.kinds (i/16)==5&&fE s==0&&decide (s.base+s.len<=W.ae)&&(s.kind==1||W.kinds s.base.toNat==s.kind)&&
  (s.from_== -1||(cQ W s.from_&&fB s (W.aj s.from_.toNat)&&!cQ W (bX W s.from_ W.av)))
def cp (W:Wd) (i:Nat):Bool:=j_ W i (W.aj i)
theorem AU {W:Wd} {i:Nat} {s:fM} (h:j_ W i s=true):fE s=0:=by
  unfold j_ at h
  cases hk:s.kind==0<;>simp only[hk,cond_true,cond_false,Bool.and_eq_true,beq_iff_eq]at h
  · exact h.1.1.1.2
  · exact h.1
theorem kC {s:fM} (h:fE s=0):0<=s.kind/\s.kind<=8/\0<=s.base/\s.base<=24/\0<=s.len/\s.len<=24/\0<=s.mark/\s.mark<=24/\0<=s.dx/\s.dx<=7/\0<=s.bS/\s.bS<=65535:=zl h
theorem dn {p:Nat->Bool} {i:Nat} (h: ∀j,j<i->p j=false) (hi:p i=false): ∀j,j<i+1->p j=false:=by
  intro j hj
  rcases Nat.lt_or_ge j i with h3|h3
  · exact h j h3
  · obtain rfl:j=i:=by omega
    exact hi
theorem BJ {W:Wd} {u:Int} (h:cQ W u=true):jt W u=(W.aj u.toNat).from_:=by unfold jt;rw[h];rfl
theorem PJ {W:Wd} {u:Int} (h:cQ W u=false):jt W u=u:=by unfold jt;rw[h];rfl
theorem kI {W:Wd} {u:Int}:cQ W u=true↔0<=u/\u<W.av:=by unfold cQ;simp
theorem Hx {W:Wd} {u:Int} {k:Nat} (h:cQ W (bX W u k)=false): ∀{m:Nat},k<=m->bX W u m=bX W u k
  |m,hm=>by
   induction m with
   |zero=>obtain rfl:k=0:=by omega
          rfl
   |succ m ih=>
    rcases Nat.lt_or_ge m k with J|J
    · obtain rfl:k=m+1:=by omega
      rfl
    · show jt W (bX W u m)=_
      rw[ih J,PJ h]
def dr (s:fM) (f:Nat):Bool:=s.kind==1&&decide (s.base<=f)&&decide ((f:Int)<s.base+s.len)
def fy (s:fM) (f:Nat):Bool:=dr s f&&decide (s.base+s.mark<=f)
def eR (s:fM) (f:Nat):Bool:=s.kind !=1&&s.kind !=0&&s.base==f
def gu (W:Wd) (f:Nat):Bool:=
  decide (bj W.av (λi=>dr (W.aj i) f)<=1)&&(W.kinds f==0||(decide (0<bj W.av λi=>eR (W.aj i) f)&&!cX W.av λi=>fy (W.aj i) f))
def mU (n:Nat) (l:Nat->Int) (x:Int):Nat:=bj n λk=>l k==x
def dp (n:Nat) (ln:Nat->Nat) (l:Nat->Nat->Int) (x:Int):Nat:=ua n λi=>mU (ln i) (l i) x
def jO (n:Nat) (l:Nat->Int) (x:Int):Bool:=cX n λk=>l k==x
def jC (t:dN):Bool:=al t.r0 65535||al t.r1 65535||al t.r2 65535||al t.r3 65535||al t.r4 65535||al t.r5 65535||al t.r6 65535||al t.r7 65535
def kM (W:Wd) (t:dN):Bool:=al t.pc 65535||al t.word 65535||al t.bS 65535||al t.st 6||al t.prio 3||al t.core (W.aE -1)||al t.gr 3
def okF (W:Wd) (f k:Int):Bool:=f== -1||bM W f==k
def jb (W:Wd) (t:dN):Bool:=okF W t.node 5&&okF W t.space 4&&okF W t.helper 7&&okF W t.bK 6
def lK (W:Wd) (t:dN):Bool:=t.bK== -1||((W.tasks t.bK.toNat).st==5&&t.st !=4)
def yy (W:Wd) (f:Nat):Nat:=bj W.aV λi=>(W.tasks i).bK==f
def j3 (W:Wd) (f:Nat):Bool:=decide (yy W f<=1)&&((yy W f==1)==((W.tasks f).st==5))
def jD (W:Wd) (f:Nat):Nat:=dp W.bz W.aD W.lines f
def f_ (W:Wd) (f:Nat):Nat:=dp W.aY W.aL W.ready f+mU W.aE W.aM f
def qy (W:Wd) (f:Nat) (k:Int):Bool:=(jD W f==1)&&(f_ W f==0)&&bM W (W.tasks f).loc==k&&jO (W.aD (W.tasks f).loc.toNat) (W.lines (W.tasks f).loc.toNat) f
def jg (W:Wd) (f:Nat):Bool:=
  let s:=(W.tasks f).st
  bif s==2||s==3||s==4 then qy W f 7 else bif s==6 then qy W f 8 else
  bif s==1 then(jD W f==0)&&(f_ W f==1)&&(W.tasks f).loc== -1 else(jD W f==0)&&(f_ W f==0)&&(W.tasks f).loc== -1
def cr (W:Wd) (f:Nat):Bool:=
  let t:=W.tasks f
  bif W.kinds f !=6 then xP t dN.blank else !jC t&&!kM W t&&jb W t&&lK W t&&j3 W f&&jg W f
def nf (W:Wd) (t:Int):Bool:=(W.tasks t.toNat).st==4
def dZ (W:Wd) (f:Nat) (t:Int):Bool:=bM W t==6&&(W.tasks t.toNat).loc==f&&(nf W t==nf W (W.lines f 0))
def ct (W:Wd) (f:Nat):Bool:=
  !(decide (0<W.aD f)&&W.kinds f !=7&&W.kinds f !=8)&&!(W.bits f !=0&&(W.kinds f !=8||decide (0<W.aD f)))&&!al (W.bits f) 65535&&fj (W.aD f) λi=>dZ W f (W.lines f i)
def cP (W:Wd) (t c p:Int):Bool:=bM W t==6&&(W.tasks t.toNat).st==1&&(W.tasks t.toNat).core==c&&(decide (p<0)||(W.tasks t.toNat).prio==p)
def cE (W:Wd) (c:Nat):Bool:=W.aM c== -1||cP W (W.aM c) c (-1)
def cO (W:Wd) (i:Nat):Bool:=fj (W.aL i) λk=>cP W (W.ready i k) ((i/4:Nat):Int) ((i%4:Nat):Int)
def cm (W:Wd) (i:Nat):Bool:=
  let x:=W.af i
  let k:=W.kinds (i/16)
  x==0||(k !=3&&k !=4)||(bif k==4 then x -x%1024==32768&&bM W (x%1024)==3 else(x -x%1024==32768||x -x%1024==49152)&&bM W (x%1024)==2)
def dW (W:Wd) (l:Nat->fS) (i:Nat):Bool:=
  bM W (l i).sp==4&&!al (l i).pg 255&&dC W.ar W.af (l i).sp (16*(l i).pg)==0&&ff W.ar W.af (l i).sp (16*(l i).pg)==(l i).fr&&(fg W.ar W.af (l i).sp (16*(l i).pg)==(l i).wr)&&!cX i λk=>(l k).sp==(l i).sp&&(l k).pg==(l i).pg
def b_ (W:Wd) (n:Nat) (l:Nat->fS):Bool:=decide (n<=4)&&fj n λi=>dW W l i
def na (W:Wd) (r:Int×Int):Int×Int:=a_ W.ar (λi=>al (W.af i) 65535) 1<|a_ W.ae (λi=>al (W.kinds i) 8||W.kinds i==1) 3<|a_ W.az (λi=>al (W.aU i) 3) 2 r
def oo (W:Wd) (r:Int×Int):Int×Int:=a_ W.av (λi=>!cp W i) 8 r
def p6 (W:Wd) (r:Int×Int):Int×Int:=a_ W.ae (λi=>!gu W i) 8 r
def ot (W:Wd) (r:Int×Int):Int×Int:=a_ W.ae (λi=>!cr W i) 8 r
def ou (W:Wd) (r:Int×Int):Int×Int:=a_ W.ae (λi=>!ct W i) 8 r
def ow (W:Wd) (r:Int×Int):Int×Int:=a_ W.aE (λi=>!cE W i) 8<|a_ W.aY (λi=>!cO W i) 8 r
def ox (W:Wd) (r:Int×Int):Int×Int:=a_ W.ar (λi=>!cm W i) 9<|a_ W.aE (λi=>!b_ W (W.aQ i) (W.aB i)) 9 r
def wm (W:Wd):Int×Int:=bif nL W then(2,-1)else na W (oo W (p6 W (ot W (ou W (ow W (ox W (0,-1)))))))
end Go.Proofs.YtbngaammbjaajaaGreatDoor
set_option linter.unusedVariables false
set_option linter.unusedSimpArgs false
set_option maxRecDepth 100000
namespace Go.Proofs.YtbngaammbjaajaaGreatDoor
open Go.RowKit Go.Sy
theorem bQ {z:Int} (J: -1000000<=z) (U:z<=1000000):IntKind.i64.wrap z=z:=by rw[IntKind.wrap_i64];omega
theorem lJ (W:Wd):(⟨W.ar,W.af,W.ae,W.kinds,W.av,W.aj,W.aV,W.tasks,W.bz,W.aD,W.lines,W.aI,W.bits,W.aE,W.aM,W.aY,W.aL,W.ready,W.aK,W.aQ,W.aB,W.az,W.aU,W.time⟩:Wd)=W:=rfl
end Go.Proofs.YtbngaammbjaajaaGreatDoor
set_option linter.unusedVariables false
set_option linter.unusedSimpArgs false
set_option maxRecDepth 100000
namespace Go.Proofs.YtbngaammbjaajaaGreatDoor
open Go.RowKit Go.Sy
def SO (n:Nat) (l:Nat->Int) (x:Int):bH where
  σ:=Nat
  rt:= []
  sh i:= [(5,.v (.int .i64 i))]
  mh _:= []
  inv i:=i<=n/\ ∀j,j<i->(l j==x)=false
  μ i:=n -i
  init:=0
def Rk (n:Nat) (ln:Nat->Nat) (l:Nat->Nat->Int) (x:Int):bH where
  σ:=Nat
  rt:= []
  sh i:= [(6,.v (.int .i64 i)),(5,.v (.int .i64 (dp i ln l x:Nat)))]
  mh _:= []
  inv i:=i<=n
  μ i:=n -i
  init:=0
def Rl (ln:Nat->Nat) (l:Nat->Nat->Int) (x:Int) (i c:Int):bH where
  σ:=Nat
  rt:= []
  sh k:= [(7,.v (.int .i64 k)),(5,.v (.int .i64 (c+(bj k λq=>l i.toNat q==x:Nat))))]
  mh _:= []
  inv k:=k<=ln i.toNat
  μ k:=ln i.toNat -k
  init:=0
def SP (W:Wd) (f:Nat):bH where
  σ:=Nat
  rt:= [(2,0)]
  sh i:= [(2,bk 0),(8,.v (.int .i64 i)),(5,.v (.int .i64 (bj i λk=>dr (W.aj k) f:Nat))),(6,.v (.bool (cX i λk=>fy (W.aj k) f))),(7,.v (.int .i64 (bj i λk=>eR (W.aj k) f:Nat)))]
  mh _:= []
  inv i:=i<=W.av
  μ i:=W.av -i
  init:=0
def SN (W:Wd) (u:Int):bH where
  σ:=Nat
  rt:= [(2,0)]
  sh k:= [(2,bk 0),(9,.v (.int .i64 k)),(8,.v (.int .i64 (bX W u k)))]
  mh _:= []
  inv k:=k<=W.av
  μ k:=W.av -k
  init:=0
structure GR where
  (W:Wd) (f:Int)
def OT:Sy.Spec:=⟨GR,λ⟨W,f⟩=> [gq W,.v (.int .i64 f)],λ_=> [],λ_=>True,λ⟨W,f⟩=> .v (.int .i64 (bM W f)),λ_=> [],
  λargs mem=>match args with| [a0,a1]=>some ⟨gf a0,ao (a1)⟩|_=>none⟩
def OU:aX:=⟨[],(OT).g,none⟩
def GS:GR->Prop:=λ⟨W,f⟩=>let a0:=cond (decide (f<0)) true (decide (((W.ae:Nat):Int)<=f));True/\(a0=true->(-1)=bM W f/\True)/\(a0=false->(0<=f/\f<((W.ae:Nat):Int))/\W.kinds (Int.toNat f)=bM W f/\True)
theorem sw:aW Tryz.prog bf 75 OU:=bd .nil false Tryz.call75 Tryz.func75 (λ_=> []) (V:=GS) (λ_=>by kernel_rfl) λ⟨W,f⟩ hp=>by
  dsimp only[GS,tn,ak,bx,aG,aF,aH]
  simp only[bn,bG,eq_self,implies_true,Bool.cond_self]
  refine⟨λh=>?_,λh=>?_⟩
  · rw[Bool.or_eq_true,decide_eq_true_eq,decide_eq_true_eq]at h;exact(AV h).symm
  · rw[Bool.or_eq_false_iff,decide_eq_false_iff_not,decide_eq_false_iff_not]at h
    have U:0<=f/\f<W.ae:=by omega
    exact⟨U,(IQ U).symm⟩
structure Kf where
  (x:Int) (n:Nat) (l:Nat->Int)
def SR:Sy.Spec:=⟨Kf,λ⟨x,n,l⟩=> [.v (.int .i64 x),.sl true 1 n (λi_ _=> .v (.int .i64 (l i_)))],λ_=> [],λ_=>True,λ⟨x,n,l⟩=> .v (.bool (jO n l x)),λ_=> [],
  λargs mem=>match args with| [a0,a1]=>some ⟨ao (a0),bN a1,λi=>ao (bD a1 i 0)⟩|_=>none⟩
def SU:aX:=⟨[],(SR).g,none⟩
def Kg:Kf->Prop:=λ⟨x,n,l⟩=>let a0:=(n:Int);0=((0:Nat):Int)/\True/\(0<=n/\(∀b0:Nat,b0<0->(l b0==x)=false))/\(∀c0:Nat,let d0:=(c0:Int);let e0:=decide (d0<a0);let g0:=l (Int.toNat d0)==x;let h0:Int:=d0+1;c0<=n/\(∀k0:Nat,k0<c0->(l k0==x)=false)->a0<=9223372036854775807->(e0=true->(0<=d0/\d0<a0)/\(g0=true->true=jO n l x/\True)/\(g0=false->ak h0=h0/\(∃l0:Nat,h0=(l0:Int)/\True/\(l0<=n/\(∀o0:Nat,o0<l0->(l o0==x)=false))/\n-l0<n-c0)))/\(e0=false->false=jO n l x/\True))
theorem Rj:aW Tryz.prog bf 77 SU:=bd .nil false Tryz.call77 Tryz.func77 (λ⟨x,n,l⟩=> [.inv (SO n l x)]) (V:=Kg) (λ_=>by kernel_rfl) λ⟨x,n,l⟩ hp=>by
  dsimp only[Kg,tn,ak,bx,aG,aF,aH]
  simp only[bn,eq_self,implies_true,Bool.cond_self]
  intro s hs hn
  refine⟨λh=>?_,λh=>?_⟩
  · have ai:=br h
    refine⟨by omega,λh=>(lE.2 ⟨s,ai,h⟩).symm,λh=>⟨by rw[IntKind.wrap_i64];omega,bP ⟨⟨by omega,dn (p:=λj=>l j==x) hs.2 h⟩,by omega⟩⟩⟩
  · have bI:=bJ h
    obtain rfl:s=n:=by omega
    exact(mu.2 hs.2).symm
structure ET where
  (n:Nat) (ln:Nat->Nat) (l:Nat->Nat->Int) (x:Int)
def EU:Sy.Spec:=⟨ET,λ⟨n,ln,l,x⟩=> [.sl true 1 n (λi _=> .sl true 1 (ln i) (iF (l i))),.v (.int .i64 x)],λ_=> [],λ⟨n,ln,_,_⟩=>n<=1000/\ ∀i,i<n->ln i<=1000,λ⟨n,ln,l,x⟩=> .v (.int .i64 (dp n ln l x:Nat)),λ_=> [],
  λargs mem=>match args with| [a0,a1]=>some ⟨bN a0,λi=>bN (bD a0 i 0),λi k=>ao (bD (bD a0 i 0) k 0),ao (a1)⟩|_=>none⟩
def MB:aX:=⟨[],(EU).g,none⟩
def EV:ET->Prop:=λ⟨n,ln,l,x⟩=>let a0:=(n:Int);0=((0:Nat):Int)/\0=((dp 0 ln l x:Nat):Int)/\True/\0<=n/\(∀b0:Nat,let c0:=(b0:Int);let d0:=decide (c0<a0);let e0:=((dp b0 ln l x:Nat):Int);let g0:=Int.toNat c0;let h0:=ln g0;let k0:=0<=c0/\c0<a0;let l0:=(h0:Int);let o0:Int:=c0+1;b0<=n->a0<=9223372036854775807->(d0=true->0=((0:Nat):Int)/\e0=e0+((bj 0 (λq0:Nat=>l g0 q0==x):Nat):Int)/\True/\0<=h0/\(∀r0:Nat,let u0:=(r0:Int);let v0:=decide (u0<l0);let w0:=l g0 (Int.toNat u0)==x;let x0:Int:=e0+((bj r0 (λy0:Nat=>l g0 y0==x):Nat):Int);let z0:Int:=x0+1;let a1:Int:=u0+1;let b1:=ak a1=a1;r0<=h0->k0/\(l0<=9223372036854775807->(v0=true->k0/\(0<=u0/\u0<l0)/\(w0=true->ak z0=z0/\b1/\(∃c1:Nat,a1=(c1:Int)/\z0=e0+((bj c1 (λd1:Nat=>l g0 d1==x):Nat):Int)/\True/\c1<=h0/\h0-c1<h0-r0))/\(w0=false->b1/\(∃e1:Nat,a1=(e1:Int)/\x0=e0+((bj e1 (λg1:Nat=>l g0 g1==x):Nat):Int)/\True/\e1<=h0/\h0-e1<h0-r0)))/\(v0=false->ak o0=o0/\(∃J:Nat,o0=(J:Int)/\x0=((dp J ln l x:Nat):Int)/\True/\J<=n/\n-J<n-b0)))))/\(d0=false->e0=((dp n ln l x:Nat):Int)/\True))
theorem L8:aW Tryz.prog bf 76 MB:=bd .nil false Tryz.call76 Tryz.func76 (λ⟨n,ln,l,x⟩=> [.inv (Rk n ln l x),.pk false λfr=>Rl ln l x (ao (fr 6)) (ao (fr 5))]) (V:=EV) (λ_=>by kernel_rfl) λ⟨n,ln,l,x⟩ hp=>by
  dsimp only[EU]at hp
  dsimp only[EV,tn,ak,bx,aG,aF,aH]
  simp only[bn,eq_self,implies_true,Bool.cond_self]
  refine⟨rfl,λs hs hn=>⟨λh=>?_,λh=>?_⟩⟩
  · have ai:=br h
    have hl:=hp.2 s ai
    have hc:dp s ln l x<=s*1000:=sW λi hi=>Nat.le_trans (iI _ _) (hp.2 i (by omega))
    refine⟨by simp[bj],λk hk=>⟨by omega,λhm=>⟨λU=>?_,λU=>?_⟩⟩⟩
    · have Ks:=br U
      have hb:=iI (λq=>l s q==x) k
      refine⟨by omega,by omega,λh3=>?_,λh3=>?_⟩
      · have e:(bj (k+1) λq=>l s q==x)=(bj k λq=>l s q==x)+1:=by simp[bj,h3]
        exact⟨by rw[IntKind.wrap_i64];omega,by rw[IntKind.wrap_i64];omega,bP ⟨by rw[e];omega,by omega,by omega⟩⟩
      · have e:(bj (k+1) λq=>l s q==x)=(bj k λq=>l s q==x):=by simp[bj,h3]
        exact⟨by rw[IntKind.wrap_i64];omega,bP ⟨by rw[e],by omega,by omega⟩⟩
    · have bI:=bJ U
      obtain rfl:k=ln s:=by omega
      refine⟨by rw[IntKind.wrap_i64];omega,bP ⟨?_,by omega,by omega⟩⟩
      rw[show dp (s+1) ln l x=dp s ln l x+bj (ln s) (λq=>l s q==x)from rfl];omega
  · have bI:=bJ h
    obtain rfl:s=n:=by omega
    rfl
structure ql where
  (W:Wd) (t c p:Int)
def vJ:Sy.Spec:=⟨ql,λ⟨W,t,c,p⟩=> [gq W,.v (.int .i64 t),.v (.int .i64 c),.v (.int .i64 p)],λ_=> [],λ⟨W,_,_,_⟩=>bL W,λ⟨W,t,c,p⟩=> .v (.bool (cP W t c p)),λ_=> [],
  λargs mem=>match args with| [a0,a1,a2,a3]=>some ⟨gf a0,ao (a1),ao (a2),ao (a3)⟩|_=>none⟩
def Nz:aX:=⟨[],(vJ).g,none⟩
def FC:ql->Prop:=λ⟨W,t,c,p⟩=>let a0:=W.ae;let b0:=W.av;let c0:=W.aV;let d0:=W.bz;let e0:=W.aE;let g0:=W.aY;let h0:=bM W t==6;let k0:=0<=t/\t<(c0:Int);let l0:=W.tasks (Int.toNat t);let o0:=cond h0 (l0.st==1) false;let q0:=cond o0 (l0.core==c) false;True/\(((((((((((((True/\W.ar=W.ar/\(∀r0:Nat,r0<W.ar->True/\W.af r0=W.af r0))/\a0=a0/\(∀u0:Nat,u0<a0->True/\W.kinds u0=W.kinds u0))/\b0=b0/\(∀v0:Nat,v0<b0->aF (W.aj v0) (W.aj v0)))/\c0=c0/\(∀w0:Nat,w0<c0->aG (W.tasks w0) (W.tasks w0)))/\d0=d0/\(∀x0:Nat,let y0:=W.aD x0;x0<d0->True/\y0=y0/\(∀z0:Nat,z0<y0->True/\W.lines x0 z0=W.lines x0 z0)))/\W.aI=W.aI/\(∀a1:Nat,a1<W.aI->True/\W.bits a1=W.bits a1))/\e0=e0/\(∀b1:Nat,b1<e0->True/\W.aM b1=W.aM b1))/\g0=g0/\(∀c1:Nat,let d1:=W.aL c1;c1<g0->True/\d1=d1/\(∀e1:Nat,e1<d1->True/\W.ready c1 e1=W.ready c1 e1)))/\W.aK=W.aK/\(∀g1:Nat,let J:=W.aQ g1;g1<W.aK->True/\J=J/\(∀k1:Nat,k1<J->aH (W.aB g1 k1) (W.aB g1 k1))))/\W.az=W.az/\(∀l1:Nat,l1<W.az->True/\W.aU l1=W.aU l1))/\W.time=W.time)/\t=t/\True)/\True/\True)/\(h0=true->k0)/\(o0=true->k0)/\(decide (p<0)=false->q0=true->k0)/\cond q0 (cond (decide (p<0)) true (l0.prio==p)) false=cP W t c p/\True
theorem Mw:aW Tryz.prog bf 37 Nz:=bd (.cons sw .nil) false Tryz.call37 Tryz.func37 (λ_=> []) (V:=FC) (λ_=>by kernel_rfl) λ⟨W,t,c,p⟩ hp=>by
  dsimp only[vJ]at hp
  dsimp only[FC,tn,ak,bx,aG,aF,aH]
  simp only[bn,bG,eq_self,implies_true,Bool.cond_self]
  have hr:(bM W t==6)=true->0<=t/\t<W.aV:=λh=>by
    have:=jB (W:=W) (f:=t) (by rw[eq_of_beq h];decide)
    rw[hp.tasks];exact this
  refine⟨hr,λh=>hr (by revert h;cases bM W t==6<;>simp),λ_ h=>hr (by revert h;cases bM W t==6<;>simp),rfl⟩
structure Em where
  (W:Wd) (f:Int)
def En:Sy.Spec:=⟨Em,λ⟨W,f⟩=> [gq W,.v (.int .i64 f)],λ_=> [],λ⟨W,f⟩=>bL W/\0<=f/\f<W.ae/\ ∀i,i<W.av->cp W i=true,λ⟨W,f⟩=> .v (.bool (gu W f.toNat)),λ_=> [],
  λargs mem=>match args with| [a0,a1]=>some ⟨gf a0,ao (a1)⟩|_=>none⟩
def L9:aX:=⟨[],(En).g,none⟩
def Eo:Em->Prop:=λ⟨W,f⟩=>let a0:=SV.ptr 0 0 none 0 0=SV.ptr 0 0 none 0 0;let b0:=Int.toNat f;let c0:=W.ae;let d0:=W.av;let e0:=W.aV;let g0:=W.bz;let h0:=W.aE;let k0:=W.aY;let l0:=(((((((((((True/\W.ar=W.ar/\(∀o0:Nat,o0<W.ar->True/\W.af o0=W.af o0))/\c0=c0/\(∀q0:Nat,q0<c0->True/\W.kinds q0=W.kinds q0))/\d0=d0/\(∀r0:Nat,r0<d0->aF (W.aj r0) (W.aj r0)))/\e0=e0/\(∀u0:Nat,u0<e0->aG (W.tasks u0) (W.tasks u0)))/\g0=g0/\(∀v0:Nat,let w0:=W.aD v0;v0<g0->True/\w0=w0/\(∀x0:Nat,x0<w0->True/\W.lines v0 x0=W.lines v0 x0)))/\W.aI=W.aI/\(∀y0:Nat,y0<W.aI->True/\W.bits y0=W.bits y0))/\h0=h0/\(∀z0:Nat,z0<h0->True/\W.aM z0=W.aM z0))/\k0=k0/\(∀a1:Nat,let b1:=W.aL a1;a1<k0->True/\b1=b1/\(∀c1:Nat,c1<b1->True/\W.ready a1 c1=W.ready a1 c1)))/\W.aK=W.aK/\(∀d1:Nat,let e1:=W.aQ d1;d1<W.aK->True/\e1=e1/\(∀g1:Nat,g1<e1->aH (W.aB d1 g1) (W.aB d1 g1))))/\W.az=W.az/\(∀J:Nat,J<W.az->True/\W.aU J=W.aU J))/\W.time=W.time)/\True;let k1:=(d0:Int);True/\a0/\0=((0:Nat):Int)/\0=((bj 0 (λl1:Nat=>dr (W.aj l1) b0):Nat):Int)/\false=cX 0 (λo1:Nat=>fy (W.aj o1) b0)/\0=((bj 0 (λq1:Nat=>eR (W.aj q1) b0):Nat):Int)/\l0/\0<=d0/\(∀r1:Nat,let u1:=(r1:Int);let v1:=decide (u1<k1);let w1:=W.aj (Int.toNat u1);let x1:=w1.kind;let y1:=w1.base;let z1:=cond (x1==1) (decide (y1<=f)) false;let a2:Int:=y1+w1.len;let b2:=cond z1 (decide (f<a2)) false;let c2:=((bj r1 (λd2:Nat=>dr (W.aj d2) b0):Nat):Int);let e2:Int:=c2+1;let g2:=cX r1 (λU:Nat=>fy (W.aj U) b0);
    let k2:Int:=y1+w1.mark;let l2:=cond (cond (x1 !=1) (x1 !=0) false) (y1==f) false;let o2:=l2=true;let q2:=((bj r1 (λr2:Nat=>eR (W.aj r2) b0):Nat):Int);let u2:Int:=q2+1;let v2:=ak u2=u2;let w2:Int:=u1+1;let x2:=ak w2=w2;let y2:=cond g2 true (decide (k2<=f));let z2:=d0-r1;let a3:=l2=false;let b3:=decide (c2<=1);r1<=d0->k1<=9223372036854775807->(v1=true->(0<=u1/\u1<k1)/\True/\tn 5 True/\(z1=true->ak a2=a2)/\(b2=true->ak e2=e2/\(g2=false->ak k2=k2)/\(o2->v2/\x2/\(∃c3:Nat,a0/\w2=(c3:Int)/\e2=((bj c3 (λd3:Nat=>dr (W.aj d3) b0):Nat):Int)/\y2=cX c3 (λe3:Nat=>fy (W.aj e3) b0)/\u2=((bj c3 (λg3:Nat=>eR (W.aj g3) b0):Nat):Int)/\l0/\c3<=d0/\d0-c3<z2))/\(a3->x2/\(∃h3:Nat,a0/\w2=(h3:Int)/\e2=((bj h3 (λk3:Nat=>dr (W.aj k3) b0):Nat):Int)/\y2=cX h3 (λl3:Nat=>fy (W.aj l3) b0)/\q2=((bj h3 (λo3:Nat=>eR (W.aj o3) b0):Nat):Int)/\l0/\h3<=d0/\d0-h3<z2)))/\(b2=false->(o2->v2/\x2/\(∃q3:Nat,a0/\w2=(q3:Int)/\c2=((bj q3 (λr3:Nat=>dr (W.aj r3) b0):Nat):Int)/\g2=cX q3 (λu3:Nat=>fy (W.aj u3) b0)/\u2=((bj q3 (λv3:Nat=>eR (W.aj v3) b0):Nat):Int)/\l0/\q3<=d0/\d0-q3<z2))/\(a3->x2/\(∃w3:Nat,a0/\w2=(w3:Int)/\c2=((bj w3 (λx3:Nat=>dr (W.aj x3) b0):Nat):Int)/\g2=cX w3 (λy3:Nat=>fy (W.aj y3) b0)/\q2=((bj w3 (λz3:Nat=>eR (W.aj z3) b0):Nat):Int)/\l0/\w3<=d0/\d0-w3<z2))))/\(v1=false->(b3=true->0<=f/\f<(c0:Int))/\cond b3 (cond (W.kinds b0==0) true (cond (decide (0<q2)) (!g2) false)) false=gu W b0/\True))
theorem LD:aW Tryz.prog bf 34 L9:=bd .nil false Tryz.call34 Tryz.func34 (λ⟨W,f⟩=> [.inv (SP W f.toNat)]) (V:=Eo) (λ_=>by kernel_rfl) λ⟨W,f⟩ hp=>by
  dsimp only[En]at hp
  dsimp only[Eo,tn,ak,bx,aG,aF,aH]
  obtain⟨hz,f0,f1,hs⟩:=hp
  obtain⟨F,rfl⟩: ∃F:Nat,f=F:=⟨f.toNat,by omega⟩
  simp only[bn,bG,eq_self,implies_true,Bool.cond_self]
  refine⟨rfl,rfl,rfl,λs nS hn=>⟨λh=>?_,λh=>?_⟩⟩
  · have ai:=br h
    have hr:=kC (AU (hs s ai))
    have k1:IntKind.i64.wrap ((s:Int)+1)=s+1:=by rw[IntKind.wrap_i64];omega
    have Uj:=iI (λk=>dr (W.aj k) F) s
    have eE:=iI (λk=>eR (W.aj k) F) s
    have kc:((W.aj s).kind==1&&decide ((W.aj s).base<=F)&&decide ((F:Int)<(W.aj s).base+(W.aj s).len))=dr (W.aj s) F:=rfl
    have kk:((W.aj s).kind !=1&&(W.aj s).kind !=0&&(W.aj s).base==F)=eR (W.aj s) F:=rfl
    have ec:(bj (s+1) λk=>dr (W.aj k) F)=(bj s λk=>dr (W.aj k) F)+(bif dr (W.aj s) F then 1 else 0):=rfl
    have ek:(bj (s+1) λk=>eR (W.aj k) F)=(bj s λk=>eR (W.aj k) F)+(bif eR (W.aj s) F then 1 else 0):=rfl
    have ef:(cX (s+1) λk=>fy (W.aj k) F)=((cX s λk=>fy (W.aj k) F)||fy (W.aj s) F):=zN _ _
    rw[kc,kk]
    refine⟨by omega,λ_=>by rw[IntKind.wrap_i64];omega,λhc=>?_,λhc=>?_⟩
    · have gX:fy (W.aj s) F=decide ((W.aj s).base+(W.aj s).mark<=F):=by unfold fy;rw[hc];rfl
      refine⟨by rw[IntKind.wrap_i64];omega,λ_=>by rw[IntKind.wrap_i64];omega,λhk=>?_,λhk=>?_⟩
      · exact⟨by rw[IntKind.wrap_i64];omega,k1,bP ⟨by rw[ec,hc];simp,by rw[ef,gX],by rw[ek,hk];simp,by omega,by omega⟩⟩
      · exact⟨k1,bP ⟨by rw[ec,hc];simp,by rw[ef,gX],by rw[ek,hk];simp,by omega,by omega⟩⟩
    · have gX:fy (W.aj s) F=false:=by unfold fy;rw[hc];rfl
      refine⟨λhk=>?_,λhk=>?_⟩
      · exact⟨by rw[IntKind.wrap_i64];omega,k1,bP ⟨by rw[ec,hc];simp,by rw[ef,gX];simp,by rw[ek,hk];simp,by omega,by omega⟩⟩
      · exact⟨k1,bP ⟨by rw[ec,hc];simp,by rw[ef,gX];simp,by rw[ek,hk];simp,by omega,by omega⟩⟩
  · have bI:=bJ h
    obtain rfl:s=W.av:=by omega
    refine⟨λ_=>by omega,?_⟩
    unfold gu
    rw[show decide (((bj W.av λk=>dr (W.aj k) F:Nat):Int)<=1)=decide ((bj W.av λk=>dr (W.aj k) F)<=1)from decide_eq_decide.2 (by omega),show decide (0<((bj W.av λk=>eR (W.aj k) F:Nat):Int))=decide (0<bj W.av λk=>eR (W.aj k) F)from decide_eq_decide.2 (by omega)]
end Go.Proofs.YtbngaammbjaajaaGreatDoor
set_option linter.unusedVariables false
set_option linter.unusedSimpArgs false
set_option maxRecDepth 100000
namespace Go.Proofs.YtbngaammbjaajaaGreatDoor
open Go.RowKit Go.Sy
theorem qp {W:Wd} {i:Nat} {s:fM} (h:(s.kind==0)=false):j_ W i s=(W.kinds (i/16)==5&&fE s==0&&decide (s.base+s.len<=W.ae)&&(s.kind==1||W.kinds s.base.toNat==s.kind)&&(s.from_== -1||(cQ W s.from_&&fB s (W.aj s.from_.toNat)&&!cQ W (bX W s.from_ W.av)))):=by unfold j_;rw[h];rfl
theorem xQ {W:Wd} {u:Int}:(decide (u<0)||decide ((W.av:Int)<=u))=!cQ W u:=by
  cases hq:cQ W u with
  |true=>have:=kI.1 hq;rw[decide_eq_false (by omega),decide_eq_false (by omega)];rfl
  |false=>
   have: ¬(0<=u/\u<W.av):=λh=>by rw[kI.2 h]at hq;cases hq
   rcases Int.lt_or_le u 0 with h|h
   · rw[decide_eq_true h];rfl
   · rw[decide_eq_true (show(W.av:Int)<=u by omega)];simp
theorem H7 {W:Wd} {u:Int} {b:Bool} (hN:W.av<=1000) (hR:b=!cQ W (bX W u W.av)):u=bX W u 0/\ ∀(s:Nat),s<=W.av->(W.av:Int)<=9223372036854775807->
    ((decide ((s:Int)<(W.av:Int))&&decide (0<=bX W u s)&&decide (bX W u s<(W.av:Int)))=true->(0<=bX W u s/\bX W u s<(W.av:Int))/\IntKind.i64.wrap ((s:Int)+1)=(s:Int)+1/\ ∃s':Nat,(s:Int)+1=(s':Int)/\(W.aj (bX W u s).toNat).from_=bX W u s'/\s'<=W.av/\W.av -s'<W.av -s)/\
    ((decide ((s:Int)<(W.av:Int))&&decide (0<=bX W u s)&&decide (bX W u s<(W.av:Int)))=false->(decide (bX W u s<0)||decide ((W.av:Int)<=bX W u s))=b):=by
  refine⟨rfl,λs hs _=>⟨λh=>?_,λh=>?_⟩⟩
  · simp only[Bool.and_eq_true,decide_eq_true_eq]at h
    obtain⟨⟨J,U⟩,h3⟩:=h
    exact⟨⟨U,h3⟩,by rw[IntKind.wrap_i64];omega,bP ⟨(BJ (kI.2 ⟨U,h3⟩)).symm,by omega,by omega⟩⟩
  · rw[hR,xQ]
    congr 1
    cases hq:cQ W (bX W u s)with
    |false=>rw[Hx hq hs,hq]
    |true=>
     have U:=kI.1 hq
     simp only[decide_eq_true U.1,decide_eq_true U.2,Bool.and_true]at h
     obtain rfl:s=W.av:=by have:=of_decide_eq_false h;omega
     exact hq.symm
theorem EH (s:fM):d' s.kind s.base s.len s.mark s.dx s.bS=fE s:=rfl
theorem qa {b:Bool} (h:b=true->False):false=b:=by cases b<;>simp_all
structure EP where
  (W:Wd) (i:Int)
def ER:Sy.Spec:=⟨EP,λ⟨W,i⟩=> [gq W,.v (.int .i64 i)],λ_=> [],λ⟨W,i⟩=>bL W/\0<=i/\i<W.av,λ⟨W,i⟩=> .v (.bool (cp W i.toNat)),λ_=> [],
  λargs mem=>match args with| [a0,a1]=>some ⟨gf a0,ao (a1)⟩|_=>none⟩
def MA:aX:=⟨[],(ER).g,none⟩
def ES:EP->Prop:=λ⟨W,i⟩=>let a0:=W.av;let b0:=(a0:Int);let c0:=True/\True;let d0:=tn 4 c0;let e0:=W.aj (Int.toNat i);let g0:=e0.kind;let h0:=g0==0;let k0:=e0.base;let l0:=e0.len;let o0:=e0.mark;let q0:=e0.dx;let r0:=q0=q0;let u0:=e0.bS;let v0:=(((((((True/\g0=g0)/\k0=k0)/\l0=l0)/\o0=o0)/\r0)/\u0=u0)/\True)/\c0;let w0:=d' g0 k0 l0 o0 q0 u0;let x0:=e0.from_;let y0:=x0==(-1);let z0:=cp W (Int.toNat i);let a1:Int:=i/16;let b1:=W.ae;let c1:=(b1:Int);let d1:=W.kinds (Int.toNat a1) !=5;let e1:=cond d1 true (w0 !=0);let g1:Int:=k0+l0;let J:=cond e1 true (decide (c1<g1));let k1:=false=z0/\True;let l1:=g0 !=1;let o1:=cond l1 (W.kinds (Int.toNat k0) !=g0) false;let q1:=cond (decide (x0<0)) true (decide (b0<=x0));let r1:=W.aj (Int.toNat x0);let u1:=r1.kind;let v1:=r1.base;let w1:=r1.len;let x1:=r1.mark;let y1:=r1.dx;let z1:=y1=y1;let a2:=r1.bS;let b2:=d' u1 v1 w1 x1 y1 a2 !=0;let c2:=u1==1;let d2:=cond (g0==1) true (decide (k0<v1));let e2:Int:=k0-v1;let g2:=cond d2 true (decide (x1<=e2));let U:=SV.ptr 0 0 none 0 0=SV.ptr 0 0 none 0 0;let k2:=W.aV;let l2:=W.bz;let o2:=W.aE;let q2:=W.aY;
    let r2:=(((((((((((True/\W.ar=W.ar/\(∀u2:Nat,u2<W.ar->True/\W.af u2=W.af u2))/\b1=b1/\(∀v2:Nat,v2<b1->True/\W.kinds v2=W.kinds v2))/\a0=a0/\(∀w2:Nat,w2<a0->aF (W.aj w2) (W.aj w2)))/\k2=k2/\(∀x2:Nat,x2<k2->aG (W.tasks x2) (W.tasks x2)))/\l2=l2/\(∀y2:Nat,let z2:=W.aD y2;y2<l2->True/\z2=z2/\(∀a3:Nat,a3<z2->True/\W.lines y2 a3=W.lines y2 a3)))/\W.aI=W.aI/\(∀b3:Nat,b3<W.aI->True/\W.bits b3=W.bits b3))/\o2=o2/\(∀c3:Nat,c3<o2->True/\W.aM c3=W.aM c3))/\q2=q2/\(∀d3:Nat,let e3:=W.aL d3;d3<q2->True/\e3=e3/\(∀g3:Nat,g3<e3->True/\W.ready d3 g3=W.ready d3 g3)))/\W.aK=W.aK/\(∀h3:Nat,let k3:=W.aQ h3;h3<W.aK->True/\k3=k3/\(∀l3:Nat,l3<k3->aH (W.aB h3 l3) (W.aB h3 l3))))/\W.az=W.az/\(∀o3:Nat,o3<W.az->True/\W.aU o3=W.aU o3))/\W.time=W.time)/\True;let q3:=U/\0=((0:Nat):Int)/\x0=bX W x0 0/\r2/\0<=a0/\(∀r3:Nat,let u3:=bX W x0 r3;let v3:=cond (cond (decide ((r3:Int)<b0)) (decide (0<=u3)) false) (decide (u3<b0)) false;let w3:Int:=(r3:Int)+1;r3<=a0->b0<=9223372036854775807->(v3=true->(0<=u3/\u3<b0)/\ak w3=w3/\(∃x3:Nat,U/\w3=(x3:Int)/\(W.aj (Int.toNat u3)).from_=bX W x0 x3/\r2/\x3<=a0/\a0-x3<a0-r3))/\(v3=false->cond (decide (u3<0)) true (decide (b0<=u3))=z0/\True));let y3:=cond (cond (u1 !=g0) true (v1 !=k0)) true (cond (a2 !=0) (a2 !=u0) false);let z3:=cond y3 true (((iz 6 (Int.toNat y1) (Int.toNat q0):Nat):Int) !=q0);True/\(0<=i/\i<b0)/\True/\(True/\d0)/\True/\d0/\(h0=true->v0/\cond (w0==0) y0 false=z0/\True)/\(h0=false->(0<=i/\(0:Int)<16/\ak a1=a1)/\(0<=a1/\a1<c1)/\(d1=false->v0)/\(e1=false->ak g1=g1)/\(J=true->
    k1)/\(J=false->tn 8 ((l1=true->0<=k0/\k0<c1)/\tn 3 ((o1=true->k1)/\(o1=false->(y0=true->true=z0/\True)/\(y0=false->(q1=true->k1)/\(q1=false->(0<=x0/\x0<b0)/\True/\d0/\((((((((True/\u1=u1)/\v1=v1)/\w1=w1)/\x1=x1)/\z1)/\a2=a2)/\True)/\c0)/\(b2=true->k1)/\(b2=false->(c2=true->(d2=false->ak e2=e2)/\(g2=true->k1)/\(g2=false->q3))/\(c2=false->tn 29 ((y3=false->(z1/\r0/\(6:Int)=6/\True)/\True/\0<=y1/\y1<=65535/\0<=q0/\q0<=65535/\((6:Int)=6\/(6:Int)=7\/(6:Int)=8))/\tn 2 ((z3=true->k1)/\(z3=false->q3))))))))))))
theorem L4:aW Tryz.prog bf 33 MA:=bd (.cons Nd (.cons Mk .nil)) false Tryz.call33 Tryz.func33 (λ⟨W,i⟩=> [.inv (SN W (W.aj i.toNat).from_)]) (V:=ES) (λ_=>by kernel_rfl) λ⟨W,i⟩ hp=>by
  dsimp only[ER]at hp
  dsimp only[ES,tn,ak,bx,aG,aF,aH]
  obtain⟨hz,i0,i1⟩:=hp
  obtain⟨I,rfl⟩: ∃I:Nat,i=I:=⟨i.toNat,by omega⟩
  simp only[bn,bG,eq_self,implies_true,Bool.cond_self]
  have lC:((I:Int)/16).toNat=I/16:=by omega
  unfold cp
  rw[lC]
  simp only[EH]
  have lD:=hz.aj
  have lV:=hz.k1
  have p_:=hz.k0
  have toP: ∀{b:Bool},b=false-> ¬b=true:=λh=>by rw[h];exact Bool.false_ne_true
  obtain⟨S,hS⟩: ∃S,S=W.aj I:=⟨_,rfl⟩
  simp only[<-hS]
  refine⟨by omega,λh=>?_,λh=>⟨⟨by decide,by rw[IntKind.wrap_i64];omega⟩,⟨by omega,by omega⟩,λJ=>?_,λJ=>?_,λJ=>?_⟩⟩
  · unfold j_;rw[h];rfl
  · simp only[Bool.or_eq_false_iff,bne_eq_false_iff_eq]at J
    have:=kC J.2
    rw[IntKind.wrap_i64];omega
  · refine qa λht=>?_
    rw[qp h]at ht
    simp only[Bool.and_eq_true,Bool.or_eq_true,beq_iff_eq,decide_eq_true_eq,bne_iff_ne,ne_eq]at ht J
    omega
  have T:W.kinds (I/16)=5/\fE S=0/\S.base+S.len<=W.ae:=by
    simp only[Bool.or_eq_false_iff,bne_eq_false_iff_eq,decide_eq_false_iff_not]at J
    exact⟨J.1.1,J.1.2,by omega⟩
  obtain⟨T1,T2,T3⟩:=T
  have hr:=kC T2
  have K8:S.kind≠0:=by simpa using h
  have hlen:1<=S.len:=by
    have h0:d' S.kind S.base S.len S.mark S.dx S.bS=0:=T2
    unfold d' oK oL al at h0
    simp only[cond_eq_ite,bne,Bool.or_eq_true,Bool.and_eq_true,Bool.not_eq_true',decide_eq_true_eq,beq_iff_eq,beq_eq_false_iff_ne]at h0
    repeat' split at h0
    all_goals first|(cases h0;done)|omega
  refine⟨λ_=>by omega,λU=>?_,λU=>?_⟩
  · refine qa λht=>?_
    rw[qp h]at ht
    simp only[Bool.and_eq_true,Bool.or_eq_true,beq_iff_eq,decide_eq_true_eq,bne_iff_ne,ne_eq]at ht U
    omega
  have T4:(S.kind==1||W.kinds S.base.toNat==S.kind)=true:=by
    revert U
    simp only[bne]
    cases S.kind==1<;>cases W.kinds S.base.toNat==S.kind<;>simp
  have core:j_ W I S=(S.from_== -1||(cQ W S.from_&&fB S (W.aj S.from_.toNat)&&!cQ W (bX W S.from_ W.av))):=by
    rw[qp h,T4,show(W.kinds (I/16)==5)=true from beq_iff_eq.2 T1,show(fE S==0)=true from beq_iff_eq.2 T2,show decide (S.base+S.len<=W.ae)=true from decide_eq_true T3]
    simp
  rw[core]
  refine⟨λh3=>by rw[h3];rfl,λh3=>?_⟩
  rw[h3,xQ]
  refine⟨λh4=>by rw[show cQ W S.from_=false by revert h4;cases cQ W S.from_<;>simp];rfl,λh4=>?_⟩
  have bo:cQ W S.from_=true:=by revert h4;cases cQ W S.from_<;>simp
  rw[bo]
  have fL:=kI.1 bo
  obtain⟨p,hp⟩: ∃p,p=W.aj S.from_.toNat:=⟨_,rfl⟩
  simp only[<-hp]
  refine⟨fL,λh5=>?_,λh5=>?_⟩
  · rw[show fB S p=false by unfold fB;rw[show(fE p==0)=false by simpa using h5];rfl];rfl
  have y':fE p=0:=by simpa using h5
  have yI:=kC y'
  refine⟨λh6=>?_,λh6=>?_⟩
  · have hm:fB S p=(S.kind !=1&&decide (p.base<=S.base)&&decide (S.base -p.base<p.mark)):=by unfold fB;rw[h6,show(fE p==0)=true from beq_iff_eq.2 y'];rfl
    refine⟨λ_=>by rw[IntKind.wrap_i64];omega,λh7=>?_,λh7=>?_⟩
    · refine qa λht=>?_
      rw[hm]at ht
      simp only[Bool.and_eq_true,Bool.or_eq_true,beq_iff_eq,decide_eq_true_eq,bne_iff_ne,ne_eq,Bool.false_eq_true,false_or]at ht h7
      omega
    · refine H7 (by omega) ?_
      have:fB S p=true:=by
        rw[hm]
        simp only[Bool.and_eq_true,Bool.or_eq_false_iff,beq_eq_false_iff_ne,decide_eq_true_eq,decide_eq_false_iff_not,bne_iff_ne,ne_eq]at h7⊢
        omega
      rw[this];rfl
  · have hm:fB S p=(S.kind==p.kind&&S.base==p.base&&(p.bS==0||p.bS==S.bS)&&(((iz 6 p.dx.toNat S.dx.toNat:Nat):Int)==S.dx)):=by unfold fB;rw[h6,show(fE p==0)=true from beq_iff_eq.2 y'];rfl
    refine⟨λ_=>⟨by omega,by omega,by omega,by omega,.inl trivial⟩,λh7=>?_,λh7=>?_⟩
    · refine qa λht=>?_
      rw[hm]at ht
      simp only[Bool.and_eq_true,Bool.or_eq_true,beq_iff_eq,decide_eq_true_eq,bne_iff_ne,ne_eq,Bool.false_eq_true,false_or]at ht h7
      omega
    · refine H7 (by omega) ?_
      have:fB S p=true:=by
        rw[hm]
        simp only[Bool.and_eq_true,Bool.or_eq_true,Bool.or_eq_false_iff,Bool.and_eq_false_iff,beq_iff_eq,bne_eq_false_iff_eq,decide_eq_true_eq,decide_eq_false_iff_not,bne_iff_ne,ne_eq]at h7⊢
        omega
      rw[this];rfl
end Go.Proofs.YtbngaammbjaajaaGreatDoor
set_option linter.unusedVariables false
set_option linter.unusedSimpArgs false
set_option maxRecDepth 100000
namespace Go.Proofs.YtbngaammbjaajaaGreatDoor
open Go.RowKit Go.Sy
def wL (W:Wd):List SV:= [.sl true 1 W.ar (iF W.af),.sl true 1 W.ae (iF W.kinds),.sl true 7 W.av (rF λi=>lW (W.aj i)),.sl true 20 W.aV (rF λi=>jf (W.tasks i)),.sl true 1 W.bz (λi _=> .sl true 1 (W.aD i) (iF (W.lines i))),.sl true 1 W.aI (iF W.bits),.sl true 1 W.aE (iF W.aM),.sl true 1 W.aY (λi _=> .sl true 1 (W.aL i) (iF (W.ready i))),.sl true 1 W.aK (λi _=> .sl true 4 (W.aQ i) (rF λk=>lu (W.aB i k))),.sl true 1 W.az (iF W.aU),.v (.int .i64 W.time)]
def Rg (W:Wd) (f:Nat):bH where
  σ:=Nat
  rt:= [(2,0),(5,0)]
  sh i:= [(2,bk 0),(5,bk 1),(6,.v (.int .i64 i))]
  mh _:= []
  inv i:=i<=8/\ ∀j,j<i->al (dK [(W.tasks f).r0,(W.tasks f).r1,(W.tasks f).r2,(W.tasks f).r3,(W.tasks f).r4,(W.tasks f).r5,(W.tasks f).r6,(W.tasks f).r7] j) 65535=false
  μ i:=8 -i
  init:=0
def Rh (W:Wd) (f:Nat):bH where
  σ:=Nat
  rt:= [(2,0),(5,0)]
  sh i:= [(2,bk 0),(5,bk 1),(8,.v (.int .i64 i)),(7,.v (.int .i64 (bj i λk=>(W.tasks k).bK==f:Nat)))]
  mh _:= []
  inv i:=i<=W.aV
  μ i:=W.aV -i
  init:=0
theorem xh (a:Nat):(((a:Nat):Int)==0)=(a==0):=by rw[Bool.eq_iff_iff];simp
theorem td (a:Nat):(((a:Nat):Int)==1)=(a==1):=by rw[Bool.eq_iff_iff];simp;omega
theorem AZ {W:Wd} {f:Nat} (h:(W.kinds f !=6)=false):cr W f=(!jC (W.tasks f)&&!kM W (W.tasks f)&&jb W (W.tasks f)&&lK W (W.tasks f)&&j3 W f&&jg W f):=by unfold cr;rw[h];rfl
theorem Jj {t:dN} (h: ∀j,j<8->al (dK [t.r0,t.r1,t.r2,t.r3,t.r4,t.r5,t.r6,t.r7] j) 65535=false):jC t=false:=by
  unfold jC
  have h0:al t.r0 65535=false:=h 0 (by omega)
  have J:al t.r1 65535=false:=h 1 (by omega)
  have U:al t.r2 65535=false:=h 2 (by omega)
  have h3:al t.r3 65535=false:=h 3 (by omega)
  have h4:al t.r4 65535=false:=h 4 (by omega)
  have h5:al t.r5 65535=false:=h 5 (by omega)
  have h6:al t.r6 65535=false:=h 6 (by omega)
  have h7:al t.r7 65535=false:=h 7 (by omega)
  rw[h0,J,U,h3,h4,h5,h6,h7];rfl
theorem Jk {t:dN} (h:jC t=false): ∀j,j<8->al (dK [t.r0,t.r1,t.r2,t.r3,t.r4,t.r5,t.r6,t.r7] j) 65535=false:=by
  unfold jC at h
  simp only[Bool.or_eq_false_iff]at h
  obtain⟨⟨⟨⟨⟨⟨⟨h0,J⟩,U⟩,h3⟩,h4⟩,h5⟩,h6⟩,h7⟩:=h
  intro j hj
  have:j=0\/j=1\/j=2\/j=3\/j=4\/j=5\/j=6\/j=7:=by omega
  rcases this with rfl|rfl|rfl|rfl|rfl|rfl|rfl|rfl
  · exact h0
  · exact J
  · exact U
  · exact h3
  · exact h4
  · exact h5
  · exact h6
  · exact h7
theorem Jl {W:Wd} {f k:Int} (hk:k≠ -1) (h:okF W f k=true) (hf:(f != -1)=true):0<=f/\f<W.ae:=by
  unfold okF at h
  have:(f== -1)=false:=by revert hf;simp only[bne];cases f== -1<;>simp
  rw[this]at h
  have h:bM W f=k:=by simpa using h
  exact jB (by rw[h];exact hk)
theorem P_ {W:Wd} {f c:Nat} (hc:yy W f=c):(decide (1<(c:Int))||((c:Int)==1&&(W.tasks f).st !=5)||((c:Int)==0&&(W.tasks f).st==5))=!j3 W f:=by
  unfold j3
  rw[hc,xh,td]
  have:c=0\/c=1\/2<=c:=by omega
  rcases this with rfl|rfl|h
  · cases hq:(W.tasks f).st==5<;>simp[bne,hq]
  · cases hq:(W.tasks f).st==5<;>simp[bne,hq]
  · rw[decide_eq_true (show(1:Int)<c by omega),decide_eq_false (show¬c<=1 by omega)];rfl
theorem KJ (n:Nat) (l:Nat->Int) (x:Int):dp 1 (λ_=>n) (λ_=>l) x=mU n l x:=by show 0+mU n l x=mU n l x;omega
structure Bo where
  b:Bool
def Ri (W:Wd) (f:Nat):Cut where
  σ:=Bo
  rt:= [(2,0),(5,0)]
  sh s:= [(2,bk 0),(5,bk 1),(9,.v (.int .i64 (jD W f:Nat))),(10,.v (.int .i64 (f_ W f:Nat))),(187,.v (.int .i64 (W.tasks f).st)),(188,.v (.bool s.b))]
  mem _:= [.cells (wL W),.cells (jf (W.tasks f))]
  inv s:=s.b=((W.tasks f).st==2||(W.tasks f).st==3||(W.tasks f).st==4)
  dec fr _:=⟨qL (fr 188)⟩
structure EM where
  (W:Wd) (f:Int)
def EN:Sy.Spec:=⟨EM,λ⟨W,f⟩=> [gq W,.v (.int .i64 f)],λ_=> [],λ⟨W,f⟩=>bL W/\js W/\0<=f/\f<W.ae,λ⟨W,f⟩=> .v (.bool (cr W f.toNat)),λ_=> [],
  λargs mem=>match args with| [a0,a1]=>some ⟨gf a0,ao (a1)⟩|_=>none⟩
def Mz:aX:=⟨[],(EN).g,none⟩
def EO:EM->Prop:=λ⟨W,f⟩=>let a0:=W.aV;let b0:=(a0:Int);let c0:=True/\True;let d0:=True/\c0;let e0:=W.ae;let g0:=Int.toNat f;let h0:=W.kinds g0 !=6;let k0:=W.tasks g0;let l0:=k0.r0;let o0:=k0.r1;let q0:=k0.r2;let u0:=k0.r3;let v0:=k0.r4;let w0:=k0.r5;let x0:=k0.r6;let y0:=k0.r7;let z0:=k0.pc;let a1:=k0.st;let b1:=k0.prio;let c1:=k0.node;let d1:=k0.space;let e1:=k0.helper;let g1:=k0.loc;let J:=g1==(-1);let k1:=k0.word;let l1:=k0.bS;let o1:=k0.bK;let q1:=k0.core;let u1:=k0.gr;let v1:=cr W g0;let w1:=SV.ptr 0 0 none 0 0=SV.ptr 0 0 none 0 0;let x1:=SV.ptr (0+1) 0 none 0 0=SV.ptr 1 0 none 0 0;let y1:=W.av;let z1:=W.bz;let a2:=z1=z1/\(∀b2:Nat,let c2:=W.aD b2;b2<z1->True/\c2=c2/\(∀d2:Nat,d2<c2->True/\W.lines b2 d2=W.lines b2 d2));let e2:=W.aE;let g2:=e2=e2/\(∀U:Nat,U<e2->True/\W.aM U=W.aM U);let k2:=W.aY;let l2:=k2=k2/\(∀o2:Nat,let q2:=W.aL o2;o2<k2->True/\q2=q2/\(∀u2:Nat,u2<q2->True/\W.ready o2 u2=W.ready o2 u2));let v2:=((((((((((True/\W.ar=W.ar/\(∀w2:Nat,w2<W.ar->True/\W.af w2=W.af w2))/\e0=e0/\(∀x2:Nat,x2<e0->True/\W.kinds x2=W.kinds x2))/\y1=y1/\(∀y2:Nat,y2<y1->aF (W.aj y2) (W.aj y2)))/\a0=a0/\(∀z2:Nat,z2<a0->aG (W.tasks z2) (W.tasks z2)))/\a2)/\W.aI=W.aI/\(∀a3:Nat,a3<W.aI->True/\W.bits a3=W.bits a3))/\g2)/\l2)/\W.aK=W.aK/\(∀b3:Nat,let c3:=W.aQ b3;b3<W.aK->True/\c3=c3/\(∀d3:Nat,d3<c3->aH (W.aB b3 d3) (W.aB b3 d3))))/\W.az=W.az/\(∀e3:Nat,e3<W.az->True/\W.aU e3=W.aU e3))/\W.time=W.time;let g3:=v2/\aG k0 k0/\True;let h3:=[l0,o0,q0,u0,v0,w0,x0,y0];
    let k3:=(65535:Int)=65535/\True;let l3:=false=v1/\True;let o3:=al z0 65535;let q3:=cond o3 true (al k1 65535);let u3:=cond q3 true (al l1 65535);let v3:=a1=a1;let w3:=cond u3 true (al a1 6);let x3:=(3:Int)=3/\True;let y3:=cond w3 true (al b1 3);let z3:=y3=false;let a4:Int:=(e2:Int)-1;let b4:=cond y3 true (al q1 a4);let c4:=cond b4 true (al u1 3);let d4:=c1 !=(-1);let e4:=d1 !=(-1);let g4:=cond d4 (bM W c1 !=5) false;let h4:=e1 !=(-1);let k4:=cond g4 true (cond e4 (bM W d1 !=4) false);let l4:=o1 !=(-1);let o4:=l4=true;let q4:=cond k4 true (cond h4 (bM W e1 !=7) false);let u4:=cond q4 true (cond l4 (bM W o1 !=6) false);let v4:=a1==4;let w4:=cond l4 (cond ((W.tasks (Int.toNat o1)).st !=5) true v4) false;let x4:=(g0:Int);let y4:=a1 !=5;let z4:=a1==5;let a5:=f=f/\True;let b5:Int:=((dp k2 W.aL W.ready f:Nat):Int)+((dp 1 (λc5:Nat=>e2) (λd5:Nat=>W.aM) f:Nat):Int);let e5:=a1==2;let g5:=((jD W g0:Nat):Int);let h5:=((dp z1 W.aD W.lines f:Nat):Int)=g5;let k5:=((f_ W g0:Nat):Int);let l5:=b5=k5;let o5:=a1==3;let q5:=e5||o5||v4;let u5:=k5==0;let v5:=cond (g5==1) u5 false;let w5:=v5=true;let x5:=(v2/\g1=g1/\True)/\c0;let y5:=bM W g1;let z5:=cond v5 (y5==7) false;let a6:=z5=true;let b6:=0<=g1/\g1<(z1:Int);let c6:=Int.toNat g1;let d6:=W.aD c6;let e6:=(f=f/\(d6=d6/\(∀g6:Nat,g6<d6->True/\W.lines c6 g6=W.lines c6 g6))/\True)/\c0;let h6:=jO d6 (W.lines c6) f;let k6:=a1==6;let l6:=cond v5 (y5==8) false;let o6:=l6=true;let q6:=a1==1;let u6:=g5==0;True/\
    (0<=f/\f<b0)/\True/\tn 17 d0/\(0<=f/\f<(e0:Int))/\(h0=true->True/\d0/\(l0==0&&(o0==0&&(q0==0&&(u0==0&&(v0==0&&(w0==0&&(x0==0&&(y0==0&&true)))))))&&(z0==0&&(a1==0&&(b1==0&&(c1==(-1)&&(d1==(-1)&&(e1==(-1)&&(J&&(k1==0&&(l1==0&&(o1==(-1)&&(q1==0&&(u1==0&&true)))))))))))))=v1/\True)/\(h0=false->w1/\x1/\0=((0:Nat):Int)/\g3/\(0<=8/\(∀v6:Nat,v6<0->al (List.getD h3 v6 0) 65535=false))/\(∀w6:Nat,let x6:=(w6:Int);let y6:=decide (x6<8);let z6:=List.getD h3 (Int.toNat x6) 0;let a7:=al z6 65535;let b7:Int:=x6+1;w6<=8/\(∀c7:Nat,c7<w6->al (List.getD h3 c7 0) 65535=false)->(y6=true->(0<=x6/\x6<((8:Nat):Int))/\((z6=z6/\k3)/\c0)/\(a7=true->l3)/\(a7=false->ak b7=b7/\(∃d7:Nat,w1/\x1/\b7=(d7:Int)/\g3/\(d7<=8/\(∀e7:Nat,e7<d7->al (List.getD h3 e7 0) 65535=false))/\8-d7<8-w6)))/\(y6=false->((z0=z0/\k3)/\c0)/\(o3=false->(k1=k1/\k3)/\c0)/\(q3=false->(l1=l1/\k3)/\c0)/\(u3=false->(v3/\(6:Int)=6/\True)/\c0)/\(w3=false->(b1=b1/\x3)/\c0)/\(z3->ak a4=a4)/\(z3->(q1=q1/\a4=a4/\True)/\c0)/\(b4=false->(u1=u1/\x3)/\c0)/\(c4=true->l3)/\(c4=false->(d4=true->(v2/\c1=c1/\True)/\c0)/\(e4=true->g4=false->(v2/\d1=d1/\True)/\c0)/\(h4=true->k4=false->(v2/\e1=e1/\True)/\c0)/\(o4->q4=false->(v2/\o1=o1/\True)/\c0)/\(u4=true->l3)/\(u4=false->(o4->0<=o1/\o1<b0)/\(w4=true->l3)/\(w4=false->w1/\x1/\0=((0:Nat):Int)/\0=((bj 0 (λg7:Nat=>(W.tasks g7).bK==x4):Nat):Int)/\g3/\0<=a0/\(∀h7:Nat,let k7:=(h7:Int);let l7:=decide (k7<b0);let o7:=(W.tasks (Int.toNat k7)).bK==f;let q7:=((bj h7 (λu7:Nat=>(W.tasks u7).bK==x4):Nat):Int);let v7:Int:=q7+1;let w7:Int:=k7+1;let x7:=ak w7=w7;
    let y7:=cond (cond (decide (1<q7)) true (cond (q7==1) y4 false)) true (cond (q7==0) z4 false);h7<=a0->b0<=9223372036854775807->(l7=true->(0<=k7/\k7<b0)/\(o7=true->ak v7=v7/\x7/\(∃z7:Nat,w1/\x1/\w7=(z7:Int)/\v7=((bj z7 (λa8:Nat=>(W.tasks a8).bK==x4):Nat):Int)/\g3/\z7<=a0/\a0-z7<a0-h7))/\(o7=false->x7/\(∃b8:Nat,w1/\x1/\w7=(b8:Int)/\q7=((bj b8 (λc8:Nat=>(W.tasks c8).bK==x4):Nat):Int)/\g3/\b8<=a0/\a0-b8<a0-h7)))/\(l7=false->(y7=true->l3)/\(y7=false->((a2/\a5)/\True/\z1<=1000/\(∀d8:Nat,d8<z1->W.aD d8<=1000))/\tn 3 (((l2/\a5)/\True/\k2<=1000/\(∀e8:Nat,e8<k2->W.aL e8<=1000))/\tn 4 ((((1=1/\(∀g8:Nat,g8<1->True/\g2))/\a5)/\True/\1<=1000/\(∀h8:Nat,h8<1->e2<=1000))/\ak b5=b5/\((e5=true->w1/\x1/\h5/\l5/\v3/\e5=e5/\g3/\e5=q5)/\(e5=false->(o5=true->w1/\x1/\h5/\l5/\v3/\o5=o5/\g3/\o5=q5)/\(o5=false->w1/\x1/\h5/\l5/\v3/\v4=v4/\g3/\v4=q5)))/\(∀k8:Bo,k8.b=q5->(k8.b=true->(w5->x5)/\(a6->b6)/\(a6->e6)/\cond z5 h6 false=v1/\True)/\(k8.b=false->(k6=true->(w5->x5)/\(o6->b6)/\(o6->e6)/\cond l6 h6 false=v1/\True)/\(k6=false->(q6=true->cond (cond u6 (k5==1) false) J false=v1/\True)/\(q6=false->cond (cond u6 u5 false) J false=v1/\True)))))))))))))))
set_option maxHeartbeats 1000000 in
theorem L5:aW Tryz.prog bf 35 Mz:=bd (.cons qK (.cons N5 (.cons sw (.cons L8 (.cons Rj .nil))))) false Tryz.call35 Tryz.func35 (λ⟨W,f⟩=> [.inv (Rg W f.toNat),.inv (Rh W f.toNat),.cut 29 (Ri W f.toNat)]) (V:=EO) (λ_=>by kernel_rfl) λ⟨W,f⟩ hp=>by
  dsimp only[EN]at hp
  dsimp only[EO,tn,ak,bx,aG,aF,aH]
  obtain⟨hz,hm,f0,f1⟩:=hp
  obtain⟨F,rfl⟩: ∃F:Nat,f=F:=⟨f.toNat,by omega⟩
  simp only[bn,bG,eq_self,implies_true,Bool.cond_self]
  have lD:=hz.tasks
  have lV:=hz.k1
  have p_:=hz.lines
  have DT:=hz.c1
  have U4:=hz.c0
  have U5:=hz.ready
  refine⟨by omega,by omega,λh=>?_,λh=>?_⟩
  · unfold cr;rw[h];rfl
  have core:=AZ h
  intro s hs
  refine⟨λJ=>?_,λJ=>?_⟩
  · have ai:s<8:=by have:=of_decide_eq_true J;omega
    refine⟨by omega,λU=>qa λht=>?_,λU=>⟨by rw[IntKind.wrap_i64];omega,bP ⟨⟨by omega,dn (p:=λj=>al (dK [(W.tasks F).r0,(W.tasks F).r1,(W.tasks F).r2,(W.tasks F).r3,(W.tasks F).r4,(W.tasks F).r5,(W.tasks F).r6,(W.tasks F).r7] j) 65535) hs.2 U⟩,by omega⟩⟩⟩
    rw[core]at ht
    have hq:jC (W.tasks F)=false:=by revert ht;cases jC (W.tasks F)<;>simp
    have:=Jk hq s ai
    exact Bool.false_ne_true (this.symm.trans U)
  have U6:s=8:=by have:=of_decide_eq_false J;omega
  have fi:jC (W.tasks F)=false:=Jj λj hj=>hs.2 j (by omega)
  rw[fi]at core
  have e1:(al (W.tasks F).pc 65535||al (W.tasks F).word 65535||al (W.tasks F).bS 65535||al (W.tasks F).st 6||al (W.tasks F).prio 3||al (W.tasks F).core (W.aE -1)||al (W.tasks F).gr 3)=kM W (W.tasks F):=rfl
  have e2:((W.tasks F).node != -1&&bM W (W.tasks F).node !=5||(W.tasks F).space != -1&&bM W (W.tasks F).space !=4||(W.tasks F).helper != -1&&bM W (W.tasks F).helper !=7||(W.tasks F).bK != -1&&bM W (W.tasks F).bK !=6)=!jb W (W.tasks F):=by
    unfold jb okF;simp only[bne,Bool.not_and,Bool.not_or]
  have e3:((W.tasks F).bK != -1&&((W.tasks (W.tasks F).bK.toNat).st !=5||(W.tasks F).st==4))=!lK W (W.tasks F):=by
    unfold lK;simp only[bne,Bool.not_and,Bool.not_or,Bool.not_not]
  rw[e1,e2,e3]
  refine⟨λ_=>by rw[IntKind.wrap_i64];omega,λU=>?_,λU=>?_⟩
  · rw[core,U];rfl
  rw[U]at core
  refine⟨λh3=>?_,λh3=>?_⟩
  · rw[core,show jb W (W.tasks F)=false by revert h3;cases jb W (W.tasks F)<;>simp];rfl
  have mV:jb W (W.tasks F)=true:=by revert h3;cases jb W (W.tasks F)<;>simp
  rw[mV]at core
  refine⟨λh4=>?_,λh4=>?_,λh4=>?_⟩
  · have:okF W (W.tasks F).bK 6=true:=by unfold jb at mV;simp only[Bool.and_eq_true]at mV;exact mV.2
    have:=Jl (by decide) this h4
    omega
  · rw[core,show lK W (W.tasks F)=false by revert h4;cases lK W (W.tasks F)<;>simp];rfl
  rw[show lK W (W.tasks F)=true by revert h4;cases lK W (W.tasks F)<;>simp]at core
  refine⟨rfl,λs hs _=>⟨λh5=>?_,λh5=>?_⟩⟩
  · have ai:=br h5
    have hb:=iI (λk=>(W.tasks k).bK==F) s
    refine⟨by omega,λh6=>?_,λh6=>?_⟩
    · exact⟨by rw[IntKind.wrap_i64];omega,by rw[IntKind.wrap_i64];omega,bP ⟨by simp[bj,h6],by omega,by omega⟩⟩
    · exact⟨by rw[IntKind.wrap_i64];omega,bP ⟨by simp[bj,h6],by omega,by omega⟩⟩
  have bI:=bJ h5
  obtain rfl:s=W.aV:=by omega
  rw[show(decide (1<((bj W.aV λk=>(W.tasks k).bK==F:Nat):Int))||(((bj W.aV λk=>(W.tasks k).bK==F:Nat):Int)==1&&(W.tasks F).st !=5)||(((bj W.aV λk=>(W.tasks k).bK==F:Nat):Int)==0&&(W.tasks F).st==5))=!j3 W F from P_ (W:=W) (f:=F) rfl]
  refine⟨λh6=>?_,λh6=>?_⟩
  · rw[core,show j3 W F=false by revert h6;cases j3 W F<;>simp];rfl
  rw[show j3 W F=true by revert h6;cases j3 W F<;>simp]at core
  have core:cr W F=jg W F:=by rw[core];rfl
  rw[KJ]
  have b1:dp W.aY W.aL W.ready F<=W.aY*50:=sW λi hi=>Nat.le_trans (iI _ _) (hm.2.1 i hi)
  have b2:mU W.aE W.aM F<=W.aE:=iI _ _
  have et:((dp W.aY W.aL W.ready F:Nat):Int)+((mU W.aE W.aM F:Nat):Int)=(f_ W F:Nat):=by unfold f_;omega
  rw[et]
  refine⟨⟨by omega,λi hi=>Nat.le_trans (hm.1 i hi) (by omega)⟩,⟨by omega,λi hi=>Nat.le_trans (hm.2.1 i hi) (by omega)⟩,⟨by omega,λ_ _=>by omega⟩,by rw[IntKind.wrap_i64];unfold f_;omega,?_,?_⟩
  · refine⟨λh=>⟨rfl,rfl,by rw[h];rfl⟩,λh=>⟨λh7=>⟨rfl,rfl,by rw[h,h7];rfl⟩,λh7=>⟨rfl,rfl,by rw[h,h7];rfl⟩⟩⟩
  rintro ⟨b⟩ hb
  have hb:b=((W.tasks F).st==2||(W.tasks F).st==3||(W.tasks F).st==4):=hb
  simp only[xh,td]
  have hl: ∀k:Int,k≠ -1->((jD W F==1)&&(f_ W F==0)&&bM W (W.tasks F).loc==k)=true->0<=(W.tasks F).loc/\(W.tasks F).loc<W.bz:=λk hk h=>by
    simp only[Bool.and_eq_true,beq_iff_eq]at h
    rw[p_]
    exact jB (by rw[h.2];exact hk)
  refine⟨λh7=>⟨hl 7 (by decide),?_⟩,λh7=>⟨λh8=>⟨hl 8 (by decide),?_⟩,λh8=>⟨λh9=>?_,λh9=>?_⟩⟩⟩
  · have h7:b=true:=h7
    rw[core];simp only[jg];rw[<-hb,h7];rfl
  · have h7:b=false:=h7
    rw[core];simp only[jg];rw[<-hb,h7,h8];rfl
  · have h7:b=false:=h7
    rw[core];simp only[jg];rw[<-hb,h7,h8,h9];rfl
  · have h7:b=false:=h7
    rw[core];simp only[jg];rw[<-hb,h7,h8,h9];rfl
end Go.Proofs.YtbngaammbjaajaaGreatDoor
