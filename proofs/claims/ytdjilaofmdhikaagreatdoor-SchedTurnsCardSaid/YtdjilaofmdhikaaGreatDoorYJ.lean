/- Tables of pages: walking through them. -/
import Derived.Test.YtdjilaofmdhikaaGreatDoorYI
set_option linter.unusedVariables false
set_option linter.unusedSimpArgs false
set_option linter.unusedVariables false
set_option linter.unusedSimpArgs false
set_option maxRecDepth 100000
namespace Go.Proofs.YtdjilaofmdhikaaGreatDoor
open Go.RowKit Go.Sy
def isW (x:Int):Prop:=0≤x∧x≤65535
def frOf (n:Nat):Int:=bif decide (0<n%16)||decide (384<n) then -1 else (n/16:Nat)
def entOf (x n:Int):Int:=bif x/32768%2==0||decide (n≤x%1024) then -1 else x%1024
def wkBad (n:Nat) (sp at_:Int):Bool:=decide (frOf n<0)||decide (sp<0)||decide (frOf n≤sp)||farB at_ 4095
def wkT (n:Nat) (ram:Nat→Int) (sp at_:Int):Int:=entOf (ram (sp*16+at_/256).toNat) (frOf n)
def wkX (n:Nat) (ram:Nat→Int) (sp at_:Int):Int:=ram (wkT n ram sp at_*16+at_/16%16).toNat
def wkP (n:Nat) (ram:Nat→Int) (sp at_:Int):Int:=entOf (wkX n ram sp at_) (frOf n)
def wkE (n:Nat) (ram:Nat→Int) (sp at_:Int):Int:=bif wkBad n sp at_ then 2 else bif decide (wkT n ram sp at_<0)||decide (wkP n ram sp at_<0) then 9 else 0
def wkF (n:Nat) (ram:Nat→Int) (sp at_:Int):Int:=bif wkE n ram sp at_==0 then wkP n ram sp at_ else 0
def wkW (n:Nat) (ram:Nat→Int) (sp at_:Int):Bool:=bif wkE n ram sp at_==0 then wkX n ram sp at_/16384%2==1 else false
theorem frOf_cases (n:Nat):(frOf n= -1∧(0<n%16∨384<n))∨(frOf n*16=n∧0≤frOf n∧frOf n≤24):=by
  unfold frOf
  by_cases h1:0<n%16
  · left;simp [h1]
  · by_cases h2:384<n
    · left;simp [h2]
    · right;simp only [h1,h2,decide_false,Bool.or_false,cond_false];omega
theorem entOf_cases {x:Int} (hx:0≤x) (m:Int):(entOf x m= -1∧(x/32768%2=0∨m≤x%1024))∨(x/32768%2=1∧entOf x m=x%1024∧0≤entOf x m∧entOf x m<m):=by
  by_cases h1:x/32768%2=0
  · left;unfold entOf;simp [h1]
  · by_cases h2:m≤x%1024
    · left;unfold entOf;simp [h2]
    · right
      have e:entOf x m=x%1024:=by
        unfold entOf
        rw [show (x/32768%2==0)=false from beq_eq_false_iff_ne.2 h1,show decide (m≤x%1024)=false from decide_eq_false h2];rfl
      rw [e];omega
theorem bitN (k X:Nat):X&&&2^k=X/2^k%2*2^k:=by
  have hk:X.testBit k=decide (X/2^k%2=1):=Nat.testBit_eq_decide_div_mod_eq
  apply Nat.eq_of_testBit_eq
  intro i
  rw [Nat.testBit_and,Nat.testBit_two_pow]
  rcases Nat.mod_two_eq_zero_or_one (X/2^k) with h|h
  · rw [h]
    by_cases e:k=i
    · subst e;simp [hk,h]
    · simp [e]
  · rw [h,Nat.one_mul,Nat.testBit_two_pow]
    by_cases e:k=i
    · subst e;simp [hk,h]
    · simp [e]
theorem bit64 (k:Nat) (hk:k≤62) {x m:Int} (hm:m=(2^k:Nat)) (hx:0≤x) (hx1:x≤65535):bitsI .and .i64 x m=x/m%2*m:=by
  subst hm
  have hp:(2:Nat)^k<9223372036854775808:=Nat.lt_of_le_of_lt (Nat.pow_le_pow_right (by omega) hk) (by decide)
  obtain ⟨X,rfl⟩: ∃X:Nat,x=X:=⟨x.toNat,by omega⟩
  rw [and64 (by omega) (by omega) (Int.natCast_nonneg _) (show ((2^k:Nat):Int)<9223372036854775808 from Int.ofNat_lt.2 hp),Int.toNat_natCast,Int.toNat_natCast,bitN]
  simp
theorem entOf_cond {x:Int} (hx:0≤x) (hx1:x≤65535) (m:Int):(bif bitsI .and .i64 x 32768==0 then true else decide (m≤bitsI .and .i64 x 1023))=decide (entOf x m<0)∧(entOf x m<0∨bitsI .and .i64 x 1023=entOf x m):=by
  rw [bit64 15 (by omega) (by decide) hx hx1,mask64 10 (by omega) (by decide)]
  have e10:((2:Int)^10)=1024:=by decide
  rw [e10]
  rcases entOf_cases hx m with ⟨h1,h2⟩|⟨h1,h2,h3,h4⟩
  · rw [h1]
    refine ⟨?_,.inl (by decide)⟩
    rcases h2 with h2|h2
    · rw [h2];rfl
    · rw [show decide (m≤x%1024)=true from decide_eq_true h2];cases (x/32768%2*32768==0)<;>rfl
  · rw [h1,show decide (m≤x%1024)=false from decide_eq_false (by omega),show decide (entOf x m<0)=false from decide_eq_false (by omega)]
    exact ⟨rfl,.inr h2.symm⟩
structure X_framesOf where
  (n:Nat) (ram:Nat→Int)
def s_framesOf:Sy.Spec:=⟨X_framesOf,fun ⟨n,ram⟩=> [.sl true 1 n (fun i_ _=> .v (.int .i64 (ram i_)))],fun _=> [],fun _=>True,fun ⟨n,_⟩=> .v (.int .i64 (frOf n)),fun _=> [],
  fun args mem=>match args with| [a0]=>some ⟨slN a0,fun i=>intD (slF a0 i 0)⟩|_=>none⟩
def c_framesOf:Con:=⟨[],s_framesOf.g,none⟩
def V_framesOf:X_framesOf→Prop:=fun ⟨n,_⟩=>let a0:=(n:Int);let b0:=cond (decide (0<a0%16)) true (decide (384<a0));let c0:Int:=a0/16;a0≤9223372036854775807→(0≤a0∧(0:Int)<16)∧(b0=true→(-1)=frOf n∧True)∧(b0=false→a0≤9223372036854775807→(0≤a0∧(0:Int)<16∧w64 c0=c0)∧c0=frOf n∧True)
set_option maxHeartbeats 1000000 in
theorem ok_framesOf:FnOK Tryz.prog glN 229 c_framesOf:=ok_of .nil false Tryz.call229 Tryz.func229 (fun _=> []) (V:=V_framesOf) (fun _=>by kernel_rfl) fun ⟨n,ram⟩ hp=>by
  dsimp only [V_framesOf,tn,w64]
  simp only [std,stb,eq_self,implies_true,Bool.cond_self,Bool.or_eq_true,Bool.or_eq_false_iff,Bool.and_eq_true,Bool.and_eq_false_iff,decide_eq_true_eq,decide_eq_false_iff_not,beq_iff_eq,beq_eq_false_iff_ne,bne_iff_ne,bne_eq_false_iff_eq,Bool.not_eq_true',Bool.not_eq_false',ne_eq,Int.not_lt,Int.not_le]
  intro _
  rcases frOf_cases n with ⟨h1,h2⟩|⟨h1,h2,h3⟩
  · exact ⟨by omega,fun _=>h1.symm,fun h=>absurd h2 (by omega)⟩
  · exact ⟨by omega,fun h=>by omega,fun h _=>⟨⟨by omega,by rw [IntKind.wrap_i64];omega⟩,by omega⟩⟩
structure X_entry where
  (x n:Int)
def s_entry:Sy.Spec:=⟨X_entry,fun ⟨x,n⟩=> [.v (.int .i64 x),.v (.int .i64 n)],fun _=> [],fun ⟨x,_⟩=>0≤x∧x≤65535,fun ⟨x,n⟩=> .v (.int .i64 (entOf x n)),fun _=> [],
  fun args mem=>match args with| [a0,a1]=>some ⟨intD (a0),intD (a1)⟩|_=>none⟩
def c_entry:Con:=⟨[],s_entry.g,none⟩
def V_entry:X_entry→Prop:=fun ⟨x,n⟩=>let a0:Int:=x/32768;let b0:=a0%2==0;let c0:=0≤x∧(0:Int)<1024;let d0:=cond b0 true (decide (n≤x%1024));(0≤x∧(0:Int)<32768∧w64 a0=a0)∧(0≤a0∧(0:Int)<2)∧(b0=false→c0)∧(d0=true→(-1)=entOf x n∧True)∧(d0=false→c0∧x%1024=entOf x n∧True)
set_option maxHeartbeats 1000000 in
theorem ok_entry:FnOK Tryz.prog glN 230 c_entry:=ok_of .nil false Tryz.call230 Tryz.func230 (fun _=> []) (V:=V_entry) (fun _=>by kernel_rfl) fun ⟨x,n⟩ hp=>by
  dsimp only [s_entry] at hp
  dsimp only [V_entry,tn,w64]
  simp only [std,stb,eq_self,implies_true,Bool.cond_self,Bool.or_eq_true,Bool.or_eq_false_iff,Bool.and_eq_true,Bool.and_eq_false_iff,decide_eq_true_eq,decide_eq_false_iff_not,beq_iff_eq,beq_eq_false_iff_ne,bne_iff_ne,bne_eq_false_iff_eq,Bool.not_eq_true',Bool.not_eq_false',ne_eq,Int.not_lt,Int.not_le]
  obtain ⟨hp,hp1⟩:=hp
  rcases entOf_cases hp n with ⟨h1,h2⟩|⟨h1,h2,h3,h4⟩
  · exact ⟨⟨by omega,by omega,by rw [IntKind.wrap_i64];omega⟩,by omega,fun _=>by omega,fun _=>h1.symm,fun h=>by omega⟩
  · exact ⟨⟨by omega,by omega,by rw [IntKind.wrap_i64];omega⟩,by omega,fun _=>by omega,fun h=>by omega,fun h=>⟨by omega,h2.symm⟩⟩
structure X_walked where
  (n:Nat) (ram:Nat→Int) (sp at_:Int)
def s_walked:Sy.Spec:=⟨X_walked,fun ⟨n,ram,sp,at_⟩=> [.sl true 1 n (fun i_ _=> .v (.int .i64 (ram i_))),.v (.int .i64 sp),.v (.int .i64 at_)],fun _=> [],fun ⟨n,ram,_,_⟩=> ∀i,i<n→isW (ram i),fun ⟨n,ram,sp,at_⟩=> .tp 3 (lsv [.v (.int .i64 (wkF n ram sp at_)),.v (.bool (wkW n ram sp at_)),.v (.int .i64 (wkE n ram sp at_))]),fun _=> [],
  fun args mem=>match args with| [a0,a1,a2]=>some ⟨slN a0,fun i=>intD (slF a0 i 0),intD (a1),intD (a2)⟩|_=>none⟩
def c_walked:Con:=⟨[],s_walked.g,none⟩
def V_walked:X_walked→Prop:=fun ⟨n,ram,sp,at_⟩=>let a0:=frOf n;let b0:=cond (cond (decide (a0<0)) true (decide (sp<0))) true (decide (a0≤sp));let c0:=cond b0 true (farB at_ 4095);let d0:=wkF n ram sp at_;let e0:=wkW n ram sp at_;let g0:=(True∧0=d0)∧false=e0;let h0:=wkE n ram sp at_;let k0:Int:=sp*16+at_/256;let l0:Int:=ram (Int.toNat k0);let o0:=a0=a0∧True;let q0:=entOf l0 a0;let r0:=decide (q0<0);let u0:=(g0∧9=h0)∧True;let v0:Int:=q0*16;let w0:Int:=at_/16;let x0:Int:=v0+w0%16;let y0:Int:=ram (Int.toNat x0);let z0:=0≤y0;let a1:=entOf y0 a0;let b1:=decide (a1<0);let c1:Int:=y0/16384;(((n=n∧(∀d1:Nat,d1<n→True∧ram d1=ram d1))∧True)∧True∧True)∧(b0=false→(at_=at_∧(4095:Int)=4095∧True)∧True∧True)∧(c0=true→(g0∧2=h0)∧True)∧(c0=false→w64 (sp*16)=sp*16∧(0≤at_∧(0:Int)<256∧w64 (at_/256)=at_/256)∧w64 k0=k0∧(0≤k0∧k0<(n:Int))∧((l0=l0∧o0)∧True∧0≤l0∧l0≤65535)∧(r0=true→u0)∧(r0=false→w64 v0=v0∧(0≤at_∧(0:Int)<16∧w64 w0=w0)∧(0≤w0∧(0:Int)<16)∧w64 x0=x0∧(0≤x0∧x0<(n:Int))∧((y0=y0∧o0)∧True∧z0∧y0≤65535)∧(b1=true→u0)∧(b1=false→(z0∧(0:Int)<16384∧w64 c1=c1)∧(0≤c1∧(0:Int)<2)∧(((True∧a1=d0)∧(c1%2==1)=e0)∧0=h0)∧True)))
set_option maxHeartbeats 1000000 in
theorem ok_walked:FnOK Tryz.prog glN 215 c_walked:=ok_of (.cons ok_far (.cons ok_framesOf (.cons ok_entry .nil))) false Tryz.call215 Tryz.func215 (fun _=> []) (V:=V_walked) (fun _=>by kernel_rfl) fun ⟨n,ram,sp,at_⟩ hp=>by
  dsimp only [s_walked] at hp
  dsimp only [V_walked,tn,w64]
  have hx: ∀z:Int,0≤z→z<n→isW (ram z.toNat):=fun z h1 h2=>hp _ (by omega)
  unfold isW at hx
  have wr: ∀z:Int,-100000≤z→z≤100000→IntKind.i64.wrap z=z:=fun z h1 h2=>by rw [IntKind.wrap_i64];omega
  have hb: ∀b,wkBad n sp at_=b→(b=true∧wkE n ram sp at_=2∧wkF n ram sp at_=0∧wkW n ram sp at_=false)∨(b=false∧frOf n*16=n∧0≤sp∧sp<frOf n∧0≤at_∧at_≤4095∧frOf n≤24):=fun b h=>by
    cases b with
    |true=>left;simp [wkE,wkF,wkW,h]
    |false=>
     right
     simp [wkBad,farB] at h
     rcases frOf_cases n with ⟨f1,f2⟩|⟨f1,f2,f3⟩
     · omega
     · exact ⟨rfl,by omega⟩
  have hbb:(bif bif bif decide (frOf n<0) then true else decide (sp<0) then true else decide (frOf n≤sp) then true else farB at_ 4095)=wkBad n sp at_:=by
    unfold wkBad;cases decide (frOf n<0)<;>cases decide (sp<0)<;>cases decide (frOf n≤sp)<;>rfl
  simp only [std,eq_self,implies_true,Bool.cond_self]
  rw [hbb]
  refine ⟨fun h=>?_,fun h=>?_⟩
  · rcases hb _ h with ⟨_,h1,h2,h3⟩|⟨h0,_⟩
    · rw [h1,h2,h3];exact ⟨⟨rfl,rfl⟩,rfl⟩
    · cases h0
  rcases hb _ h with ⟨h0,_⟩|⟨_,f1,p1,p2,q1,q2,f3⟩
  · cases h0
  have x1:=hx (sp*16+at_/256) (by omega) (by omega)
  have hT:entOf (ram (sp*16+at_/256).toNat) (frOf n)=wkT n ram sp at_:=rfl
  rw [hT]
  refine ⟨wr _ (by omega) (by omega),⟨by omega,by omega,wr _ (by omega) (by omega)⟩,wr _ (by omega) (by omega),by omega,x1,?_⟩
  rcases entOf_cases x1.1 (frOf n) with ⟨t1,t2⟩|⟨t1,t2,t3,t4⟩
  · rw [hT] at t1
    refine ⟨fun _=>?_,fun h=>by simp [t1] at h⟩
    have e:wkE n ram sp at_=9:=by simp [wkE,h,t1]
    exact ⟨⟨by simp [wkF,e],by simp [wkW,e]⟩,e.symm⟩
  rw [hT] at t2 t3 t4
  refine ⟨fun h=>by simp at h;omega,fun _=>?_⟩
  have x2:=hx (wkT n ram sp at_*16+at_/16%16) (by omega) (by omega)
  have hX:ram (wkT n ram sp at_*16+at_/16%16).toNat=wkX n ram sp at_:=rfl
  rw [hX] at x2⊢
  refine ⟨wr _ (by omega) (by omega),⟨by omega,by omega,wr _ (by omega) (by omega)⟩,by omega,wr _ (by omega) (by omega),by omega,x2,?_⟩
  have hP:entOf (wkX n ram sp at_) (frOf n)=wkP n ram sp at_:=rfl
  rw [hP]
  rcases entOf_cases x2.1 (frOf n) with ⟨u1,u2⟩|⟨u1,u2,u3,u4⟩
  · rw [hP] at u1
    refine ⟨fun _=>?_,fun h=>by simp [u1] at h⟩
    have e:wkE n ram sp at_=9:=by simp [wkE,h,u1]
    exact ⟨⟨by simp [wkF,e],by simp [wkW,e]⟩,e.symm⟩
  rw [hP] at u2 u3 u4
  have d1:decide (wkT n ram sp at_<0)=false:=decide_eq_false (by omega)
  have d2:decide (wkP n ram sp at_<0)=false:=decide_eq_false (by omega)
  have e:wkE n ram sp at_=0:=by simp [wkE,h,d1,d2]
  refine ⟨fun h=>by simp at h;omega,fun _=>?_⟩
  have eF:wkF n ram sp at_=wkP n ram sp at_:=by simp [wkF,e]
  have eW:wkW n ram sp at_=(wkX n ram sp at_/16384%2==1):=by simp [wkW,e]
  rw [eF,eW,e]
  repeat' (first|exact trivial|rfl|omega|exact wr _ (by omega) (by omega)|refine And.intro ?_ ?_)
structure X_frames where
  (n:Nat) (ram:Nat→Int)
def s_frames:Sy.Spec:=⟨X_frames,fun ⟨n,ram⟩=> [.sl true 1 n (fun i_ _=> .v (.int .i64 (ram i_)))],fun _=> [],fun _=>True,fun ⟨n,_⟩=> .v (.int .i64 (frOf n)),fun _=> [],
  fun args mem=>match args with| [a0]=>some ⟨slN a0,fun i=>intD (slF a0 i 0)⟩|_=>none⟩
def c_frames:Con:=⟨[],s_frames.g,none⟩
def V_frames:X_frames→Prop:=fun ⟨n,_⟩=>let a0:=(n:Int);let b0:=cond (a0%16 !=0) true (decide (384<a0));let c0:Int:=a0/16;a0≤9223372036854775807→(0≤a0∧(0:Int)<16)∧(b0=true→(-1)=frOf n∧True)∧(b0=false→a0≤9223372036854775807→(0≤a0∧(0:Int)<16∧w64 c0=c0)∧c0=frOf n∧True)
set_option maxHeartbeats 1000000 in
theorem ok_frames:FnOK Tryz.prog glN 224 c_frames:=ok_of .nil false Tryz.call224 Tryz.func224 (fun _=> []) (V:=V_frames) (fun _=>by kernel_rfl) fun ⟨n,ram⟩ hp=>by
  dsimp only [V_frames,tn,w64]
  simp only [std,stb,eq_self,implies_true,Bool.cond_self,Bool.or_eq_true,Bool.or_eq_false_iff,Bool.and_eq_true,Bool.and_eq_false_iff,decide_eq_true_eq,decide_eq_false_iff_not,beq_iff_eq,beq_eq_false_iff_ne,bne_iff_ne,bne_eq_false_iff_eq,Bool.not_eq_true',Bool.not_eq_false',ne_eq,Int.not_lt,Int.not_le]
  intro _
  rcases frOf_cases n with ⟨h1,h2⟩|⟨h1,h2,h3⟩
  · exact ⟨by omega,fun _=>h1.symm,fun h=>absurd h2 (by omega)⟩
  · exact ⟨by omega,fun h=>by omega,fun h _=>⟨⟨by omega,by rw [IntKind.wrap_i64];omega⟩,by omega⟩⟩
structure X_walk where
  (n:Nat) (ram:Nat→Int) (sp at_:Int)
def s_walk:Sy.Spec:=⟨X_walk,fun ⟨n,ram,sp,at_⟩=> [.sl true 1 n (fun i_ _=> .v (.int .i64 (ram i_))),.v (.int .i64 sp),.v (.int .i64 at_)],fun _=> [],fun ⟨n,ram,_,_⟩=> ∀i,i<n→isW (ram i),fun ⟨n,ram,sp,at_⟩=> .tp 3 (lsv [.v (.int .i64 (wkF n ram sp at_)),.v (.bool (wkW n ram sp at_)),.er 35 116 (wkE n ram sp at_) (-1)]),fun _=> [],
  fun args mem=>match args with| [a0,a1,a2]=>some ⟨slN a0,fun i=>intD (slF a0 i 0),intD (a1),intD (a2)⟩|_=>none⟩
def c_walk:Con:=⟨[],s_walk.g,none⟩
def V_walk:X_walk→Prop:=fun ⟨n,ram,sp,at_⟩=>let a0:=frOf n;let b0:=cond (cond (cond (cond (decide (a0<0)) true (decide (sp<0))) true (decide (a0≤sp))) true (decide (at_<0))) true (decide (4096≤at_));let c0:=wkF n ram sp at_;let d0:=wkW n ram sp at_;let e0:=(True∧0=c0)∧false=d0;let g0:=wkE n ram sp at_;let h0:=((-1):Int)=(-1);let k0:Int:=sp*16+at_/256;let l0:Int:=ram (Int.toNat k0);let o0:=bitsI BinOp.and IntKind.i64 l0 1023;let q0:=cond (bitsI BinOp.and IntKind.i64 l0 32768==0) true (decide (a0≤o0));let r0:=(e0∧(9:Int)≠0∧g0=9∧h0)∧True;let u0:Int:=o0*16;let v0:Int:=at_/16;let w0:Int:=u0+v0%16;let x0:Int:=ram (Int.toNat w0);let y0:=bitsI BinOp.and IntKind.i64 x0 1023;let z0:=cond (bitsI BinOp.and IntKind.i64 x0 32768==0) true (decide (a0≤y0));(((n=n∧(∀a1:Nat,a1<n→True∧ram a1=ram a1))∧True)∧True∧True)∧(b0=true→(e0∧(2:Int)≠0∧g0=2∧h0)∧True)∧(b0=false→w64 (sp*16)=sp*16∧(0≤at_∧(0:Int)<256∧w64 (at_/256)=at_/256)∧w64 k0=k0∧(0≤k0∧k0<(n:Int))∧(q0=true→r0)∧(q0=false→w64 u0=u0∧(0≤at_∧(0:Int)<16∧w64 v0=v0)∧(0≤v0∧(0:Int)<16)∧w64 w0=w0∧(0≤w0∧w0<(n:Int))∧(z0=true→r0)∧(z0=false→(((True∧y0=c0)∧(bitsI BinOp.and IntKind.i64 x0 16384 !=0)=d0)∧g0=0∧h0)∧True)))
set_option maxHeartbeats 1000000 in
theorem ok_walk:FnOK Tryz.prog glN 205 c_walk:=ok_of (.cons ok_frames .nil) false Tryz.call205 Tryz.func205 (fun _=> []) (V:=V_walk) (fun _=>by kernel_rfl) fun ⟨n,ram,sp,at_⟩ hp=>by
  dsimp only [s_walk] at hp
  dsimp only [V_walk,tn,w64]
  have hx: ∀z:Int,0≤z→z<n→isW (ram z.toNat):=fun z h1 h2=>hp _ (by omega)
  unfold isW at hx
  have wr: ∀z:Int,-100000≤z→z≤100000→IntKind.i64.wrap z=z:=fun z h1 h2=>by rw [IntKind.wrap_i64];omega
  have hb: ∀b,wkBad n sp at_=b→(b=true∧wkE n ram sp at_=2∧wkF n ram sp at_=0∧wkW n ram sp at_=false)∨(b=false∧frOf n*16=n∧0≤sp∧sp<frOf n∧0≤at_∧at_≤4095∧frOf n≤24):=fun b h=>by
    cases b with
    |true=>left;simp [wkE,wkF,wkW,h]
    |false=>
     right
     simp [wkBad,farB] at h
     rcases frOf_cases n with ⟨f1,f2⟩|⟨f1,f2,f3⟩
     · omega
     · exact ⟨rfl,by omega⟩
  have hbb:(bif bif bif bif decide (frOf n<0) then true else decide (sp<0) then true else decide (frOf n≤sp) then true else decide (at_<0) then true else decide (4096≤at_))=wkBad n sp at_:=by
    unfold wkBad farB;rw [show decide (4096≤at_)=decide (4095<at_) from decide_eq_decide.2 (by omega)];cases decide (frOf n<0)<;>cases decide (sp<0)<;>cases decide (frOf n≤sp)<;>cases decide (at_<0)<;>rfl
  simp only [std,eq_self,implies_true,Bool.cond_self]
  rw [hbb]
  refine ⟨fun h=>?_,fun h=>?_⟩
  · rcases hb _ h with ⟨_,h1,h2,h3⟩|⟨h0,_⟩
    · rw [h1,h2,h3];exact ⟨⟨rfl,rfl⟩,by decide,rfl⟩
    · cases h0
  rcases hb _ h with ⟨h0,_⟩|⟨_,f1,p1,p2,q1,q2,f3⟩
  · cases h0
  have x1:=hx (sp*16+at_/256) (by omega) (by omega)
  have hT:entOf (ram (sp*16+at_/256).toNat) (frOf n)=wkT n ram sp at_:=rfl
  obtain ⟨c1,c2⟩:=entOf_cond x1.1 x1.2 (frOf n)
  rw [c1]
  rw [hT] at c2⊢
  refine ⟨wr _ (by omega) (by omega),⟨by omega,by omega,wr _ (by omega) (by omega)⟩,wr _ (by omega) (by omega),by omega,?_⟩
  rcases entOf_cases x1.1 (frOf n) with ⟨t1,t2⟩|⟨t1,t2,t3,t4⟩
  · rw [hT] at t1
    refine ⟨fun _=>?_,fun h=>by simp [t1] at h⟩
    have e:wkE n ram sp at_=9:=by simp [wkE,h,t1]
    exact ⟨⟨by simp [wkF,e],by simp [wkW,e]⟩,by decide,e⟩
  rw [hT] at t2 t3 t4
  refine ⟨fun h=>by simp at h;omega,fun _=>?_⟩
  replace c2:=c2.resolve_left (by omega)
  rw [c2]
  have x2:=hx (wkT n ram sp at_*16+at_/16%16) (by omega) (by omega)
  have hX:ram (wkT n ram sp at_*16+at_/16%16).toNat=wkX n ram sp at_:=rfl
  rw [hX] at x2⊢
  refine ⟨wr _ (by omega) (by omega),⟨by omega,by omega,wr _ (by omega) (by omega)⟩,by omega,wr _ (by omega) (by omega),by omega,?_⟩
  obtain ⟨d1,d2⟩:=entOf_cond x2.1 x2.2 (frOf n)
  rw [d1]
  have hP:entOf (wkX n ram sp at_) (frOf n)=wkP n ram sp at_:=rfl
  rw [hP] at d2⊢
  rcases entOf_cases x2.1 (frOf n) with ⟨u1,u2⟩|⟨u1,u2,u3,u4⟩
  · rw [hP] at u1
    refine ⟨fun _=>?_,fun h=>by simp [u1] at h⟩
    have e:wkE n ram sp at_=9:=by simp [wkE,h,u1]
    exact ⟨⟨by simp [wkF,e],by simp [wkW,e]⟩,by decide,e⟩
  rw [hP] at u2 u3 u4
  have d3:decide (wkT n ram sp at_<0)=false:=decide_eq_false (by omega)
  have d4:decide (wkP n ram sp at_<0)=false:=decide_eq_false (by omega)
  have e:wkE n ram sp at_=0:=by simp [wkE,h,d3,d4]
  refine ⟨fun h=>by simp at h;omega,fun _=>?_⟩
  have eF:wkF n ram sp at_=wkP n ram sp at_:=by simp [wkF,e]
  have eW:wkW n ram sp at_=(wkX n ram sp at_/16384%2==1):=by simp [wkW,e]
  replace d2:=d2.resolve_left (by omega)
  rw [eF,eW,e,d2,bit64 14 (by omega) (by decide) x2.1 x2.2]
  have e14:(wkX n ram sp at_/16384%2*16384 !=0)=(wkX n ram sp at_/16384%2==1):=by
    have hz:wkX n ram sp at_/16384%2=0∨wkX n ram sp at_/16384%2=1:=by omega
    rcases hz with h|h<;>rw [h]<;>rfl
  rw [e14]
  repeat' (first|exact trivial|rfl|omega|exact wr _ (by omega) (by omega)|refine And.intro ?_ ?_)
end Go.Proofs.YtdjilaofmdhikaaGreatDoor
set_option linter.unusedVariables false
set_option linter.unusedSimpArgs false
set_option maxRecDepth 100000
namespace Go.Proofs.YtdjilaofmdhikaaGreatDoor
open Go.RowKit Go.Sy
def keyBad1 (k b l m:Int):Bool:=decide (b<0)||decide (24<b)||decide (l<1)||decide (24<l)||decide (24<b+l)||(k !=1&&(l !=1||m !=0))||(k==1&&farB m l)
def keyBad2 (k g:Int):Bool:=farB g 65535||(decide (0<g)&&k !=7&&k !=8)
def keyNo (k b l m r g:Int):Int:=
  bif farB k 8 then 3 else
  bif k==0 then (bif b !=0||l !=0||m !=0||r !=0||g !=0 then 2 else 0) else
  bif keyBad1 k b l m then 2 else bif farB r 7 then 4 else bif keyBad2 k g then 2 else 0
theorem keyNo_range {k b l m r g:Int} (h:keyNo k b l m r g=0):0≤k∧k≤8∧0≤b∧b≤24∧0≤l∧l≤24∧0≤m∧m≤24∧0≤r∧r≤7∧0≤g∧g≤65535:=by
  unfold keyNo keyBad1 keyBad2 farB at h
  simp only [cond_eq_ite,bne,Bool.or_eq_true,Bool.and_eq_true,Bool.not_eq_true',decide_eq_true_eq,beq_iff_eq,beq_eq_false_iff_ne] at h
  repeat' split at h
  all_goals first|(cases h;done)|omega
structure X_keyMay where
  (k b l m r g:Int)
def s_keyMay:Sy.Spec:=⟨X_keyMay,fun ⟨k,b,l,m,r,g⟩=> [.ag 6 (lsv [.v (.int .i64 k),.v (.int .i64 b),.v (.int .i64 l),.v (.int .i64 m),.v (.int .i64 r),.v (.int .i64 g)])],fun _=> [],fun _=>True,fun ⟨k,b,l,m,r,g⟩=> .v (.int .i64 (keyNo k b l m r g)),fun _=> [],
  fun args mem=>match args with| [a0]=>some ⟨intD (agD a0 0),intD (agD a0 1),intD (agD a0 2),intD (agD a0 3),intD (agD a0 4),intD (agD a0 5)⟩|_=>none⟩
def c_keyMay:Con:=⟨[],s_keyMay.g,none⟩
def V_keyMay:X_keyMay→Prop:=fun ⟨k,b,l,m,r,g⟩=>let a0:=True∧True;let b0:=keyNo k b l m r g;let c0:=cond (cond (cond (cond (b !=0) true (l !=0)) true (m !=0)) true (r !=0)) true (g !=0);let d0:=2=b0∧True;let e0:=0=b0∧True;let g0:=cond (cond (cond (cond (decide (b<0)) true (decide (24<b))) true (decide (l<1))) true (decide (24<l))) true (decide (24<w64 (b+l)));let h0:=cond (k !=1) (cond (l !=1) true (m !=0)) false;let k0:=cond h0 true (cond (k==1) (farB m l) false);let l0:=cond (farB g 65535) true (cond (cond (decide (0<g)) (k !=7) false) (k !=8) false);True∧((k=k∧(8:Int)=8∧True)∧a0)∧(farB k 8=true→3=b0∧True)∧(farB k 8=false→((k==0)=true→(c0=true→d0)∧(c0=false→e0))∧((k==0)=false→(g0=true→d0)∧(g0=false→((k==1)=true→h0=false→(m=m∧l=l∧True)∧a0)∧(k0=true→d0)∧(k0=false→((r=r∧(7:Int)=7∧True)∧a0)∧(farB r 7=true→4=b0∧True)∧(farB r 7=false→((g=g∧(65535:Int)=65535∧True)∧a0)∧(l0=true→d0)∧(l0=false→e0))))))
theorem ok_keyMay:FnOK Tryz.prog glN 217 c_keyMay:=ok_of (.cons ok_far .nil) true Tryz.call217 Tryz.func217 (fun _=> []) (V:=V_keyMay) (fun _=>by kernel_rfl) fun ⟨k,b,l,m,r,g⟩ hp=>by
  dsimp only [V_keyMay,tn,w64]
  have hw:(bif bif bif bif decide (b<(0:Int)) then true else decide ((24:Int)<b) then true else decide (l<(1:Int)) then true else decide ((24:Int)<l) then true else decide ((24:Int)<IntKind.i64.wrap (b+l)))=
   (decide (b<0)||decide (24<b)||decide (l<1)||decide (24<l)||decide (24<b+l)):=by
    by_cases h:b<0∨24<b∨l<1∨24<l
    · rcases h with h|h|h|h<;>simp [h]
    · have e:IntKind.i64.wrap (b+l)=b+l:=by rw [IntKind.wrap_i64];omega
      rw [e]
      cases decide (b<0)<;>cases decide (24<b)<;>cases decide (l<1)<;>cases decide (24<l)<;>rfl
  rw [hw]
  unfold keyNo keyBad1 keyBad2 farB
  repeat' (first|exact trivial|refine And.intro ?_ ?_|intro h)
  all_goals (clear hw)
  all_goals (try simp only [Bool.cond_true_left,Bool.cond_false_right] at*)
  all_goals (simp only [cond_eq_ite,farB,bne,Bool.or_eq_true,Bool.and_eq_true,Bool.not_eq_true',Bool.not_eq_false',Bool.and_eq_false_iff,decide_eq_true_eq,beq_iff_eq,beq_eq_false_iff_ne,Bool.or_eq_false_iff,decide_eq_false_iff_not,Bool.ite_eq_true_distrib,Bool.ite_eq_false_distrib] at*)
  all_goals (repeat' split)
  all_goals (first|rfl|(exfalso;simp_all<;>omega)|omega)
structure X_wordCheck where
  (k b l m r g:Int)
def s_wordCheck:Sy.Spec:=⟨X_wordCheck,fun ⟨k,b,l,m,r,g⟩=> [.ag 6 (lsv [.v (.int .i64 k),.v (.int .i64 b),.v (.int .i64 l),.v (.int .i64 m),.v (.int .i64 r),.v (.int .i64 g)])],fun _=> [],fun _=>True,fun ⟨k,b,l,m,r,g⟩=> .er 35 116 (keyNo k b l m r g) (-1),fun _=> [],
  fun args mem=>match args with| [a0]=>some ⟨intD (agD a0 0),intD (agD a0 1),intD (agD a0 2),intD (agD a0 3),intD (agD a0 4),intD (agD a0 5)⟩|_=>none⟩
def c_wordCheck:Con:=⟨[],s_wordCheck.g,none⟩
def V_wordCheck:X_wordCheck→Prop:=fun ⟨k,b,l,m,r,g⟩=>let a0:=cond (decide (k<0)) true (decide (8<k));let b0:=keyNo k b l m r g;let c0:=((-1):Int)=(-1);let d0:=!(k==0&&(b==0&&(l==0&&(m==0&&(r==0&&(g==0&&true))))));let e0:=((2:Int)≠0∧b0=2∧c0)∧True;let g0:=(b0=0∧c0)∧True;let h0:=cond (cond (cond (decide (b<0)) true (decide (24≤b))) true (decide (l<1))) true (decide (w64 (24-b)<l));let k0:=cond (cond (cond (cond (k !=1) (l !=1) false) true (decide (m<0))) true (decide (l<m))) true (cond (k !=1) (m !=0) false);let l0:=cond (decide (r<0)) true (decide (7<r));let o0:=cond (cond (decide (g<0)) true (decide (65535<g))) true (cond (cond (g !=0) (k !=7) false) (k !=8) false);True∧(a0=true→((3:Int)≠0∧b0=3∧c0)∧True)∧(a0=false→((k==0)=true→(d0=true→e0)∧(d0=false→g0))∧((k==0)=false→(h0=true→e0)∧(h0=false→(k0=true→e0)∧(k0=false→(l0=true→((4:Int)≠0∧b0=4∧c0)∧True)∧(l0=false→(o0=true→e0)∧(o0=false→g0))))))
theorem ok_wordCheck:FnOK Tryz.prog glN 186 c_wordCheck:=ok_of .nil true Tryz.call186 Tryz.func186 (fun _=> []) (V:=V_wordCheck) (fun _=>by kernel_rfl) fun ⟨k,b,l,m,r,g⟩ hp=>by
  dsimp only [V_wordCheck,tn,w64]
  have hw:(bif bif bif decide (b<(0:Int)) then true else decide ((24:Int)≤b) then true else decide (l<(1:Int)) then true else decide (IntKind.i64.wrap (24 -b)<l))=
   (decide (b<0)||decide (24<b)||decide (l<1)||decide (24<l)||decide (24<b+l)):=by
    by_cases h:b<0∨24≤b∨l<1
    · have:b<0∨24<b∨l<1∨24<b+l:=by omega
      have h2:(bif bif bif decide (b<(0:Int)) then true else decide ((24:Int)≤b) then true else decide (l<(1:Int)) then true else decide (IntKind.i64.wrap (24 -b)<l))=true:=by
        rcases h with h|h|h<;>simp [h]
      rw [h2]
      rcases this with h|h|h|h<;>simp [h]
    · have e:IntKind.i64.wrap (24 -b)=24 -b:=by rw [IntKind.wrap_i64];omega
      rw [e]
      have h1: ¬b<0:=by omega
      have h2: ¬24≤b:=by omega
      have h3: ¬l<1:=by omega
      have h4: ¬24<b:=by omega
      simp [h1,h2,h3,h4]
      by_cases h5:24 -b<l<;>simp [h5]<;>omega
  rw [hw]
  unfold keyNo keyBad1 keyBad2 farB
  repeat' (first|exact trivial|refine And.intro ?_ ?_|intro h)
  all_goals (clear hw)
  all_goals (try simp only [Bool.cond_true_left,Bool.cond_false_right] at*)
  all_goals (simp only [cond_eq_ite,farB,bne,Bool.or_eq_true,Bool.and_eq_true,Bool.not_eq_true',Bool.not_eq_false',Bool.and_eq_false_iff,decide_eq_true_eq,beq_iff_eq,beq_eq_false_iff_ne,Bool.or_eq_false_iff,decide_eq_false_iff_not,Bool.ite_eq_true_distrib,Bool.ite_eq_false_distrib] at*)
  all_goals (repeat' split)
  all_goals (first|rfl|(exfalso;simp_all<;>omega)|omega)
end Go.Proofs.YtdjilaofmdhikaaGreatDoor
namespace Go.Sy
theorem andNot64 {x m:Int} (hx:0≤x) (hx1:x≤65535):bitsI .andNot .i64 x m=x -bitsI .and .i64 x m:=by
  show IntKind.i64.wrap ((BitVec.ofInt 64 x&&& ~~~BitVec.ofInt 64 m).toNat:Int)=x -IntKind.i64.wrap ((BitVec.ofInt 64 x&&&BitVec.ofInt 64 m).toNat:Int)
  have hX:(BitVec.ofInt 64 x).toNat=x.toNat:=by
    rw [BitVec.toNat_ofInt];congr 1;exact Int.emod_eq_of_lt hx (by simp;omega)
  generalize hA:BitVec.ofInt 64 x=X at hX⊢
  generalize BitVec.ofInt 64 m=Y
  have h1:(X&&& ~~~Y)+(X&&&Y)=X:=by
    rw [BitVec.add_eq_or_of_and_eq_zero]
    · ext i hi
      simp
      cases X[i]<;>cases Y[i]<;>rfl
    · ext i hi
      simp
      cases X[i]<;>cases Y[i]<;>simp
  have h2:(X&&& ~~~Y).toNat≤X.toNat:=by rw [BitVec.toNat_and];exact Nat.and_le_left
  have h3:(X&&&Y).toNat≤X.toNat:=by rw [BitVec.toNat_and];exact Nat.and_le_left
  have h4:=congrArg BitVec.toNat h1
  rw [BitVec.toNat_add] at h4
  rw [IntKind.wrap_i64,IntKind.wrap_i64]
  omega
theorem andNot1023 {x:Int} (hx:0≤x) (hx1:x≤65535):bitsI .andNot .i64 x 1023=x -x%1024:=by
  rw [andNot64 hx hx1,mask64 10 (by omega) (by decide)];rfl
theorem bitP (k X:Nat):X&&&2^k=X/2^k%2*2^k:=by
  have hk:X.testBit k=decide (X/2^k%2=1):=Nat.testBit_eq_decide_div_mod_eq
  apply Nat.eq_of_testBit_eq
  intro i
  rw [Nat.testBit_and,Nat.testBit_two_pow]
  rcases Nat.mod_two_eq_zero_or_one (X/2^k) with h|h
  · rw [h]
    by_cases e:k=i
    · subst e;simp [hk,h]
    · simp [e]
  · rw [h,Nat.one_mul,Nat.testBit_two_pow]
    by_cases e:k=i
    · subst e;simp [hk,h]
    · simp [e]
theorem andNot17407 {x:Int} (hx:0≤x) (hx1:x≤65535):bitsI .andNot .i64 x 17407=(x -x%1024) -(x -x%1024)/16384%2*16384:=by
  have e:bitsI .andNot .i64 x 17407=bitsI .andNot .i64 (bitsI .andNot .i64 x 1023) 16384:=by
    show IntKind.i64.wrap ((BitVec.ofInt 64 x&&& ~~~BitVec.ofInt 64 17407).toNat:Int)=IntKind.i64.wrap ((BitVec.ofInt 64 (bitsI .andNot .i64 x 1023)&&& ~~~BitVec.ofInt 64 16384).toNat:Int)
    have h0:BitVec.ofInt 64 (bitsI .andNot .i64 x 1023)=BitVec.ofInt 64 x&&& ~~~BitVec.ofInt 64 1023:=by
      have h1:bitsI .andNot .i64 x 1023=IntKind.i64.wrap ((BitVec.ofInt 64 x&&& ~~~BitVec.ofInt 64 1023).toNat:Int):=rfl
      have h2:(BitVec.ofInt 64 x&&& ~~~BitVec.ofInt 64 1023).toNat≤65535:=by
        rw [BitVec.toNat_and]
        refine Nat.le_trans Nat.and_le_left ?_
        rw [BitVec.toNat_ofInt,Int.emod_eq_of_lt hx (by simp;omega)];omega
      rw [h1,IntKind.wrap_i64]
      apply BitVec.eq_of_toNat_eq
      rw [BitVec.toNat_ofInt]
      generalize (BitVec.ofInt 64 x&&& ~~~BitVec.ofInt 64 1023).toNat=t at h2⊢
      show ((_:Int)%((2^64:Nat):Int)).toNat=t
      rw [show ((2^64:Nat):Int)=18446744073709551616 by decide]
      omega
    rw [h0]
    congr 3
    rw [BitVec.and_assoc]
    congr 1
  rw [e,andNot1023 hx hx1,andNot64 (by omega) (by omega),and64 (by omega) (by omega) (by omega) (by omega)]
  obtain ⟨Y,hY⟩: ∃Y:Nat,x -x%1024=Y:=⟨(x -x%1024).toNat,by omega⟩
  rw [hY,Int.toNat_natCast,show Int.toNat 16384=2^14 from rfl,bitP]
  simp
theorem rights_sub {r q:Int} (r0:0≤r) (r1:r≤7) (q0:0≤q) (q1:q≤7):(bitsI .andNot .i64 r q==0)=(bitsI .and .i64 q r==r):=by
  have hr:r=0∨r=1∨r=2∨r=3∨r=4∨r=5∨r=6∨r=7:=by omega
  have hq:q=0∨q=1∨q=2∨q=3∨q=4∨q=5∨q=6∨q=7:=by omega
  rcases hr with rfl|rfl|rfl|rfl|rfl|rfl|rfl|rfl<;>rcases hq with rfl|rfl|rfl|rfl|rfl|rfl|rfl|rfl<;>decide
theorem holes: ∀(L:Nat) (f:Nat→Nat),(∀k,k≤L→f k<L)→ ∃a b,a<b∧b≤L∧f a=f b
  |0,f,h=>absurd (h 0 (Nat.le_refl _)) (by omega)
  |L+1,f,h=>by
   rcases Classical.em (∃k,k≤L∧f k=f (L+1)) with ⟨k,h1,h2⟩|hno
   · exact ⟨k,L+1,by omega,by omega,h2⟩
   · have hne: ∀k,k≤L→f k≠f (L+1):=fun k hk e=>hno ⟨k,hk,e⟩
     obtain ⟨a,b,h1,h2,h3⟩:=holes L (fun k=>if f k=L then f (L+1) else f k) fun k hk=>by
       have l1:=h k (by omega)
       have l2:=h (L+1) (by omega)
       have l3:=hne k hk
       show (if f k=L then f (L+1) else f k)<L
       split<;>omega
     refine ⟨a,b,h1,by omega,?_⟩
     have n1:=hne a (by omega)
     have n2:=hne b (by omega)
     have h3:(if f a=L then f (L+1) else f a)=(if f b=L then f (L+1) else f b):=h3
     split at h3<;>split at h3
     · omega
     · exact absurd h3.symm n2
     · exact absurd h3 n1
     · exact h3
theorem stays_in (L:Nat) (g:Nat→Nat) (s:Nat→Nat) (hs: ∀k,s k<L→s (k+1)=g (s k)) (hin: ∀k,k≤L→s k<L): ∀k,s k<L:=by
  obtain ⟨a,b,h1,h2,h3⟩:=holes L s hin
  have hall: ∀n k,k≤n→s k<L:=by
    intro n
    induction n with
    |zero=>intro k hk;exact hin k (by omega)
    |succ n ih=>
     intro k hk
     rcases Nat.lt_or_ge b k with hb|hb
     · --step back by the period
       have hper: ∀d,b+d≤n+1→s (a+d)=s (b+d):=by
         intro d
         induction d with
         |zero=>intro _;exact h3
         |succ d ihd=>
          intro hd
          have e1:=hs (a+d) (ih _ (by omega))
          have e2:=hs (b+d) (ih _ (by omega))
          rw [show a+(d+1)=a+d+1 by omega,show b+(d+1)=b+d+1 by omega,e1,e2,ihd (by omega)]
       have:=hper (k -b) (by omega)
       rw [show b+(k -b)=k by omega] at this
       rw [←this]
       exact ih _ (by omega)
     · exact hin k (by omega)
  exact fun k=>hall k k (Nat.le_refl _)
end Go.Sy
set_option linter.unusedVariables false
set_option linter.unusedSimpArgs false
set_option maxRecDepth 100000
namespace Go.Proofs.YtdjilaofmdhikaaGreatDoor
open Go.RowKit Go.Sy
def cntB:Nat→(Nat→Bool)→Nat
  |0,_=>0
  |n+1,p=>cntB n p+(bif p n then 1 else 0)
def anyB (n:Nat) (p:Nat→Bool):Bool:=!allB n fun i=>!p i
theorem cntB_le (p:Nat→Bool): ∀n,cntB n p≤n
  |0=>Nat.le_refl _
  |n+1=>by have:=cntB_le p n;unfold cntB;cases p n<;>simp<;>omega
theorem cntB_pos {p:Nat→Bool}: ∀{n i:Nat},i<n→p i=true→0<cntB n p
  |0,i,h,_=>absurd h (by omega)
  |n+1,i,h,hp=>by
   unfold cntB
   rcases Nat.lt_or_ge i n with h1|h1
   · have:=cntB_pos h1 hp;omega
   · obtain rfl:i=n:=by omega
     rw [hp];simp
theorem anyB_iff {n:Nat} {p:Nat→Bool}:anyB n p=true↔ ∃i,i<n∧p i=true:=by
  unfold anyB
  cases h:allB n fun i=>!p i with
  |true=>
   simp only [Bool.not_true,Bool.false_eq_true,false_iff]
   rintro ⟨i,hi,hp⟩
   have:=allB_iff.1 h i hi
   simp [hp] at this
  |false=>
   simp only [Bool.not_false,true_iff]
   refine Classical.byContradiction fun hn=>?_
   rw [allB_iff.2] at h
   · cases h
   · intro i hi
     cases hp:p i
     · rfl
     · exact absurd ⟨i,hi,hp⟩ hn
theorem anyB_false {n:Nat} {p:Nat→Bool}:anyB n p=false↔ ∀i,i<n→p i=false:=by
  constructor
  · intro h i hi
    cases hp:p i
    · rfl
    · rw [anyB_iff.2 ⟨i,hi,hp⟩] at h;cases h
  · intro h
    cases hq:anyB n p
    · rfl
    · obtain ⟨i,hi,hp⟩:=anyB_iff.1 hq
      rw [h i hi] at hp;cases hp
theorem anyB_succ (n:Nat) (p:Nat→Bool):anyB (n+1) p=(anyB n p||p n):=by
  show (!(allB n (fun i=>!p i)&&!p n))=(!allB n (fun i=>!p i)||p n)
  cases allB n (fun i=>!p i)<;>cases p n<;>rfl
def sumN:Nat→(Nat→Nat)→Nat
  |0,_=>0
  |n+1,f=>sumN n f+f n
theorem sumN_le {f:Nat→Nat} {b:Nat}: ∀{n:Nat},(∀i,i<n→f i≤b)→sumN n f≤n*b
  |0,_=>by simp [sumN]
  |n+1,h=>by
   have h1:=sumN_le (n:=n) fun i hi=>h i (by omega)
   have h2:=h n (by omega)
   unfold sumN;rw [Nat.succ_mul];omega
def fstE (n:Nat) (p:Nat→Bool) (e:Int) (r:Int×Int):Int×Int:=bif Nat.blt (fstB n p) n then (e,((fstB n p:Nat):Int)) else r
theorem fstE_at {n i:Nat} {p:Nat→Bool} {e:Int} {r:Int×Int} (hb: ∀j,j<i→p j=false) (hp:p i=true) (hi:i<n):fstE n p e r=(e,((i:Nat):Int)):=by
  unfold fstE;rw [fstB_at hb hp hi,blt_t hi];rfl
theorem fstE_none {n:Nat} {p:Nat→Bool} {e:Int} {r:Int×Int} (h: ∀j,j<n→p j=false):fstE n p e r=r:=by
  unfold fstE;rw [fstB_none h,blt_f (Nat.le_refl _)];rfl
theorem fstB_spec {p:Nat→Bool}: ∀{n:Nat},fstB n p<n→p (fstB n p)=true∧ ∀j,j<fstB n p→p j=false:=by
  intro n h
  rcases Classical.em (∃i,i<n∧p i=true) with hx|hx
  · --the least one
    have key: ∀k i,i≤k→i<n→p i=true→ ∃m,m<n∧p m=true∧ ∀j,j<m→p j=false:=by
      intro k
      induction k with
      |zero=>
       intro i hi hn hp
       exact ⟨i,hn,hp,fun j hj=>absurd hj (by omega)⟩
      |succ k ih=>
       intro i hi hn hp
       rcases Classical.em (∃j,j<i∧p j=true) with ⟨j,hj,hpj⟩|hno
       · exact ih j (by omega) (by omega) hpj
       · refine ⟨i,hn,hp,fun j hj=>?_⟩
         cases hq:p j
         · rfl
         · exact absurd ⟨j,hj,hq⟩ hno
    obtain ⟨i,hi,hp⟩:=hx
    obtain ⟨m,h1,h2,h3⟩:=key i i (Nat.le_refl _) hi hp
    rw [fstB_at h3 h2 h1]
    exact ⟨h2,h3⟩
  · have: ∀j,j<n→p j=false:=fun j hj=>by
      cases hq:p j
      · rfl
      · exact absurd ⟨j,hj,hq⟩ hx
    rw [fstB_none this] at h
    omega
theorem fstB_lt {n i:Nat} {p:Nat→Bool} (hi:i<n) (hp:p i=true):fstB n p<n:=by
  rcases Nat.lt_or_ge (fstB n p) n with h|h
  · exact h
  · have e:fstB n p=n:=Nat.le_antisymm (fstB_le p n) h
    rcases Classical.em (∃j,j<i+1∧p j=true∧ ∀k,k<j→p k=false) with ⟨j,h1,h2,h3⟩|hno
    · rw [fstB_at h3 h2 (by omega)] at h;omega
    · exfalso
      have: ∀k,k<i+1→p k=false:=by
        intro k
        induction k using Nat.strongRecOn with
        |_ k ih=>
         intro hk
         cases hq:p k
         · rfl
         · exact absurd ⟨k,hk,hq,fun j hj=>ih j hj (by omega)⟩ hno
      rw [this i (by omega)] at hp;cases hp
theorem fstE_congr {n:Nat} {p q:Nat→Bool} {e:Int} {r r':Int×Int} (h: ∀i,i<n→p i=q i) (hr:(∀i,i<n→p i=false)→r=r'):fstE n p e r=fstE n q e r':=by
  rcases Nat.lt_or_ge (fstB n p) n with h1|h1
  · obtain ⟨h2,h3⟩:=fstB_spec h1
    rw [fstE_at h3 h2 h1,fstE_at (p:=q) (fun j hj=>by rw [←h j (by omega)];exact h3 j hj) (by rw [←h _ h1];exact h2) h1]
  · have: ∀i,i<n→p i=false:=fun i hi=>by
      cases hq:p i
      · rfl
      · have:=fstB_lt hi hq;omega
    rw [fstE_none this,fstE_none (fun j hj=>by rw [←h j hj];exact this j hj),hr this]
theorem fstE_zero {n:Nat} {p:Nat→Bool} {e:Int} {r:Int×Int} (he:e≠0) (h:(fstE n p e r).1=0):(∀i,i<n→p i=false)∧r.1=0:=by
  rcases Nat.lt_or_ge (fstB n p) n with h1|h1
  · obtain ⟨h2,h3⟩:=fstB_spec h1
    rw [fstE_at h3 h2 h1] at h;exact absurd h he
  · have: ∀i,i<n→p i=false:=fun i hi=>by
      cases hq:p i
      · rfl
      · have:=fstB_lt hi hq;omega
    rw [fstE_none this] at h
    exact ⟨this,h⟩
def kof (W:Wd) (f:Int):Int:=bif decide (f<0)||decide ((W.nKinds:Int)≤f) then -1 else W.kinds f.toNat
theorem kof_in {W:Wd} {f:Int} (h:kof W f≠ -1):0≤f∧f<W.nKinds:=by
  unfold kof at h
  cases h1:decide (f<0)<;>cases h2:decide ((W.nKinds:Int)≤f)<;>simp [h1,h2] at h<;>simp at h1 h2<;>omega
theorem kof_eq {W:Wd} {f:Int} (h:0≤f∧f<W.nKinds):kof W f=W.kinds f.toNat:=by
  unfold kof;rw [decide_eq_false (by omega),decide_eq_false (by omega)];rfl
theorem kof_out {W:Wd} {f:Int} (h:f<0∨W.nKinds≤f):kof W f= -1:=by
  unfold kof
  rcases h with h|h
  · rw [decide_eq_true h];rfl
  · rw [decide_eq_true h];cases decide (f<0)<;>rfl
def szBad (W:Wd):Bool:=
  decide (W.nKinds<1)||decide (24<W.nKinds)||decide (W.nCores<1)||decide (4<W.nCores)||W.nRam !=W.nKinds*16||W.nSlots !=W.nKinds*16||W.nTasks !=W.nKinds||W.nLines !=W.nKinds||W.nBits !=W.nKinds||W.nReady !=W.nCores*4||W.nTlbs !=W.nCores||decide (W.nDoms<1)||decide (8<W.nDoms)||farB W.time 1000000
structure Szd (W:Wd):Prop where
  k0:1≤W.nKinds
  k1:W.nKinds≤24
  c0:1≤W.nCores
  c1:W.nCores≤4
  ram:W.nRam=W.nKinds*16
  slots:W.nSlots=W.nKinds*16
  tasks:W.nTasks=W.nKinds
  lines:W.nLines=W.nKinds
  bits:W.nBits=W.nKinds
  ready:W.nReady=W.nCores*4
  tlbs:W.nTlbs=W.nCores
  d0:1≤W.nDoms
  d1:W.nDoms≤8
  t0:0≤W.time
  t1:W.time≤1000000
theorem szd_of {W:Wd} (h:szBad W=false):Szd W:=by
  unfold szBad farB at h
  simp only [Bool.or_eq_false_iff,decide_eq_false_iff_not,bne_eq_false_iff_eq] at h
  obtain ⟨⟨⟨⟨⟨⟨⟨⟨⟨⟨⟨⟨⟨h1,h2⟩,h3⟩,h4⟩,h5⟩,h6⟩,h7⟩,h8⟩,h9⟩,h10⟩,h11⟩,h12⟩,h13⟩,h14,h15⟩:=h
  exact ⟨by omega,by omega,by omega,by omega,h5,h6,h7,h8,h9,h10,h11,by omega,by omega,by omega,by omega⟩
def smB (W:Wd):Prop:=(∀i,i<W.nLines→W.linesN i≤50)∧(∀i,i<W.nReady→W.readyN i≤50)∧(∀i,i<W.nTlbs→W.tlbsN i≤50)
def slNo (s:Slt):Int:=keyNo s.kind s.base s.len s.mark s.rights s.badge
def inS (W:Wd) (u:Int):Bool:=decide (0≤u)&&decide (u<W.nSlots)
def upS (W:Wd) (u:Int):Int:=bif inS W u then (W.slots u.toNat).from_ else u
def upK (W:Wd) (u:Int):Nat→Int
  |0=>u
  |k+1=>upS W (upK W u k)
def madeB (k p:Slt):Bool:=
  slNo p==0&&bif p.kind==1 then k.kind !=1&&decide (p.base≤k.base)&&decide (k.base -p.base<p.mark) else k.kind==p.kind&&k.base==p.base&&(p.badge==0||p.badge==k.badge)&&(((bitw 6 p.rights.toNat k.rights.toNat:Nat):Int)==k.rights)
def slBs (W:Wd) (i:Nat) (s:Slt):Bool:=
  bif s.kind==0 then slNo s==0&&s.from_== -1 else
  W.kinds (i/16)==5&&slNo s==0&&decide (s.base+s.len≤W.nKinds)&&(s.kind==1||W.kinds s.base.toNat==s.kind)&&
  (s.from_== -1||(inS W s.from_&&madeB s (W.slots s.from_.toNat)&&!inS W (upK W s.from_ W.nSlots)))
def slB (W:Wd) (i:Nat):Bool:=slBs W i (W.slots i)
theorem slBs_no {W:Wd} {i:Nat} {s:Slt} (h:slBs W i s=true):slNo s=0:=by
  unfold slBs at h
  cases hk:s.kind==0<;>simp only [hk,cond_true,cond_false,Bool.and_eq_true,beq_iff_eq] at h
  · exact h.1.1.1.2
  · exact h.1
theorem slNo_range {s:Slt} (h:slNo s=0):0≤s.kind∧s.kind≤8∧0≤s.base∧s.base≤24∧0≤s.len∧s.len≤24∧0≤s.mark∧s.mark≤24∧0≤s.rights∧s.rights≤7∧0≤s.badge∧s.badge≤65535:=keyNo_range h
theorem snocF {p:Nat→Bool} {i:Nat} (h: ∀j,j<i→p j=false) (hi:p i=false): ∀j,j<i+1→p j=false:=by
  intro j hj
  rcases Nat.lt_or_ge j i with h3|h3
  · exact h j h3
  · obtain rfl:j=i:=by omega
    exact hi
theorem upS_in {W:Wd} {u:Int} (h:inS W u=true):upS W u=(W.slots u.toNat).from_:=by unfold upS;rw [h];rfl
theorem upS_out {W:Wd} {u:Int} (h:inS W u=false):upS W u=u:=by unfold upS;rw [h];rfl
theorem inS_iff {W:Wd} {u:Int}:inS W u=true↔0≤u∧u<W.nSlots:=by unfold inS;simp
theorem upK_out {W:Wd} {u:Int} {k:Nat} (h:inS W (upK W u k)=false): ∀{m:Nat},k≤m→upK W u m=upK W u k
  |m,hm=>by
   induction m with
   |zero=>obtain rfl:k=0:=by omega
          rfl
   |succ m ih=>
    rcases Nat.lt_or_ge m k with h1|h1
    · obtain rfl:k=m+1:=by omega
      rfl
    · show upS W (upK W u m)=_
      rw [ih h1,upS_out h]
def clayAt (s:Slt) (f:Nat):Bool:=s.kind==1&&decide (s.base≤f)&&decide ((f:Int)<s.base+s.len)
def freeAt (s:Slt) (f:Nat):Bool:=clayAt s f&&decide (s.base+s.mark≤f)
def keyAt (s:Slt) (f:Nat):Bool:=s.kind !=1&&s.kind !=0&&s.base==f
def frB (W:Wd) (f:Nat):Bool:=
  decide (cntB W.nSlots (fun i=>clayAt (W.slots i) f)≤1)&&(W.kinds f==0||(decide (0<cntB W.nSlots fun i=>keyAt (W.slots i) f)&&!anyB W.nSlots fun i=>freeAt (W.slots i) f))
def cntL (n:Nat) (l:Nat→Int) (x:Int):Nat:=cntB n fun k=>l k==x
def cntLL (n:Nat) (ln:Nat→Nat) (l:Nat→Nat→Int) (x:Int):Nat:=sumN n fun i=>cntL (ln i) (l i) x
def inB' (n:Nat) (l:Nat→Int) (x:Int):Bool:=anyB n fun k=>l k==x
def regFar (t:Run):Bool:=farB t.r0 65535||farB t.r1 65535||farB t.r2 65535||farB t.r3 65535||farB t.r4 65535||farB t.r5 65535||farB t.r6 65535||farB t.r7 65535
def numFar (W:Wd) (t:Run):Bool:=farB t.pc 65535||farB t.word 65535||farB t.badge 65535||farB t.st 6||farB t.prio 3||farB t.core (W.nCores -1)||farB t.dom 3
def okF (W:Wd) (f k:Int):Bool:=f== -1||kof W f==k
def refOK (W:Wd) (t:Run):Bool:=okF W t.node 5&&okF W t.space 4&&okF W t.helper 7&&okF W t.owes 6
def owesOK (W:Wd) (t:Run):Bool:=t.owes== -1||((W.tasks t.owes.toNat).st==5&&t.st !=4)
def owed (W:Wd) (f:Nat):Nat:=cntB W.nTasks fun i=>(W.tasks i).owes==f
def owedOK (W:Wd) (f:Nat):Bool:=decide (owed W f≤1)&&((owed W f==1)==((W.tasks f).st==5))
def stands (W:Wd) (f:Nat):Nat:=cntLL W.nLines W.linesN W.lines f
def turnsN (W:Wd) (f:Nat):Nat:=cntLL W.nReady W.readyN W.ready f+cntL W.nCores W.cores f
def standOK (W:Wd) (f:Nat) (k:Int):Bool:=(stands W f==1)&&(turnsN W f==0)&&kof W (W.tasks f).loc==k&&inB' (W.linesN (W.tasks f).loc.toNat) (W.lines (W.tasks f).loc.toNat) f
def stOK (W:Wd) (f:Nat):Bool:=
  let s:=(W.tasks f).st
  bif s==2||s==3||s==4 then standOK W f 7 else bif s==6 then standOK W f 8 else
  bif s==1 then (stands W f==0)&&(turnsN W f==1)&&(W.tasks f).loc== -1 else (stands W f==0)&&(turnsN W f==0)&&(W.tasks f).loc== -1
def tkB (W:Wd) (f:Nat):Bool:=
  let t:=W.tasks f
  bif W.kinds f !=6 then runEq t Run.blank else !regFar t&&!numFar W t&&refOK W t&&owesOK W t&&owedOK W f&&stOK W f
def wtB (W:Wd) (t:Int):Bool:=(W.tasks t.toNat).st==4
def lnTest (W:Wd) (f:Nat) (t:Int):Bool:=kof W t==6&&(W.tasks t.toNat).loc==f&&(wtB W t==wtB W (W.lines f 0))
def lnB (W:Wd) (f:Nat):Bool:=
  !(decide (0<W.linesN f)&&W.kinds f !=7&&W.kinds f !=8)&&!(W.bits f !=0&&(W.kinds f !=8||decide (0<W.linesN f)))&&!farB (W.bits f) 65535&&allB (W.linesN f) fun i=>lnTest W f (W.lines f i)
def rdB (W:Wd) (t c p:Int):Bool:=kof W t==6&&(W.tasks t.toNat).st==1&&(W.tasks t.toNat).core==c&&(decide (p<0)||(W.tasks t.toNat).prio==p)
def coB (W:Wd) (c:Nat):Bool:=W.cores c== -1||rdB W (W.cores c) c (-1)
def rlB (W:Wd) (i:Nat):Bool:=allB (W.readyN i) fun k=>rdB W (W.ready i k) ((i/4:Nat):Int) ((i%4:Nat):Int)
def enB (W:Wd) (i:Nat):Bool:=
  let x:=W.ram i
  let k:=W.kinds (i/16)
  x==0||(k !=3&&k !=4)||(bif k==4 then x -x%1024==32768&&kof W (x%1024)==3 else (x -x%1024==32768||x -x%1024==49152)&&kof W (x%1024)==2)
def tlT (W:Wd) (l:Nat→Ent4) (i:Nat):Bool:=
  kof W (l i).sp==4&&!farB (l i).pg 255&&wkE W.nRam W.ram (l i).sp (16*(l i).pg)==0&&wkF W.nRam W.ram (l i).sp (16*(l i).pg)==(l i).fr&&(wkW W.nRam W.ram (l i).sp (16*(l i).pg)==(l i).wr)&&!anyB i fun k=>(l k).sp==(l i).sp&&(l k).pg==(l i).pg
def tlB (W:Wd) (n:Nat) (l:Nat→Ent4):Bool:=decide (n≤4)&&allB n fun i=>tlT W l i
def wm1 (W:Wd) (r:Int×Int):Int×Int:=fstE W.nRam (fun i=>farB (W.ram i) 65535) 1<|fstE W.nKinds (fun i=>farB (W.kinds i) 8||W.kinds i==1) 3<|fstE W.nDoms (fun i=>farB (W.doms i) 3) 2 r
def wm2 (W:Wd) (r:Int×Int):Int×Int:=fstE W.nSlots (fun i=>!slB W i) 8 r
def wm3 (W:Wd) (r:Int×Int):Int×Int:=fstE W.nKinds (fun i=>!frB W i) 8 r
def wm4 (W:Wd) (r:Int×Int):Int×Int:=fstE W.nKinds (fun i=>!tkB W i) 8 r
def wm5 (W:Wd) (r:Int×Int):Int×Int:=fstE W.nKinds (fun i=>!lnB W i) 8 r
def wm6 (W:Wd) (r:Int×Int):Int×Int:=fstE W.nCores (fun i=>!coB W i) 8<|fstE W.nReady (fun i=>!rlB W i) 8 r
def wm7 (W:Wd) (r:Int×Int):Int×Int:=fstE W.nRam (fun i=>!enB W i) 9<|fstE W.nCores (fun i=>!tlB W (W.tlbsN i) (W.tlbs i)) 9 r
def wm (W:Wd):Int×Int:=bif szBad W then (2,-1) else wm1 W (wm2 W (wm3 W (wm4 W (wm5 W (wm6 W (wm7 W (0,-1)))))))
end Go.Proofs.YtdjilaofmdhikaaGreatDoor
set_option linter.unusedVariables false
set_option linter.unusedSimpArgs false
set_option maxRecDepth 100000
namespace Go.Proofs.YtdjilaofmdhikaaGreatDoor
open Go.RowKit Go.Sy
def wMJD (B:List Blk) (z:Nat):Wd:=⟨rowN B (z+1),fun i=>intD (rowF B (z+1) i 0),rowN B (z+2),fun i=>intD (rowF B (z+2) i 0),rowN B (z+3),fun i=>slBD (fun j=>rowF B (z+3) i j),rowN B (z+4),fun i=>runBD (fun j=>rowF B (z+4) i j),rowN B (z+5),fun i=>ilN (rowF B (z+5) i 0),fun i k=>intD (ilF (rowF B (z+5) i 0) k 0),rowN B (z+6),fun i=>intD (rowF B (z+6) i 0),rowN B (z+7),fun i=>intD (rowF B (z+7) i 0),rowN B (z+8),fun i=>ilN (rowF B (z+8) i 0),fun i k=>intD (ilF (rowF B (z+8) i 0) k 0),rowN B (z+9),fun i=>ilN (rowF B (z+9) i 0),fun i k=>enBD (fun j=>ilF (rowF B (z+9) i 0) k j),rowN B (z+10),fun i=>intD (rowF B (z+10) i 0),intD (celF B z 10)⟩
theorem beq_ne {a b:Nat} (h:a≠b):Nat.beq a b=false:=by
  cases hb:Nat.beq a b with
  |false=>rfl
  |true=>exact absurd (Nat.eq_of_beq_eq_true hb) h
theorem wr_in {z:Int} (h1: -1000000≤z) (h2:z≤1000000):IntKind.i64.wrap z=z:=by rw [IntKind.wrap_i64];omega
theorem ne0 {x:Int} (h:(x !=0)=true):(x==0)=false:=by simpa [bne] using h
theorem eq0 {x:Int} (h:(x !=0)=false):(x==0)=true:=by simpa [bne] using h
theorem wd_eta (W:Wd):(⟨W.nRam,W.ram,W.nKinds,W.kinds,W.nSlots,W.slots,W.nTasks,W.tasks,W.nLines,W.linesN,W.lines,W.nBits,W.bits,W.nCores,W.cores,W.nReady,W.readyN,W.ready,W.nTlbs,W.tlbsN,W.tlbs,W.nDoms,W.doms,W.time⟩:Wd)=W:=rfl
end Go.Proofs.YtdjilaofmdhikaaGreatDoor
set_option linter.unusedVariables false
set_option linter.unusedSimpArgs false
set_option maxRecDepth 100000
namespace Go.Proofs.YtdjilaofmdhikaaGreatDoor
open Go.RowKit Go.Sy
def fdB (sp pg:Int) (e:Ent4):Bool:=e.sp==sp&&e.pg==pg
def zEn:Ent4:=⟨0,0,0,false⟩
def fdE (n:Nat) (t:Nat→Ent4) (sp pg:Int):Ent4:=bif Nat.blt (fstB n fun i=>fdB sp pg (t i)) n then t (fstB n fun i=>fdB sp pg (t i)) else zEn
def fdO (n:Nat) (t:Nat→Ent4) (sp pg:Int):Bool:=Nat.blt (fstB n fun i=>fdB sp pg (t i)) n
def anQ (n:Nat) (p:Nat→Bool):Ann where
  σ:=Nat
  rt:= []
  sh i:= [(8,.v (.int .i64 i))]
  mh _:= []
  inv i:=i≤n∧ ∀j,j<i→p j=false
  μ i:=n -i
  init:=0
structure X_find1 where
  (e:Ent4) (sp pg:Int)
def s_find1:Sy.Spec:=⟨X_find1,fun ⟨e,sp,pg⟩=> [.ag 4 (lsv (enL e)),.pt true 1 (fun _=> .v (.int .i64 sp)),.pt true 1 (fun _=> .v (.int .i64 pg))],fun _=> [],fun _=>True,fun ⟨e,sp,pg⟩=> .v (.bool (fdB sp pg e)),fun _=> [],
  fun args mem=>match args with| [a0,a1,a2]=>some ⟨enBD (agD a0),intD (ptF a1 0),intD (ptF a2 0)⟩|_=>none⟩
def c_find1:Con:=⟨[],s_find1.g,none⟩
def V_find1:X_find1→Prop:=fun ⟨e,sp,pg⟩=>True∧cond (e.sp==sp) (e.pg==pg) false=fdB sp pg e∧True
theorem ok_find1:FnOK Tryz.prog glN 226 c_find1:=ok_of .nil false Tryz.call226 Tryz.func226 (fun _=> []) (V:=V_find1) (fun _=>by kernel_rfl) fun ⟨e,sp,pg⟩ hp=>by
  dsimp only [V_find1,tn,w64]
  simp only [std,stb,eq_self,implies_true,Bool.cond_self]
  rfl
structure X_idxF where
  (n:Nat) (t:Nat→Ent4) (sp pg:Int)
def s_idxF:Sy.Spec:=⟨X_idxF,fun ⟨n,t,sp,pg⟩=> [.sl true 4 n (rF fun i=>enL (t i)),.fn 226 2 (lsv [.pt true 1 (fun _=> .v (.int .i64 sp)),.pt true 1 (fun _=> .v (.int .i64 pg))])],fun _=> [],fun _=>True,fun ⟨n,t,sp,pg⟩=> .v (.int .i64 (idxB n fun i=>fdB sp pg (t i))),fun _=> [],
  fun args mem=>match args with| [a0,a1]=>(match isFn 226 a1 with|true=>some ⟨slN a0,fun i=>enBD (fun j=>slF a0 i j),intD (ptF (fnF a1 0) 0),intD (ptF (fnF a1 1) 0)⟩|false=>none)|_=>none⟩
def c_idxF:Con:=⟨[],s_idxF.g,none⟩
def V_idxF:X_idxF→Prop:=fun ⟨n,t,sp,pg⟩=>let a0:=(n:Int);let b0:=idxB n (fun c0:Nat=>fdB sp pg (t c0));a0≤9223372036854775807→0=((0:Nat):Int)∧True∧(0≤n∧(∀d0:Nat,d0<0→fdB sp pg (t d0)=false))∧(∀e0:Nat,let g0:=(e0:Int);let h0:=decide (g0<a0);let k0:=t (Int.toNat g0);let l0:=k0.sp;let o0:=k0.pg;let q0:=k0.fr;let r0:=k0.wr;let u0:=fdB sp pg k0;let v0:Int:=g0+1;e0≤n∧(∀w0:Nat,w0<e0→fdB sp pg (t w0)=false)→(h0=true→(0≤g0∧g0<a0)∧((((((True∧l0=l0)∧o0=o0)∧q0=q0)∧r0=r0)∧(True∧sp=sp)∧(True∧pg=pg)∧True)∧True∧True)∧(u0=true→g0=b0∧True)∧(u0=false→w64 v0=v0∧(∃x0:Nat,v0=(x0:Int)∧True∧(x0≤n∧(∀y0:Nat,y0<x0→fdB sp pg (t y0)=false))∧n-x0<n-e0)))∧(h0=false→(-1)=b0∧True))
theorem ok_idxF:FnOK Tryz.prog glN 225 c_idxF:=ok_of (.cons ok_find1 .nil) false Tryz.call225 Tryz.func225 (fun ⟨n,t,sp,pg⟩=> [.inv (anQ n fun i=>fdB sp pg (t i))]) (V:=V_idxF) (fun _=>by kernel_rfl) fun ⟨n,t,sp,pg⟩ hp=>by
  dsimp only [V_idxF,tn,w64]
  simp only [std,eq_self,implies_true,Bool.cond_self]
  intro _ s hs
  refine ⟨fun h=>?_,fun h=>?_⟩
  · have hlt:=lt_of_dec h
    refine ⟨by omega,fun h1=>?_,fun h1=>⟨by rw [IntKind.wrap_i64];omega,exS ⟨⟨by omega,fun j hj=>?_⟩,by omega⟩⟩⟩
    · rw [idxB_at (p:=fun i=>fdB sp pg (t i)) hs.2 h1 hlt]
    · rcases Nat.lt_or_ge j s with h3|h3
      · exact hs.2 j h3
      · obtain rfl:j=s:=by omega
        exact h1
  · obtain rfl:s=n:=by have:=ge_of_dec h;omega
    rw [idxB_none (p:=fun i=>fdB sp pg (t i)) hs.2]
structure X_cloneE where
  (n:Nat) (t:Nat→Ent4)
def s_cloneE:Sy.Spec:=⟨X_cloneE,fun ⟨n,t⟩=> [.sl true 4 n (rF fun i=>enL (t i))],fun _=> [],fun ⟨n,_⟩=>n≤100000,fun ⟨n,_⟩=> .slc 0 0 none 0 n,fun ⟨n,t⟩=> [.row 4 n (rF fun i=>enL (t i))],
  fun args mem=>match args with| [a0]=>some ⟨slN a0,fun i=>enBD (fun j=>slF a0 i j)⟩|_=>none⟩
def c_cloneE:Con:=⟨[],s_cloneE.g,none⟩
def V_cloneE:X_cloneE→Prop:=fun ⟨n,t⟩=> ∀a0:Bool,(a0=true→n=0)→(a0=true→(0=0∧0=n)∧(0=n∧(∀b0:Nat,b0<n→(((True∧SV.junk=SV.v (Value.int IntKind.i64 (t b0).sp))∧SV.junk=SV.v (Value.int IntKind.i64 (t b0).pg))∧SV.junk=SV.v (Value.int IntKind.i64 (t b0).fr))∧SV.junk=SV.v (Value.bool (t b0).wr)))∧True)∧(a0=false→True∧(n*32≤140737488355328∧(∀c0:Nat,true=true))∧(0=0∧n=n)∧(n=n∧(∀d0:Nat,d0<n→(((True∧(t d0).sp=(t d0).sp)∧(t d0).pg=(t d0).pg)∧(t d0).fr=(t d0).fr)∧(t d0).wr=(t d0).wr))∧True)
theorem ok_cloneE:FnOK Tryz.prog glN 216 c_cloneE:=ok_of .nil false Tryz.call216 Tryz.func216 (fun _=> []) (V:=V_cloneE) (fun _=>by kernel_rfl) fun ⟨n,t⟩ hp=>by
  dsimp only [s_cloneE] at hp
  dsimp only [V_cloneE,tn,w64]
  simp only [std,eq_self,implies_true,Bool.cond_self]
  intro b hb
  refine ⟨fun h=>?_,fun _=>?_⟩
  · have:=hb h
    subst this
    exact ⟨rfl,rfl,fun i hi=>absurd hi (by omega)⟩
  · omega
structure X_find where
  (n:Nat) (t:Nat→Ent4) (sp pg:Int)
def s_find:Sy.Spec:=⟨X_find,fun ⟨n,t,sp,pg⟩=> [.sl true 4 n (rF fun i=>enL (t i)),.v (.int .i64 sp),.v (.int .i64 pg)],fun _=> [],fun _=>True,fun ⟨n,t,sp,pg⟩=> .tp 2 (lsv [.ag 4 (lsv (enL (fdE n t sp pg))),.v (.bool (fdO n t sp pg))]),fun _=> [],
  fun args mem=>match args with| [a0,a1,a2]=>some ⟨slN a0,fun i=>enBD (fun j=>slF a0 i j),intD (a1),intD (a2)⟩|_=>none⟩
def c_find:Con:=⟨[],s_find.g,none⟩
def V_find:X_find→Prop:=fun ⟨n,t,sp,pg⟩=>let a0:=idxB n (fun b0:Nat=>fdB sp pg (t b0));let c0:=decide (a0<0);let d0:=tn 3 True;let e0:=fdE n t sp pg;let g0:=e0.sp;let h0:=e0.pg;let k0:=e0.fr;let l0:=e0.wr;let o0:=fdO n t sp pg;let q0:=t (Int.toNat a0);tn 3 ((((n=n∧(∀r0:Nat,r0<n→(((True∧(t r0).sp=(t r0).sp)∧(t r0).pg=(t r0).pg)∧(t r0).fr=(t r0).fr)∧(t r0).wr=(t r0).wr))∧(tn 2 (sp=sp)∧True∧pg=pg)∧True)∧True∧True)∧(c0=true→d0∧((True∧(((True∧0=g0)∧0=h0)∧0=k0)∧false=l0)∧false=o0)∧True)∧(c0=false→(0≤a0∧a0<(n:Int))∧d0∧((True∧(((True∧q0.sp=g0)∧q0.pg=h0)∧q0.fr=k0)∧q0.wr=l0)∧true=o0)∧True))
theorem ok_find:FnOK Tryz.prog glN 206 c_find:=ok_of (.cons ok_idxF .nil) false Tryz.call206 Tryz.func206 (fun _=> []) (V:=V_find) (fun _=>by kernel_rfl) fun ⟨n,t,sp,pg⟩ hp=>by
  dsimp only [V_find,tn,w64]
  simp only [std,eq_self,implies_true,Bool.cond_self]
  have key: ∀b,fdO n t sp pg=b→(b=true∧(idxB n fun i=>fdB sp pg (t i))=(fstB n fun i=>fdB sp pg (t i):Nat)∧(fstB n fun i=>fdB sp pg (t i))<n∧fdE n t sp pg=t (fstB n fun i=>fdB sp pg (t i)))∨(b=false∧(idxB n fun i=>fdB sp pg (t i))= -1∧fdE n t sp pg=zEn):=by
    intro b h
    have h':Nat.blt (fstB n fun i=>fdB sp pg (t i)) n=b:=h
    cases b with
    |true=>left;exact ⟨rfl,by unfold idxB;rw [h'];rfl,Nat.le_of_ble_eq_true h',by unfold fdE;rw [h'];rfl⟩
    |false=>right;exact ⟨rfl,by unfold idxB;rw [h'];rfl,by unfold fdE;rw [h'];rfl⟩
  rcases key _ rfl with ⟨h1,h2,h3,h4⟩|⟨h1,h2,h4⟩
  · rw [h1,h2,h4]
    refine ⟨fun h=>by simp at h;omega,fun _=>⟨by omega,?_,rfl⟩⟩
    rw [Int.toNat_natCast]
    exact ⟨⟨⟨rfl,rfl⟩,rfl⟩,rfl⟩
  · rw [h1,h2,h4]
    exact ⟨fun _=>⟨⟨⟨⟨rfl,rfl⟩,rfl⟩,rfl⟩,rfl⟩,fun h=>by simp at h⟩
end Go.Proofs.YtdjilaofmdhikaaGreatDoor
set_option linter.unusedVariables false
set_option linter.unusedSimpArgs false
set_option maxRecDepth 100000
namespace Go.Proofs.YtdjilaofmdhikaaGreatDoor
open Go.RowKit Go.Sy
def cpN (f:Nat→Nat) (i j:Nat):Nat:=bif Nat.blt j i then f j else 0
theorem cpN_lt {f:Nat→Nat} {i j:Nat} (h:j<i):cpN f i j=f j:=by unfold cpN;rw [blt_t h];rfl
theorem cpN_ge {f:Nat→Nat} {i j:Nat} (h:i≤j):cpN f i j=0:=by unfold cpN;rw [blt_f h];rfl
theorem cpN_step {f:Nat→Nat} {i j:Nat}:(bif j.beq i then f i else cpN f i j)=cpN f (i+1) j:=by
  rcases Nat.lt_trichotomy j i with h|h|h
  · rw [beq_ne (by omega),cpN_lt h,cpN_lt (by omega:j<i+1)];rfl
  · subst h;rw [Nat.beq_refl,cpN_lt (Nat.lt_succ_self _)];rfl
  · rw [beq_ne (by omega),cpN_ge (by omega),cpN_ge (by omega:i+1≤j)];rfl
theorem beq_at {α:Type} {f:Nat→α} {i j:Nat}:(bif j.beq i then f i else f j)=f j:=by
  rcases Decidable.em (j=i) with h|h
  · subst h;cases j.beq j<;>rfl
  · rw [beq_ne h];rfl
theorem ent4b {c:Bool} {f:Nat→Ent4} {i j:Nat} (h:c=j.beq i):(((bif c then (f i).sp else (f j).sp)=(f j).sp∧(bif c then (f i).pg else (f j).pg)=(f j).pg)∧(bif c then (f i).fr else (f j).fr)=(f j).fr)∧(bif c then (f i).wr else (f j).wr)=(f j).wr:=by
  subst h
  exact ⟨⟨⟨beq_at (f:=fun x=>(f x).sp),beq_at (f:=fun x=>(f x).pg)⟩,beq_at (f:=fun x=>(f x).fr)⟩,beq_at (f:=fun x=>(f x).wr)⟩
def an_cpA (a b:Nat) (n:Nat) (ln:Nat→Nat) (l:Nat→Nat→Int):Ann where
  σ:=Nat
  rt:= [(a,1)]
  sh i:= [(a,.slc 0 0 none 0 n),(b,.v (.int .i64 i))]
  mh i:= [(0,.row 1 n fun j _=> .il 1 (cpN ln i j) (iF (l j)))]
  inv i:=i≤n
  μ i:=n -i
  init:=0
def an_cpE (a b:Nat) (n:Nat) (ln:Nat→Nat) (l:Nat→Nat→Ent4):Ann where
  σ:=Nat
  rt:= [(a,1)]
  sh i:= [(a,.slc 0 0 none 0 n),(b,.v (.int .i64 i))]
  mh i:= [(0,.row 1 n fun j _=> .il 4 (cpN ln i j) (rF fun k=>enL (l j k)))]
  inv i:=i≤n
  μ i:=n -i
  init:=0
def an_cpW (W:Wd):Ann where
  σ:=Nat
  rt:= [(1,0),(2,0),(3,0)]
  sh i:= [(1,pt0 0),(2,pt0 1),(3,pt0 2),(4,.v (.int .i64 i))]
  mh i:= [(11,.row 1 W.nTlbs fun j _=> .il 4 (cpN W.tlbsN i j) (rF fun k=>enL (W.tlbs j k)))]
  inv i:=i≤W.nTlbs
  μ i:=W.nTlbs -i
  init:=0
structure Lg (W:Wd):Prop where
  ram:W.nRam≤1000
  kinds:W.nKinds≤1000
  slots:W.nSlots≤1000
  tasks:W.nTasks≤1000
  lines:W.nLines≤1000
  bits:W.nBits≤1000
  cores:W.nCores≤1000
  ready:W.nReady≤1000
  tlbs:W.nTlbs≤1000
  doms:W.nDoms≤1000
  linesN: ∀i,i<W.nLines→W.linesN i≤1000
  readyN: ∀i,i<W.nReady→W.readyN i≤1000
  tlbsN: ∀i,i<W.nTlbs→W.tlbsN i≤1000
structure X_cloneI where
  (n:Nat) (l:Nat→Int)
def s_cloneI:Sy.Spec:=⟨X_cloneI,fun ⟨n,l⟩=> [.sl true 1 n (fun i_ _=> .v (.int .i64 (l i_)))],fun _=> [],fun ⟨n,_⟩=>n≤100000,fun ⟨n,_⟩=> .slc 0 0 none 0 n,fun ⟨n,l⟩=> [.row 1 n (iF l)],
  fun args mem=>match args with| [a0]=>some ⟨slN a0,fun i=>intD (slF a0 i 0)⟩|_=>none⟩
def c_cloneI:Con:=⟨[],s_cloneI.g,none⟩
def V_cloneI:X_cloneI→Prop:=fun ⟨n,l⟩=> ∀a0:Bool,(a0=true→n=0)→(a0=true→(0=0∧0=n)∧(0=n∧(∀b0:Nat,b0<n→True∧SV.junk=SV.v (Value.int IntKind.i64 (l b0))))∧True)∧(a0=false→True∧(n*8≤140737488355328∧(∀c0:Nat,true=true))∧(0=0∧n=n)∧(n=n∧(∀d0:Nat,d0<n→True∧l d0=l d0))∧True)
theorem ok_cloneI:FnOK Tryz.prog glN 146 c_cloneI:=ok_of .nil false Tryz.call146 Tryz.func146 (fun _=> []) (V:=V_cloneI) (fun _=>by kernel_rfl) fun ⟨n,l⟩ hp=>by
  dsimp only [s_cloneI] at hp
  dsimp only [V_cloneI,tn,w64]
  simp only [std,eq_self,implies_true,Bool.cond_self]
  intro b hb
  refine ⟨fun h=>?_,fun _=>?_⟩
  · have:=hb h
    subst this
    exact ⟨rfl,rfl,fun i hi=>absurd hi (by omega)⟩
  · omega
structure X_cloneS where
  (n:Nat) (l:Nat→Slt)
def s_cloneS:Sy.Spec:=⟨X_cloneS,fun ⟨n,l⟩=> [.sl true 7 n (rF fun i=>slL (l i))],fun _=> [],fun ⟨n,_⟩=>n≤100000,fun ⟨n,_⟩=> .slc 0 0 none 0 n,fun ⟨n,l⟩=> [.row 7 n (rF fun i=>slL (l i))],
  fun args mem=>match args with| [a0]=>some ⟨slN a0,fun i=>slBD (fun j=>slF a0 i j)⟩|_=>none⟩
def c_cloneS:Con:=⟨[],s_cloneS.g,none⟩
def V_cloneS:X_cloneS→Prop:=fun ⟨n,l⟩=> ∀a0:Bool,(a0=true→n=0)→(a0=true→(0=0∧0=n)∧(0=n∧(∀b0:Nat,let c0:=l b0;b0<n→((((((True∧SV.junk=SV.v (Value.int IntKind.i64 c0.kind))∧SV.junk=SV.v (Value.int IntKind.i64 c0.base))∧SV.junk=SV.v (Value.int IntKind.i64 c0.len))∧SV.junk=SV.v (Value.int IntKind.i64 c0.mark))∧SV.junk=SV.v (Value.int IntKind.i64 c0.rights))∧SV.junk=SV.v (Value.int IntKind.i64 c0.badge))∧SV.junk=SV.v (Value.int IntKind.i64 c0.from_)))∧True)∧(a0=false→True∧(n*56≤140737488355328∧(∀d0:Nat,true=true))∧(0=0∧n=n)∧(n=n∧(∀e0:Nat,let g0:=l e0;e0<n→((((((True∧g0.kind=g0.kind)∧g0.base=g0.base)∧g0.len=g0.len)∧g0.mark=g0.mark)∧g0.rights=g0.rights)∧g0.badge=g0.badge)∧g0.from_=g0.from_))∧True)
theorem ok_cloneS:FnOK Tryz.prog glN 163 c_cloneS:=ok_of .nil false Tryz.call163 Tryz.func163 (fun _=> []) (V:=V_cloneS) (fun _=>by kernel_rfl) fun ⟨n,l⟩ hp=>by
  dsimp only [s_cloneS] at hp
  dsimp only [V_cloneS,tn,w64]
  simp only [std,eq_self,implies_true,Bool.cond_self]
  intro b hb
  refine ⟨fun h=>?_,fun _=>?_⟩
  · have:=hb h
    subst this
    exact ⟨rfl,rfl,fun i hi=>absurd hi (by omega)⟩
  · omega
structure X_cloneR where
  (n:Nat) (l:Nat→Run)
def s_cloneR:Sy.Spec:=⟨X_cloneR,fun ⟨n,l⟩=> [.sl true 20 n (rF fun i=>runL (l i))],fun _=> [],fun ⟨n,_⟩=>n≤100000,fun ⟨n,_⟩=> .slc 0 0 none 0 n,fun ⟨n,l⟩=> [.row 20 n (rF fun i=>runL (l i))],
  fun args mem=>match args with| [a0]=>some ⟨slN a0,fun i=>runBD (fun j=>slF a0 i j)⟩|_=>none⟩
def c_cloneR:Con:=⟨[],s_cloneR.g,none⟩
def V_cloneR:X_cloneR→Prop:=fun ⟨n,l⟩=> ∀a0:Bool,(a0=true→n=0)→(a0=true→(0=0∧0=n)∧(0=n∧(∀b0:Nat,let c0:=l b0;b0<n→(((((((((((((((((((True∧SV.junk=SV.v (Value.int IntKind.i64 c0.r0))∧SV.junk=SV.v (Value.int IntKind.i64 c0.r1))∧SV.junk=SV.v (Value.int IntKind.i64 c0.r2))∧SV.junk=SV.v (Value.int IntKind.i64 c0.r3))∧SV.junk=SV.v (Value.int IntKind.i64 c0.r4))∧SV.junk=SV.v (Value.int IntKind.i64 c0.r5))∧SV.junk=SV.v (Value.int IntKind.i64 c0.r6))∧SV.junk=SV.v (Value.int IntKind.i64 c0.r7))∧SV.junk=SV.v (Value.int IntKind.i64 c0.pc))∧SV.junk=SV.v (Value.int IntKind.i64 c0.st))∧SV.junk=SV.v (Value.int IntKind.i64 c0.prio))∧SV.junk=SV.v (Value.int IntKind.i64 c0.node))∧SV.junk=SV.v (Value.int IntKind.i64 c0.space))∧SV.junk=SV.v (Value.int IntKind.i64 c0.helper))∧SV.junk=SV.v (Value.int IntKind.i64 c0.loc))∧SV.junk=SV.v (Value.int IntKind.i64 c0.word))∧SV.junk=SV.v (Value.int IntKind.i64 c0.badge))∧SV.junk=SV.v (Value.int IntKind.i64 c0.owes))∧SV.junk=SV.v (Value.int IntKind.i64 c0.core))∧SV.junk=SV.v (Value.int IntKind.i64 c0.dom)))∧True)∧(a0=false→True∧(n*160≤140737488355328∧(∀d0:Nat,true=true))∧(0=0∧n=n)∧(n=n∧(∀e0:Nat,let g0:=l e0;e0<n→(((((((((((((((((((True∧g0.r0=g0.r0)∧g0.r1=g0.r1)∧g0.r2=g0.r2)∧g0.r3=g0.r3)∧g0.r4=g0.r4)∧g0.r5=g0.r5)∧g0.r6=g0.r6)∧g0.r7=g0.r7)∧g0.pc=g0.pc)∧g0.st=g0.st)∧g0.prio=g0.prio)∧g0.node=g0.node)∧g0.space=g0.space)∧g0.helper=g0.helper)∧g0.loc=g0.loc)∧g0.word=g0.word)∧g0.badge=g0.badge)∧g0.owes=g0.owes)∧g0.core=g0.core)∧g0.dom=g0.dom))∧True)
theorem ok_cloneR:FnOK Tryz.prog glN 164 c_cloneR:=ok_of .nil false Tryz.call164 Tryz.func164 (fun _=> []) (V:=V_cloneR) (fun _=>by kernel_rfl) fun ⟨n,l⟩ hp=>by
  dsimp only [s_cloneR] at hp
  dsimp only [V_cloneR,tn,w64]
  simp only [std,eq_self,implies_true,Bool.cond_self]
  intro b hb
  refine ⟨fun h=>?_,fun _=>?_⟩
  · have:=hb h
    subst this
    exact ⟨rfl,rfl,fun i hi=>absurd hi (by omega)⟩
  · omega
structure X_deepI where
  (n:Nat) (ln:Nat→Nat) (l:Nat→Nat→Int)
def s_deepI:Sy.Spec:=⟨X_deepI,fun ⟨n,ln,l⟩=> [.sl true 1 n (fun i _=> .sl true 1 (ln i) (iF (l i)))],fun _=> [],fun ⟨n,ln,_⟩=>n≤1000∧ ∀i,i<n→ln i≤1000,fun ⟨n,_,_⟩=> .slc 0 0 none 0 n,fun ⟨n,ln,l⟩=> [.row 1 n fun i _=> .il 1 (ln i) (iF (l i))],
  fun args mem=>match args with| [a0]=>some ⟨slN a0,fun i=>slN (slF a0 i 0),fun i k=>intD (slF (slF a0 i 0) k 0)⟩|_=>none⟩
def c_deepI:Con:=⟨[],s_deepI.g,none⟩
def V_deepI:X_deepI→Prop:=fun ⟨n,ln,l⟩=>let a0:=(n:Int);let b0:=Int.toNat a0=n;let c0:=0=0∧n=n;a0≤9223372036854775807→(0≤a0∧a0≤a0∧((24:Nat):Int)*a0≤140737488355328)∧(a0≤9223372036854775807→(0=0∧b0)∧0=((0:Nat):Int)∧((b0∧(∀d0:Nat,d0<n→True∧0=cpN ln 0 d0∧(∀e0:Nat,e0<cpN ln 0 d0→True∧SV.junk=SV.v (Value.int IntKind.i64 (l d0 e0)))))∧True)∧0≤n∧(∀g0:Nat,let h0:=(g0:Int);let k0:=decide (h0<a0);let l0:=0≤h0∧h0<a0;let o0:=Int.toNat h0;let q0:=ln o0;let r0:Int:=h0+1;let u0:=0+o0;g0≤n→(k0=true→l0∧(((q0=q0∧(∀v0:Nat,v0<q0→True∧l o0 v0=l o0 v0))∧True)∧True∧s_cloneI.match_1 (fun w0:X_cloneI=>Prop) (X_cloneI.mk q0 (l o0)) (fun x0:Nat=>fun y0:∀z0:Nat,Int=>x0≤100000))∧l0∧(∀a1:Nat,Nat.beq 1 1=true)∧w64 r0=r0∧(∃b1:Nat,c0∧r0=(b1:Int)∧((n=n∧(∀c1:Nat,c1<n→True∧cond (Nat.beq c1 u0) q0 (cpN ln g0 c1)=cpN ln b1 c1∧(∀d1:Nat,d1<cpN ln b1 c1→True∧cond (Nat.beq c1 u0) (l o0 d1) (l c1 d1)=l c1 d1)))∧True)∧b1≤n∧n-b1<n-g0))∧(k0=false→c0∧(n=n∧(∀e1:Nat,e1<n→True∧cpN ln g0 e1=ln e1∧(∀g1:Nat,g1<ln e1→True∧l e1 g1=l e1 g1)))∧True)))
theorem ok_deepI:FnOK Tryz.prog glN 165 c_deepI:=ok_of (.cons ok_cloneI .nil) false Tryz.call165 Tryz.func165 (fun ⟨n,ln,l⟩=> [.inv (an_cpA 3 11 n ln l)]) (V:=V_deepI) (fun _=>by kernel_rfl) fun ⟨n,ln,l⟩ hp=>by
  dsimp only [s_deepI] at hp
  dsimp only [V_deepI,tn,w64]
  simp only [std,stb,eq_self,implies_true,Bool.cond_self]
  refine fun _=>⟨by omega,fun _=>⟨fun j hj=>⟨(cpN_ge (Nat.zero_le _)).symm,fun k hk=>by rw [cpN_ge (Nat.zero_le _)] at hk;exact absurd hk (Nat.not_lt_zero _)⟩,fun s hs=>⟨fun h=>?_,fun h=>?_⟩⟩⟩
  · have hlt:=lt_of_dec h
    have:=hp.2 s hlt
    exact ⟨by omega,by omega,by omega,fun _=>rfl,wr_in (by omega) (by omega),s+1,by omega,fun j hj=>⟨cpN_step,fun k hk=>beq_at (f:=fun x=>l x k)⟩,by omega,by omega⟩
  · have hge:=ge_of_dec h
    exact fun j hj=>cpN_lt (by omega)
structure X_deepE where
  (n:Nat) (ln:Nat→Nat) (l:Nat→Nat→Ent4)
def s_deepE:Sy.Spec:=⟨X_deepE,fun ⟨n,ln,l⟩=> [.sl true 1 n (fun i _=> .sl true 4 (ln i) (rF fun k=>enL (l i k)))],fun _=> [],fun ⟨n,ln,_⟩=>n≤1000∧ ∀i,i<n→ln i≤1000,fun ⟨n,_,_⟩=> .slc 0 0 none 0 n,fun ⟨n,ln,l⟩=> [.row 1 n fun i _=> .il 4 (ln i) (rF fun k=>enL (l i k))],
  fun args mem=>match args with| [a0]=>some ⟨slN a0,fun i=>slN (slF a0 i 0),fun i k=>enBD (fun j=>slF (slF a0 i 0) k j)⟩|_=>none⟩
def c_deepE:Con:=⟨[],s_deepE.g,none⟩
def V_deepE:X_deepE→Prop:=fun ⟨n,ln,l⟩=>let a0:=(n:Int);let b0:=Int.toNat a0=n;let c0:=0=0∧n=n;a0≤9223372036854775807→(0≤a0∧a0≤a0∧((24:Nat):Int)*a0≤140737488355328)∧(a0≤9223372036854775807→(0=0∧b0)∧0=((0:Nat):Int)∧((b0∧(∀d0:Nat,d0<n→True∧0=cpN ln 0 d0∧(∀e0:Nat,let g0:=l d0 e0;e0<cpN ln 0 d0→(((True∧SV.junk=SV.v (Value.int IntKind.i64 g0.sp))∧SV.junk=SV.v (Value.int IntKind.i64 g0.pg))∧SV.junk=SV.v (Value.int IntKind.i64 g0.fr))∧SV.junk=SV.v (Value.bool g0.wr))))∧True)∧0≤n∧(∀h0:Nat,let k0:=(h0:Int);let l0:=decide (k0<a0);let o0:=0≤k0∧k0<a0;let q0:=Int.toNat k0;let r0:=ln q0;let u0:Int:=k0+1;let v0:=0+q0;h0≤n→(l0=true→o0∧(((r0=r0∧(∀w0:Nat,let x0:=l q0 w0;w0<r0→(((True∧x0.sp=x0.sp)∧x0.pg=x0.pg)∧x0.fr=x0.fr)∧x0.wr=x0.wr))∧True)∧True∧s_cloneE.match_1 (fun y0:X_cloneE=>Prop) (X_cloneE.mk r0 (l q0)) (fun z0:Nat=>fun a1:∀b1:Nat,Ent4=>z0≤100000))∧o0∧(∀c1:Nat,Nat.beq 4 4=true)∧w64 u0=u0∧(∃d1:Nat,c0∧u0=(d1:Int)∧((n=n∧(∀e1:Nat,let g1:=Nat.beq e1 v0;e1<n→True∧cond g1 r0 (cpN ln h0 e1)=cpN ln d1 e1∧(∀h1:Nat,let k1:=l q0 h1;let l1:=l e1 h1;h1<cpN ln d1 e1→(((True∧cond g1 k1.sp l1.sp=l1.sp)∧cond g1 k1.pg l1.pg=l1.pg)∧cond g1 k1.fr l1.fr=l1.fr)∧cond g1 k1.wr l1.wr=l1.wr)))∧True)∧d1≤n∧n-d1<n-h0))∧(l0=false→c0∧(n=n∧(∀o1:Nat,o1<n→True∧cpN ln h0 o1=ln o1∧(∀q1:Nat,let r1:=l o1 q1;q1<ln o1→(((True∧r1.sp=r1.sp)∧r1.pg=r1.pg)∧r1.fr=r1.fr)∧r1.wr=r1.wr)))∧True)))
theorem ok_deepE:FnOK Tryz.prog glN 166 c_deepE:=ok_of (.cons ok_cloneE .nil) false Tryz.call166 Tryz.func166 (fun ⟨n,ln,l⟩=> [.inv (an_cpE 3 11 n ln l)]) (V:=V_deepE) (fun _=>by kernel_rfl) fun ⟨n,ln,l⟩ hp=>by
  dsimp only [s_deepE] at hp
  dsimp only [V_deepE,tn,w64]
  simp only [std,stb,eq_self,implies_true,Bool.cond_self]
  refine fun _=>⟨by omega,fun _=>⟨fun j hj=>⟨(cpN_ge (Nat.zero_le _)).symm,fun k hk=>by rw [cpN_ge (Nat.zero_le _)] at hk;exact absurd hk (Nat.not_lt_zero _)⟩,fun s hs=>⟨fun h=>?_,fun h=>?_⟩⟩⟩
  · have hlt:=lt_of_dec h
    have:=hp.2 s hlt
    exact ⟨by omega,by omega,by omega,fun _=>rfl,wr_in (by omega) (by omega),s+1,by omega,fun j hj=>⟨cpN_step,fun k hk=>ent4b (f:=fun x=>l x k) rfl⟩,by omega,by omega⟩
  · have hge:=ge_of_dec h
    exact fun j hj=>cpN_lt (by omega)
structure X_copyAll where
  (n:Nat) (ln:Nat→Nat) (l:Nat→Nat→Int)
def s_copyAll:Sy.Spec:=⟨X_copyAll,fun ⟨n,ln,l⟩=> [.sl true 1 n (fun i _=> .sl true 1 (ln i) (iF (l i)))],fun _=> [],fun ⟨n,ln,_⟩=>n≤1000∧ ∀i,i<n→ln i≤1000,fun ⟨n,_,_⟩=> .slc 0 0 none 0 n,fun ⟨n,ln,l⟩=> [.row 1 n fun i _=> .il 1 (ln i) (iF (l i))],
  fun args mem=>match args with| [a0]=>some ⟨slN a0,fun i=>slN (slF a0 i 0),fun i k=>intD (slF (slF a0 i 0) k 0)⟩|_=>none⟩
def c_copyAll:Con:=⟨[],s_copyAll.g,none⟩
def V_copyAll:X_copyAll→Prop:=fun ⟨n,ln,l⟩=>let a0:=(n:Int);let b0:=Int.toNat a0=n;let c0:=0=0∧n=n;a0≤9223372036854775807→(0≤a0∧a0≤a0∧((24:Nat):Int)*a0≤140737488355328)∧(0=0∧b0)∧0=((0:Nat):Int)∧((b0∧(∀d0:Nat,d0<n→True∧0=cpN ln 0 d0∧(∀e0:Nat,e0<cpN ln 0 d0→True∧SV.junk=SV.v (Value.int IntKind.i64 (l d0 e0)))))∧True)∧0≤n∧(∀g0:Nat,let h0:=(g0:Int);let k0:=decide (h0<a0);let l0:=0≤h0∧h0<a0;let o0:=Int.toNat h0;let q0:=ln o0;let r0:Int:=h0+1;let u0:=0+o0;g0≤n→a0≤9223372036854775807→(k0=true→True∧l0∧(q0*8≤140737488355328∧(∀v0:Nat,true=true))∧l0∧(∀w0:Nat,Nat.beq 1 1=true)∧w64 r0=r0∧(∃x0:Nat,c0∧r0=(x0:Int)∧((n=n∧(∀y0:Nat,y0<n→True∧cond (Nat.beq y0 u0) q0 (cpN ln g0 y0)=cpN ln x0 y0∧(∀z0:Nat,z0<cpN ln x0 y0→True∧cond (Nat.beq y0 u0) (l o0 z0) (l y0 z0)=l y0 z0)))∧True)∧x0≤n∧n-x0<n-g0))∧(k0=false→c0∧(n=n∧(∀a1:Nat,a1<n→True∧cpN ln g0 a1=ln a1∧(∀b1:Nat,b1<ln a1→True∧l a1 b1=l a1 b1)))∧True))
theorem ok_copyAll:FnOK Tryz.prog glN 130 c_copyAll:=ok_of .nil false Tryz.call130 Tryz.func130 (fun ⟨n,ln,l⟩=> [.inv (an_cpA 3 4 n ln l)]) (V:=V_copyAll) (fun _=>by kernel_rfl) fun ⟨n,ln,l⟩ hp=>by
  dsimp only [s_copyAll] at hp
  dsimp only [V_copyAll,tn,w64]
  simp only [std,stb,eq_self,implies_true,Bool.cond_self]
  refine fun _=>⟨by omega,⟨fun j hj=>⟨(cpN_ge (Nat.zero_le _)).symm,fun k hk=>by rw [cpN_ge (Nat.zero_le _)] at hk;exact absurd hk (Nat.not_lt_zero _)⟩,fun s hs _=>⟨fun h=>?_,fun h=>?_⟩⟩⟩
  · have hlt:=lt_of_dec h
    have:=hp.2 s hlt
    exact ⟨by omega,by omega,by omega,fun _=>rfl,wr_in (by omega) (by omega),s+1,by omega,fun j hj=>⟨cpN_step,fun k hk=>beq_at (f:=fun x=>l x k)⟩,by omega,by omega⟩
  · have hge:=ge_of_dec h
    exact fun j hj=>cpN_lt (by omega)
structure X_copyW where
  (W:Wd)
def s_copyW:Sy.Spec:=⟨X_copyW,fun ⟨W⟩=> [wSV W],fun _=> [],fun ⟨W⟩=>Lg W,fun ⟨W⟩=>wAG 0 W,fun ⟨W⟩=>wRows W,
  fun args mem=>match args with| [a0]=>some ⟨wSVD a0⟩|_=>none⟩
def c_copyW:Con:=⟨[],s_copyW.g,none⟩
def V_copyW:X_copyW→Prop:=fun ⟨W⟩=>let a0:=tn 10 True;let b0:=W.nRam;let c0:=true=true;let d0:=W.nKinds;let e0:=W.nSlots;let g0:=W.nTasks;let h0:=W.nLines;let k0:=h0=h0;let l0:=k0∧(∀o0:Nat,let q0:=W.linesN o0;o0<h0→True∧q0=q0∧(∀u0:Nat,u0<q0→True∧W.lines o0 u0=W.lines o0 u0));let v0:=W.nBits;let w0:=W.nCores;let x0:=W.nReady;let y0:=x0=x0;let z0:=y0∧(∀a1:Nat,let b1:=W.readyN a1;a1<x0→True∧b1=b1∧(∀c1:Nat,c1<b1→True∧W.ready a1 c1=W.ready a1 c1));let d1:=W.nTlbs;let e1:=(d1:Int);let g1:=e1≤9223372036854775807;let h1:=SV.ptr 0 0 none 0 0=SV.ptr 0 0 none 0 0;let k1:=SV.ptr (0+1) 0 none 0 0=SV.ptr 1 0 none 0 0;let l1:=SV.ptr (0+1+1) 0 none 0 0=SV.ptr 2 0 none 0 0;let o1:=b0=b0;let q1:=o1∧(∀u1:Nat,u1<b0→True∧W.ram u1=W.ram u1);let v1:=d0=d0;let w1:=v1∧(∀x1:Nat,x1<d0→True∧W.kinds x1=W.kinds x1);let y1:=e0=e0;let z1:=y1∧(∀a2:Nat,let b2:=W.slots a2;let c2:=b2.kind;let d2:=b2.base;let e2:=b2.len;let g2:=b2.mark;let h2:=b2.rights;let k2:=b2.badge;let l2:=b2.from_;a2<e0→((((((True∧c2=c2)∧d2=d2)∧e2=e2)∧g2=g2)∧h2=h2)∧k2=k2)∧l2=l2);let o2:=g0=g0;let q2:=o2∧(∀u2:Nat,let v2:=W.tasks u2;let w2:=v2.prio;let x2:=v2.node;let y2:=v2.space;let z2:=v2.helper;let a3:=v2.loc;let b3:=v2.word;let c3:=v2.badge;let d3:=v2.owes;let e3:=v2.core;let g3:=v2.dom;u2<g0→(((((((((((((((((((True∧v2.r0=v2.r0)∧v2.r1=v2.r1)∧v2.r2=v2.r2)∧v2.r3=v2.r3)∧v2.r4=v2.r4)∧v2.r5=v2.r5)∧v2.r6=v2.r6)∧v2.r7=v2.r7)∧v2.pc=v2.pc)∧v2.st=v2.st)∧w2=w2)∧x2=x2)∧y2=y2)∧z2=z2)∧a3=a3)∧b3=b3)∧c3=c3)∧d3=d3)∧e3=e3)∧g3=g3);let h3:=v0=v0;
    let k3:=h3∧(∀l3:Nat,l3<v0→True∧W.bits l3=W.bits l3);let o3:=w0=w0;let q3:=o3∧(∀u3:Nat,u3<w0→True∧W.cores u3=W.cores u3);let v3:=d1=d1;let w3:=W.nDoms;let x3:=w3=w3;let y3:=x3∧(∀z3:Nat,z3<w3→True∧W.doms z3=W.doms z3);let a4:=W.time=W.time;let b4:=((((((((((True∧q1)∧w1)∧z1)∧q2)∧l0)∧k3)∧q3)∧z0)∧v3∧(∀c4:Nat,let d4:=W.tlbsN c4;c4<d1→True∧d4=d4∧(∀e4:Nat,let g4:=W.tlbs c4 e4;let h4:=g4.sp;let k4:=g4.pg;let l4:=g4.fr;let o4:=g4.wr;e4<d4→(((True∧h4=h4)∧k4=k4)∧l4=l4)∧o4=o4)))∧y3)∧a4;let q4:=Value.slice none 0 0=Value.slice none 0 0;let u4:=((((((((((True∧q4)∧q4)∧q4)∧q4)∧q4)∧q4)∧q4)∧q4)∧q4)∧q4)∧(0:Int)=0;let v4:=0=0;let w4:=Int.toNat e1;let x4:=((((((((((True∧v4∧o1)∧v4∧v1)∧v4∧y1)∧v4∧o2)∧v4∧k0)∧v4∧h3)∧v4∧o3)∧v4∧y0)∧v4∧w4=w4)∧y3)∧a4;let y4:=w4=d1;let z4:=W.tlbsN;let a5:=0=0;tn 3 (a0∧True∧(b0*8≤140737488355328∧(∀b5:Nat,c0))∧tn 2 ((d0*8≤140737488355328∧(∀c5:Nat,c0))∧tn 2 ((e0*56≤140737488355328∧(∀d5:Nat,c0))∧tn 2 ((g0*160≤140737488355328∧(∀e5:Nat,c0))∧True∧((l0∧True)∧True∧h0≤1000∧(∀g5:Nat,g5<h0→W.linesN g5≤1000))∧tn 2 ((v0*8≤140737488355328∧(∀h5:Nat,c0))∧tn 2 ((w0*8≤140737488355328∧(∀k5:Nat,c0))∧True∧((z0∧True)∧True∧x0≤1000∧(∀l5:Nat,l5<x0→W.readyN l5≤1000))∧True∧(g1→(0≤e1∧e1≤e1∧((24:Nat):Int)*e1≤140737488355328)∧True∧h1∧k1∧l1∧0=((0:Nat):Int)∧(b4∧u4∧x4∧q1∧w1∧z1∧q2∧l0∧k3∧q3∧z0∧(y4∧(∀o5:Nat,o5<d1→True∧0=cpN z4 0 o5∧(∀q5:Nat,let u5:=W.tlbs o5 q5;q5<cpN z4 0 o5→(((True∧SV.junk=SV.v (Value.int IntKind.i64 u5.sp))∧SV.junk=SV.v (Value.int IntKind.i64 u5.pg))∧
    SV.junk=SV.v (Value.int IntKind.i64 u5.fr))∧SV.junk=SV.v (Value.bool u5.wr))))∧True)∧0≤d1∧(∀v5:Nat,let w5:=(v5:Int);let x5:=decide (w5<e1);let y5:=Int.toNat w5;let z5:=z4 y5;let a6:Int:=w5+1;let b6:=0+y5;v5≤d1→g1→(x5=true→tn 7 ((0≤w5∧w5<e1)∧True∧(z5*32≤140737488355328∧(∀c6:Nat,c0))∧(0≤w5∧w5<(w4:Int))∧(∀d6:Nat,Nat.beq 4 4=true)∧w64 a6=a6∧(∃e6:Nat,h1∧k1∧l1∧a6=(e6:Int)∧(b4∧u4∧x4∧q1∧w1∧z1∧q2∧l0∧k3∧q3∧z0∧(v3∧(∀g6:Nat,let h6:=Nat.beq g6 b6;g6<d1→True∧cond h6 z5 (cpN z4 v5 g6)=cpN z4 e6 g6∧(∀k6:Nat,let l6:=W.tlbs y5 k6;let o6:=W.tlbs g6 k6;let q6:=o6.sp;let u6:=o6.pg;let v6:=o6.fr;let w6:=o6.wr;k6<cpN z4 e6 g6→(((True∧cond h6 l6.sp q6=q6)∧cond h6 l6.pg u6=u6)∧cond h6 l6.fr v6=v6)∧cond h6 l6.wr w6=w6)))∧True)∧e6≤d1∧d1-e6<d1-v5)))∧(x5=false→True∧(w3*8≤140737488355328∧(∀x6:Nat,c0))∧True∧a0∧(((((((((((True∧a5∧o1)∧a5∧v1)∧a5∧y1)∧a5∧o2)∧a5∧k0)∧a5∧h3)∧a5∧o3)∧a5∧y0)∧a5∧y4)∧a5∧x3)∧a4)∧q1∧w1∧z1∧q2∧l0∧k3∧q3∧z0∧(v3∧(∀y6:Nat,y6<d1→True∧cpN z4 v5 y6=z4 y6∧(∀z6:Nat,let a7:=W.tlbs y6 z6;let b7:=a7.sp;let c7:=a7.pg;let d7:=a7.fr;let e7:=a7.wr;z6<z4 y6→(((True∧b7=b7)∧c7=c7)∧d7=d7)∧e7=e7)))∧y3∧True)))))))))
set_option maxHeartbeats 1000000 in
theorem ok_copyW:FnOK Tryz.prog glN 69 c_copyW:=ok_of (.cons ok_copyAll .nil) false Tryz.call69 Tryz.func69 (fun ⟨W⟩=> [.inv (an_cpW W)]) (V:=V_copyW) (fun _=>by kernel_rfl) fun ⟨W⟩ hp=>by
  dsimp only [s_copyW] at hp
  dsimp only [V_copyW,tn,w64]
  simp only [std,stb,eq_self,implies_true,Bool.cond_self]
  obtain ⟨h1,h2,h3,h4,h5,h6,h7,h8,h9,h10,h11,h12,h13⟩:=hp
  refine ⟨by omega,by omega,by omega,by omega,⟨h5,h11⟩,by omega,by omega,⟨h8,h12⟩,fun _=>⟨by omega,fun j hj=>⟨(cpN_ge (Nat.zero_le _)).symm,fun k hk=>by rw [cpN_ge (Nat.zero_le _)] at hk;exact absurd hk (Nat.not_lt_zero _)⟩,fun s hs _=>⟨fun h=>?_,fun h=>?_⟩⟩⟩
  · have hlt:=lt_of_dec h
    have:=h13 s hlt
    exact ⟨by omega,by omega,by omega,fun _=>rfl,wr_in (by omega) (by omega),s+1,by omega,fun j hj=>⟨cpN_step,fun k hk=>ent4b (f:=fun x=>W.tlbs x k) rfl⟩,by omega,by omega⟩
  · have hge:=ge_of_dec h
    exact ⟨by omega,fun j hj=>cpN_lt (by omega)⟩
structure X_cloneW where
  (W:Wd)
def s_cloneW:Sy.Spec:=⟨X_cloneW,fun ⟨W⟩=> [wSV W],fun _=> [],fun ⟨W⟩=>Lg W,fun ⟨W⟩=>wAG 0 W,fun ⟨W⟩=>wRows W,
  fun args mem=>match args with| [a0]=>some ⟨wSVD a0⟩|_=>none⟩
def c_cloneW:Con:=⟨[],s_cloneW.g,none⟩
def V_cloneW:X_cloneW→Prop:=fun ⟨W⟩=>let a0:=W.nRam;let b0:=a0=a0;let c0:=b0∧(∀d0:Nat,d0<a0→True∧W.ram d0=W.ram d0);let e0:=W.nKinds;let g0:=e0=e0;let h0:=g0∧(∀k0:Nat,k0<e0→True∧W.kinds k0=W.kinds k0);let l0:=W.nSlots;let o0:=l0=l0;let q0:=o0∧(∀u0:Nat,let v0:=W.slots u0;let w0:=v0.kind;let x0:=v0.base;let y0:=v0.len;let z0:=v0.mark;let a1:=v0.rights;let b1:=v0.badge;let c1:=v0.from_;u0<l0→((((((True∧w0=w0)∧x0=x0)∧y0=y0)∧z0=z0)∧a1=a1)∧b1=b1)∧c1=c1);let d1:=W.nTasks;let e1:=d1=d1;let g1:=e1∧(∀h1:Nat,let k1:=W.tasks h1;let l1:=k1.prio;let o1:=k1.node;let q1:=k1.space;let u1:=k1.helper;let v1:=k1.loc;let w1:=k1.word;let x1:=k1.badge;let y1:=k1.owes;let z1:=k1.core;let a2:=k1.dom;h1<d1→(((((((((((((((((((True∧k1.r0=k1.r0)∧k1.r1=k1.r1)∧k1.r2=k1.r2)∧k1.r3=k1.r3)∧k1.r4=k1.r4)∧k1.r5=k1.r5)∧k1.r6=k1.r6)∧k1.r7=k1.r7)∧k1.pc=k1.pc)∧k1.st=k1.st)∧l1=l1)∧o1=o1)∧q1=q1)∧u1=u1)∧v1=v1)∧w1=w1)∧x1=x1)∧y1=y1)∧z1=z1)∧a2=a2);let b2:=W.nBits;let c2:=b2=b2;let d2:=c2∧(∀e2:Nat,e2<b2→True∧W.bits e2=W.bits e2);let g2:=W.nCores;let h2:=g2=g2;let k2:=h2∧(∀l2:Nat,l2<g2→True∧W.cores l2=W.cores l2);let o2:=W.nDoms;let q2:=o2=o2;let u2:=(q2∧(∀v2:Nat,v2<o2→True∧W.doms v2=W.doms v2))∧True;let w2:=W.nLines;let x2:=w2=w2;let y2:=x2∧(∀z2:Nat,let a3:=W.linesN z2;z2<w2→True∧a3=a3∧(∀b3:Nat,b3<a3→True∧W.lines z2 b3=W.lines z2 b3));let c3:=W.nReady;let d3:=c3=c3;let e3:=d3∧(∀g3:Nat,let h3:=W.readyN g3;g3<c3→True∧h3=h3∧(∀k3:Nat,k3<h3→True∧W.ready g3 k3=W.ready g3 k3));let l3:=W.nTlbs;let o3:=l3=l3;
    let q3:=o3∧(∀u3:Nat,let v3:=W.tlbsN u3;u3<l3→True∧v3=v3∧(∀w3:Nat,let x3:=W.tlbs u3 w3;let y3:=x3.sp;let z3:=x3.pg;let a4:=x3.fr;let b4:=x3.wr;w3<v3→(((True∧y3=y3)∧z3=z3)∧a4=a4)∧b4=b4));let c4:=0=0;tn 4 (((c0∧True)∧True∧s_cloneI.match_1 (fun d4:X_cloneI=>Prop) (X_cloneI.mk a0 W.ram) (fun e4:Nat=>fun g4:∀h4:Nat,Int=>e4≤100000))∧tn 2 (((h0∧True)∧True∧s_cloneI.match_1 (fun k4:X_cloneI=>Prop) (X_cloneI.mk e0 W.kinds) (fun l4:Nat=>fun o4:∀q4:Nat,Int=>l4≤100000))∧tn 2 (((q0∧True)∧True∧s_cloneS.match_1 (fun u4:X_cloneS=>Prop) (X_cloneS.mk l0 W.slots) (fun v4:Nat=>fun w4:∀x4:Nat,Slt=>v4≤100000))∧tn 3 (((g1∧True)∧True∧s_cloneR.match_1 (fun y4:X_cloneR=>Prop) (X_cloneR.mk d1 W.tasks) (fun z4:Nat=>fun a5:∀b5:Nat,Run=>z4≤100000))∧tn 6 (((d2∧True)∧True∧s_cloneI.match_1 (fun c5:X_cloneI=>Prop) (X_cloneI.mk b2 W.bits) (fun d5:Nat=>fun e5:∀g5:Nat,Int=>d5≤100000))∧tn 2 (((k2∧True)∧True∧s_cloneI.match_1 (fun h5:X_cloneI=>Prop) (X_cloneI.mk g2 W.cores) (fun k5:Nat=>fun l5:∀o5:Nat,Int=>k5≤100000))∧tn 3 ((u2∧True∧s_cloneI.match_1 (fun q5:X_cloneI=>Prop) (X_cloneI.mk o2 W.doms) (fun u5:Nat=>fun v5:∀w5:Nat,Int=>u5≤100000))∧tn 5 (((y2∧True)∧True∧w2≤1000∧(∀x5:Nat,x5<w2→W.linesN x5≤1000))∧tn 3 (((e3∧True)∧True∧c3≤1000∧(∀y5:Nat,y5<c3→W.readyN y5≤1000))∧tn 2 (((q3∧True)∧True∧l3≤1000∧(∀z5:Nat,z5<l3→W.tlbsN z5≤1000))∧True∧tn 10 True∧(((((((((((True∧c4∧b0)∧c4∧g0)∧c4∧o0)∧c4∧e1)∧c4∧x2)∧c4∧c2)∧c4∧h2)∧c4∧d3)∧c4∧o3)∧c4∧q2)∧W.time=W.time)∧c0∧h0∧q0∧g1∧y2∧d2∧k2∧e3∧q3∧u2))))))))))
theorem ok_cloneW:FnOK Tryz.prog glN 126 c_cloneW:=ok_of (.cons ok_cloneI (.cons ok_cloneS (.cons ok_cloneR (.cons ok_deepI (.cons ok_deepE .nil))))) false Tryz.call126 Tryz.func126 (fun _=> []) (V:=V_cloneW) (fun _=>by kernel_rfl) fun ⟨W⟩ hp=>by
  dsimp only [s_cloneW] at hp
  dsimp only [V_cloneW,tn,w64]
  simp only [std,stb,eq_self,implies_true,Bool.cond_self]
  obtain ⟨h1,h2,h3,h4,h5,h6,h7,h8,h9,h10,h11,h12,h13⟩:=hp
  exact ⟨by omega,by omega,by omega,by omega,by omega,by omega,by omega,⟨h5,h11⟩,⟨h8,h12⟩,h9,h13⟩
end Go.Proofs.YtdjilaofmdhikaaGreatDoor
set_option linter.unusedVariables false
set_option linter.unusedSimpArgs false
set_option maxRecDepth 100000
namespace Go.Proofs.YtdjilaofmdhikaaGreatDoor
open Go.RowKit Go.Sy
def an_in (n:Nat) (l:Nat→Int) (x:Int):Ann where
  σ:=Nat
  rt:= []
  sh i:= [(5,.v (.int .i64 i))]
  mh _:= []
  inv i:=i≤n∧ ∀j,j<i→(l j==x)=false
  μ i:=n -i
  init:=0
def an_ho1 (n:Nat) (ln:Nat→Nat) (l:Nat→Nat→Int) (x:Int):Ann where
  σ:=Nat
  rt:= []
  sh i:= [(6,.v (.int .i64 i)),(5,.v (.int .i64 (cntLL i ln l x:Nat)))]
  mh _:= []
  inv i:=i≤n
  μ i:=n -i
  init:=0
def an_ho2 (ln:Nat→Nat) (l:Nat→Nat→Int) (x:Int) (i c:Int):Ann where
  σ:=Nat
  rt:= []
  sh k:= [(7,.v (.int .i64 k)),(5,.v (.int .i64 (c+(cntB k fun q=>l i.toNat q==x:Nat))))]
  mh _:= []
  inv k:=k≤ln i.toNat
  μ k:=ln i.toNat -k
  init:=0
def an_fw (W:Wd) (f:Nat):Ann where
  σ:=Nat
  rt:= [(2,0)]
  sh i:= [(2,pt0 0),(8,.v (.int .i64 i)),(5,.v (.int .i64 (cntB i fun k=>clayAt (W.slots k) f:Nat))),(6,.v (.bool (anyB i fun k=>freeAt (W.slots k) f))),(7,.v (.int .i64 (cntB i fun k=>keyAt (W.slots k) f:Nat)))]
  mh _:= []
  inv i:=i≤W.nSlots
  μ i:=W.nSlots -i
  init:=0
def an_sw (W:Wd) (u:Int):Ann where
  σ:=Nat
  rt:= [(2,0)]
  sh k:= [(2,pt0 0),(9,.v (.int .i64 k)),(8,.v (.int .i64 (upK W u k)))]
  mh _:= []
  inv k:=k≤W.nSlots
  μ k:=W.nSlots -k
  init:=0
structure X_kindOf where
  (W:Wd) (f:Int)
def s_kindOf:Sy.Spec:=⟨X_kindOf,fun ⟨W,f⟩=> [wSV W,.v (.int .i64 f)],fun _=> [],fun _=>True,fun ⟨W,f⟩=> .v (.int .i64 (kof W f)),fun _=> [],
  fun args mem=>match args with| [a0,a1]=>some ⟨wSVD a0,intD (a1)⟩|_=>none⟩
def c_kindOf:Con:=⟨[],s_kindOf.g,none⟩
def V_kindOf:X_kindOf→Prop:=fun ⟨W,f⟩=>let a0:=cond (decide (f<0)) true (decide (((W.nKinds:Nat):Int)≤f));True∧(a0=true→(-1)=kof W f∧True)∧(a0=false→(0≤f∧f<((W.nKinds:Nat):Int))∧W.kinds (Int.toNat f)=kof W f∧True)
theorem ok_kindOf:FnOK Tryz.prog glN 218 c_kindOf:=ok_of .nil false Tryz.call218 Tryz.func218 (fun _=> []) (V:=V_kindOf) (fun _=>by kernel_rfl) fun ⟨W,f⟩ hp=>by
  dsimp only [V_kindOf,tn,w64]
  simp only [std,stb,eq_self,implies_true,Bool.cond_self]
  refine ⟨fun h=>?_,fun h=>?_⟩
  · rw [Bool.or_eq_true,decide_eq_true_eq,decide_eq_true_eq] at h;exact (kof_out h).symm
  · rw [Bool.or_eq_false_iff,decide_eq_false_iff_not,decide_eq_false_iff_not] at h
    have h2:0≤f∧f<W.nKinds:=by omega
    exact ⟨h2,(kof_eq h2).symm⟩
structure X_inL where
  (x:Int) (n:Nat) (l:Nat→Int)
def s_inL:Sy.Spec:=⟨X_inL,fun ⟨x,n,l⟩=> [.v (.int .i64 x),.sl true 1 n (fun i_ _=> .v (.int .i64 (l i_)))],fun _=> [],fun _=>True,fun ⟨x,n,l⟩=> .v (.bool (inB' n l x)),fun _=> [],
  fun args mem=>match args with| [a0,a1]=>some ⟨intD (a0),slN a1,fun i=>intD (slF a1 i 0)⟩|_=>none⟩
def c_inL:Con:=⟨[],s_inL.g,none⟩
def V_inL:X_inL→Prop:=fun ⟨x,n,l⟩=>let a0:=(n:Int);0=((0:Nat):Int)∧True∧(0≤n∧(∀b0:Nat,b0<0→(l b0==x)=false))∧(∀c0:Nat,let d0:=(c0:Int);let e0:=decide (d0<a0);let g0:=l (Int.toNat d0)==x;let h0:Int:=d0+1;c0≤n∧(∀k0:Nat,k0<c0→(l k0==x)=false)→a0≤9223372036854775807→(e0=true→(0≤d0∧d0<a0)∧(g0=true→true=inB' n l x∧True)∧(g0=false→w64 h0=h0∧(∃l0:Nat,h0=(l0:Int)∧True∧(l0≤n∧(∀o0:Nat,o0<l0→(l o0==x)=false))∧n-l0<n-c0)))∧(e0=false→false=inB' n l x∧True))
theorem ok_inL:FnOK Tryz.prog glN 101 c_inL:=ok_of .nil false Tryz.call101 Tryz.func101 (fun ⟨x,n,l⟩=> [.inv (an_in n l x)]) (V:=V_inL) (fun _=>by kernel_rfl) fun ⟨x,n,l⟩ hp=>by
  dsimp only [V_inL,tn,w64]
  simp only [std,eq_self,implies_true,Bool.cond_self]
  intro s hs hn
  refine ⟨fun h=>?_,fun h=>?_⟩
  · have hlt:=lt_of_dec h
    refine ⟨by omega,fun h=>(anyB_iff.2 ⟨s,hlt,h⟩).symm,fun h=>⟨by rw [IntKind.wrap_i64];omega,exS ⟨⟨by omega,snocF (p:=fun j=>l j==x) hs.2 h⟩,by omega⟩⟩⟩
  · have hge:=ge_of_dec h
    obtain rfl:s=n:=by omega
    exact (anyB_false.2 hs.2).symm
structure X_howOften where
  (n:Nat) (ln:Nat→Nat) (l:Nat→Nat→Int) (x:Int)
def s_howOften:Sy.Spec:=⟨X_howOften,fun ⟨n,ln,l,x⟩=> [.sl true 1 n (fun i _=> .sl true 1 (ln i) (iF (l i))),.v (.int .i64 x)],fun _=> [],fun ⟨n,ln,_,_⟩=>n≤1000∧ ∀i,i<n→ln i≤1000,fun ⟨n,ln,l,x⟩=> .v (.int .i64 (cntLL n ln l x:Nat)),fun _=> [],
  fun args mem=>match args with| [a0,a1]=>some ⟨slN a0,fun i=>slN (slF a0 i 0),fun i k=>intD (slF (slF a0 i 0) k 0),intD (a1)⟩|_=>none⟩
def c_howOften:Con:=⟨[],s_howOften.g,none⟩
def V_howOften:X_howOften→Prop:=fun ⟨n,ln,l,x⟩=>let a0:=(n:Int);0=((0:Nat):Int)∧0=((cntLL 0 ln l x:Nat):Int)∧True∧0≤n∧(∀b0:Nat,let c0:=(b0:Int);let d0:=decide (c0<a0);let e0:=((cntLL b0 ln l x:Nat):Int);let g0:=Int.toNat c0;let h0:=ln g0;let k0:=0≤c0∧c0<a0;let l0:=(h0:Int);let o0:Int:=c0+1;b0≤n→a0≤9223372036854775807→(d0=true→0=((0:Nat):Int)∧e0=e0+((cntB 0 (fun q0:Nat=>l g0 q0==x):Nat):Int)∧True∧0≤h0∧(∀r0:Nat,let u0:=(r0:Int);let v0:=decide (u0<l0);let w0:=l g0 (Int.toNat u0)==x;let x0:Int:=e0+((cntB r0 (fun y0:Nat=>l g0 y0==x):Nat):Int);let z0:Int:=x0+1;let a1:Int:=u0+1;let b1:=w64 a1=a1;r0≤h0→k0∧(l0≤9223372036854775807→(v0=true→k0∧(0≤u0∧u0<l0)∧(w0=true→w64 z0=z0∧b1∧(∃c1:Nat,a1=(c1:Int)∧z0=e0+((cntB c1 (fun d1:Nat=>l g0 d1==x):Nat):Int)∧True∧c1≤h0∧h0-c1<h0-r0))∧(w0=false→b1∧(∃e1:Nat,a1=(e1:Int)∧x0=e0+((cntB e1 (fun g1:Nat=>l g0 g1==x):Nat):Int)∧True∧e1≤h0∧h0-e1<h0-r0)))∧(v0=false→w64 o0=o0∧(∃h1:Nat,o0=(h1:Int)∧x0=((cntLL h1 ln l x:Nat):Int)∧True∧h1≤n∧n-h1<n-b0)))))∧(d0=false→e0=((cntLL n ln l x:Nat):Int)∧True))
theorem ok_howOften:FnOK Tryz.prog glN 219 c_howOften:=ok_of .nil false Tryz.call219 Tryz.func219 (fun ⟨n,ln,l,x⟩=> [.inv (an_ho1 n ln l x),.invF false fun fr=>an_ho2 ln l x (intD (fr 6)) (intD (fr 5))]) (V:=V_howOften) (fun _=>by kernel_rfl) fun ⟨n,ln,l,x⟩ hp=>by
  dsimp only [s_howOften] at hp
  dsimp only [V_howOften,tn,w64]
  simp only [std,eq_self,implies_true,Bool.cond_self]
  refine ⟨rfl,fun s hs hn=>⟨fun h=>?_,fun h=>?_⟩⟩
  · have hlt:=lt_of_dec h
    have hl:=hp.2 s hlt
    have hc:cntLL s ln l x≤s*1000:=sumN_le fun i hi=>Nat.le_trans (cntB_le _ _) (hp.2 i (by omega))
    refine ⟨by simp [cntB],fun k hk=>⟨by omega,fun hm=>⟨fun h2=>?_,fun h2=>?_⟩⟩⟩
    · have hlt2:=lt_of_dec h2
      have hb:=cntB_le (fun q=>l s q==x) k
      refine ⟨by omega,by omega,fun h3=>?_,fun h3=>?_⟩
      · have e:(cntB (k+1) fun q=>l s q==x)=(cntB k fun q=>l s q==x)+1:=by simp [cntB,h3]
        exact ⟨by rw [IntKind.wrap_i64];omega,by rw [IntKind.wrap_i64];omega,exS ⟨by rw [e];omega,by omega,by omega⟩⟩
      · have e:(cntB (k+1) fun q=>l s q==x)=(cntB k fun q=>l s q==x):=by simp [cntB,h3]
        exact ⟨by rw [IntKind.wrap_i64];omega,exS ⟨by rw [e],by omega,by omega⟩⟩
    · have hge:=ge_of_dec h2
      obtain rfl:k=ln s:=by omega
      refine ⟨by rw [IntKind.wrap_i64];omega,exS ⟨?_,by omega,by omega⟩⟩
      rw [show cntLL (s+1) ln l x=cntLL s ln l x+cntB (ln s) (fun q=>l s q==x) from rfl];omega
  · have hge:=ge_of_dec h
    obtain rfl:s=n:=by omega
    rfl
structure X_readyAt where
  (W:Wd) (t c p:Int)
def s_readyAt:Sy.Spec:=⟨X_readyAt,fun ⟨W,t,c,p⟩=> [wSV W,.v (.int .i64 t),.v (.int .i64 c),.v (.int .i64 p)],fun _=> [],fun ⟨W,_,_,_⟩=>Szd W,fun ⟨W,t,c,p⟩=> .v (.bool (rdB W t c p)),fun _=> [],
  fun args mem=>match args with| [a0,a1,a2,a3]=>some ⟨wSVD a0,intD (a1),intD (a2),intD (a3)⟩|_=>none⟩
def c_readyAt:Con:=⟨[],s_readyAt.g,none⟩
def V_readyAt:X_readyAt→Prop:=fun ⟨W,t,c,p⟩=>let a0:=W.nKinds;let b0:=W.nSlots;let c0:=W.nTasks;let d0:=W.nLines;let e0:=W.nCores;let g0:=W.nReady;let h0:=kof W t==6;let k0:=0≤t∧t<(c0:Int);let l0:=W.tasks (Int.toNat t);let o0:=cond h0 (l0.st==1) false;let q0:=cond o0 (l0.core==c) false;True∧(((((((((((((True∧W.nRam=W.nRam∧(∀u0:Nat,u0<W.nRam→True∧W.ram u0=W.ram u0))∧a0=a0∧(∀v0:Nat,v0<a0→True∧W.kinds v0=W.kinds v0))∧b0=b0∧(∀w0:Nat,let x0:=W.slots w0;let y0:=x0.kind;let z0:=x0.base;let a1:=x0.len;let b1:=x0.mark;let c1:=x0.rights;let d1:=x0.badge;let e1:=x0.from_;w0<b0→((((((True∧y0=y0)∧z0=z0)∧a1=a1)∧b1=b1)∧c1=c1)∧d1=d1)∧e1=e1))∧c0=c0∧(∀g1:Nat,let h1:=W.tasks g1;let k1:=h1.prio;let l1:=h1.node;let o1:=h1.space;let q1:=h1.helper;let u1:=h1.loc;let v1:=h1.word;let w1:=h1.badge;let x1:=h1.owes;let y1:=h1.core;let z1:=h1.dom;g1<c0→(((((((((((((((((((True∧h1.r0=h1.r0)∧h1.r1=h1.r1)∧h1.r2=h1.r2)∧h1.r3=h1.r3)∧h1.r4=h1.r4)∧h1.r5=h1.r5)∧h1.r6=h1.r6)∧h1.r7=h1.r7)∧h1.pc=h1.pc)∧h1.st=h1.st)∧k1=k1)∧l1=l1)∧o1=o1)∧q1=q1)∧u1=u1)∧v1=v1)∧w1=w1)∧x1=x1)∧y1=y1)∧z1=z1))∧d0=d0∧(∀a2:Nat,let b2:=W.linesN a2;a2<d0→True∧b2=b2∧(∀c2:Nat,c2<b2→True∧W.lines a2 c2=W.lines a2 c2)))∧W.nBits=W.nBits∧(∀d2:Nat,d2<W.nBits→True∧W.bits d2=W.bits d2))∧e0=e0∧(∀e2:Nat,e2<e0→True∧W.cores e2=W.cores e2))∧g0=g0∧(∀g2:Nat,let h2:=W.readyN g2;g2<g0→True∧h2=h2∧(∀k2:Nat,k2<h2→True∧W.ready g2 k2=W.ready g2 k2)))∧W.nTlbs=W.nTlbs∧(∀l2:Nat,let o2:=W.tlbsN l2;l2<W.nTlbs→True∧o2=o2∧(∀q2:Nat,let u2:=W.tlbs l2 q2;let v2:=u2.sp;let w2:=u2.pg;let x2:=u2.fr;let y2:=u2.wr;q2<o2→
    (((True∧v2=v2)∧w2=w2)∧x2=x2)∧y2=y2)))∧W.nDoms=W.nDoms∧(∀z2:Nat,z2<W.nDoms→True∧W.doms z2=W.doms z2))∧W.time=W.time)∧t=t∧True)∧True∧True)∧(h0=true→k0)∧(o0=true→k0)∧(decide (p<0)=false→q0=true→k0)∧cond q0 (cond (decide (p<0)) true (l0.prio==p)) false=rdB W t c p∧True
theorem ok_readyAt:FnOK Tryz.prog glN 172 c_readyAt:=ok_of (.cons ok_kindOf .nil) false Tryz.call172 Tryz.func172 (fun _=> []) (V:=V_readyAt) (fun _=>by kernel_rfl) fun ⟨W,t,c,p⟩ hp=>by
  dsimp only [s_readyAt] at hp
  dsimp only [V_readyAt,tn,w64]
  simp only [std,stb,eq_self,implies_true,Bool.cond_self]
  have hr:(kof W t==6)=true→0≤t∧t<W.nTasks:=fun h=>by
    have:=kof_in (W:=W) (f:=t) (by rw [eq_of_beq h];decide)
    rw [hp.tasks];exact this
  refine ⟨hr,fun h=>hr (by revert h;cases kof W t==6<;>simp),fun _ h=>hr (by revert h;cases kof W t==6<;>simp),rfl⟩
structure X_frameWell where
  (W:Wd) (f:Int)
def s_frameWell:Sy.Spec:=⟨X_frameWell,fun ⟨W,f⟩=> [wSV W,.v (.int .i64 f)],fun _=> [],fun ⟨W,f⟩=>Szd W∧0≤f∧f<W.nKinds∧ ∀i,i<W.nSlots→slB W i=true,fun ⟨W,f⟩=> .v (.bool (frB W f.toNat)),fun _=> [],
  fun args mem=>match args with| [a0,a1]=>some ⟨wSVD a0,intD (a1)⟩|_=>none⟩
def c_frameWell:Con:=⟨[],s_frameWell.g,none⟩
def V_frameWell:X_frameWell→Prop:=fun ⟨W,f⟩=>let a0:=SV.ptr 0 0 none 0 0=SV.ptr 0 0 none 0 0;let b0:=Int.toNat f;let c0:=W.nKinds;let d0:=W.nSlots;let e0:=W.nTasks;let g0:=W.nLines;let h0:=W.nCores;let k0:=W.nReady;
    let l0:=(((((((((((True∧W.nRam=W.nRam∧(∀o0:Nat,o0<W.nRam→True∧W.ram o0=W.ram o0))∧c0=c0∧(∀q0:Nat,q0<c0→True∧W.kinds q0=W.kinds q0))∧d0=d0∧(∀u0:Nat,let v0:=W.slots u0;let w0:=v0.kind;let x0:=v0.base;let y0:=v0.len;let z0:=v0.mark;let a1:=v0.rights;let b1:=v0.badge;let c1:=v0.from_;u0<d0→((((((True∧w0=w0)∧x0=x0)∧y0=y0)∧z0=z0)∧a1=a1)∧b1=b1)∧c1=c1))∧e0=e0∧(∀d1:Nat,let e1:=W.tasks d1;let g1:=e1.prio;let h1:=e1.node;let k1:=e1.space;let l1:=e1.helper;let o1:=e1.loc;let q1:=e1.word;let u1:=e1.badge;let v1:=e1.owes;let w1:=e1.core;let x1:=e1.dom;d1<e0→(((((((((((((((((((True∧e1.r0=e1.r0)∧e1.r1=e1.r1)∧e1.r2=e1.r2)∧e1.r3=e1.r3)∧e1.r4=e1.r4)∧e1.r5=e1.r5)∧e1.r6=e1.r6)∧e1.r7=e1.r7)∧e1.pc=e1.pc)∧e1.st=e1.st)∧g1=g1)∧h1=h1)∧k1=k1)∧l1=l1)∧o1=o1)∧q1=q1)∧u1=u1)∧v1=v1)∧w1=w1)∧x1=x1))∧g0=g0∧(∀y1:Nat,let z1:=W.linesN y1;y1<g0→True∧z1=z1∧(∀a2:Nat,a2<z1→True∧W.lines y1 a2=W.lines y1 a2)))∧W.nBits=W.nBits∧(∀b2:Nat,b2<W.nBits→True∧W.bits b2=W.bits b2))∧h0=h0∧(∀c2:Nat,c2<h0→True∧W.cores c2=W.cores c2))∧k0=k0∧(∀d2:Nat,let e2:=W.readyN d2;d2<k0→True∧e2=e2∧(∀g2:Nat,g2<e2→True∧W.ready d2 g2=W.ready d2 g2)))∧W.nTlbs=W.nTlbs∧(∀h2:Nat,let k2:=W.tlbsN h2;h2<W.nTlbs→True∧k2=k2∧(∀l2:Nat,let o2:=W.tlbs h2 l2;let q2:=o2.sp;let u2:=o2.pg;let v2:=o2.fr;let w2:=o2.wr;l2<k2→(((True∧q2=q2)∧u2=u2)∧v2=v2)∧w2=w2)))∧W.nDoms=W.nDoms∧(∀x2:Nat,x2<W.nDoms→True∧W.doms x2=W.doms x2))∧W.time=W.time)∧True;let y2:=(d0:Int);True∧a0∧0=((0:Nat):Int)∧0=((cntB 0 (fun z2:Nat=>clayAt (W.slots z2) b0):Nat):Int)∧
    false=anyB 0 (fun a3:Nat=>freeAt (W.slots a3) b0)∧0=((cntB 0 (fun b3:Nat=>keyAt (W.slots b3) b0):Nat):Int)∧l0∧0≤d0∧(∀c3:Nat,let d3:=(c3:Int);let e3:=decide (d3<y2);let g3:=W.slots (Int.toNat d3);let h3:=g3.kind;let k3:=g3.base;let l3:=cond (h3==1) (decide (k3≤f)) false;let o3:Int:=k3+g3.len;let q3:=cond l3 (decide (f<o3)) false;let u3:=((cntB c3 (fun v3:Nat=>clayAt (W.slots v3) b0):Nat):Int);let w3:Int:=u3+1;let x3:=anyB c3 (fun y3:Nat=>freeAt (W.slots y3) b0);let z3:Int:=k3+g3.mark;let a4:=cond (cond (h3 !=1) (h3 !=0) false) (k3==f) false;let b4:=a4=true;let c4:=((cntB c3 (fun d4:Nat=>keyAt (W.slots d4) b0):Nat):Int);let e4:Int:=c4+1;let g4:=w64 e4=e4;let h4:Int:=d3+1;let k4:=w64 h4=h4;let l4:=cond x3 true (decide (z3≤f));let o4:=d0-c3;let q4:=a4=false;let u4:=decide (u3≤1);c3≤d0→y2≤9223372036854775807→(e3=true→(0≤d3∧d3<y2)∧True∧tn 5 True∧(l3=true→w64 o3=o3)∧(q3=true→w64 w3=w3∧(x3=false→w64 z3=z3)∧(b4→g4∧k4∧(∃v4:Nat,a0∧h4=(v4:Int)∧w3=((cntB v4 (fun w4:Nat=>clayAt (W.slots w4) b0):Nat):Int)∧l4=anyB v4 (fun x4:Nat=>freeAt (W.slots x4) b0)∧e4=((cntB v4 (fun y4:Nat=>keyAt (W.slots y4) b0):Nat):Int)∧l0∧v4≤d0∧d0-v4<o4))∧(q4→k4∧(∃z4:Nat,a0∧h4=(z4:Int)∧w3=((cntB z4 (fun a5:Nat=>clayAt (W.slots a5) b0):Nat):Int)∧l4=anyB z4 (fun b5:Nat=>freeAt (W.slots b5) b0)∧c4=((cntB z4 (fun c5:Nat=>keyAt (W.slots c5) b0):Nat):Int)∧l0∧z4≤d0∧d0-z4<o4)))∧(q3=false→(b4→g4∧k4∧(∃d5:Nat,a0∧h4=(d5:Int)∧u3=((cntB d5 (fun e5:Nat=>clayAt (W.slots e5) b0):Nat):Int)∧
    x3=anyB d5 (fun g5:Nat=>freeAt (W.slots g5) b0)∧e4=((cntB d5 (fun h5:Nat=>keyAt (W.slots h5) b0):Nat):Int)∧l0∧d5≤d0∧d0-d5<o4))∧(q4→k4∧(∃k5:Nat,a0∧h4=(k5:Int)∧u3=((cntB k5 (fun l5:Nat=>clayAt (W.slots l5) b0):Nat):Int)∧x3=anyB k5 (fun o5:Nat=>freeAt (W.slots o5) b0)∧c4=((cntB k5 (fun q5:Nat=>keyAt (W.slots q5) b0):Nat):Int)∧l0∧k5≤d0∧d0-k5<o4))))∧(e3=false→(u4=true→0≤f∧f<(c0:Int))∧cond u4 (cond (W.kinds b0==0) true (cond (decide (0<c4)) (!x3) false)) false=frB W b0∧True))
theorem ok_frameWell:FnOK Tryz.prog glN 169 c_frameWell:=ok_of .nil false Tryz.call169 Tryz.func169 (fun ⟨W,f⟩=> [.inv (an_fw W f.toNat)]) (V:=V_frameWell) (fun _=>by kernel_rfl) fun ⟨W,f⟩ hp=>by
  dsimp only [s_frameWell] at hp
  dsimp only [V_frameWell,tn,w64]
  obtain ⟨hz,f0,f1,hs⟩:=hp
  obtain ⟨F,rfl⟩: ∃F:Nat,f=F:=⟨f.toNat,by omega⟩
  simp only [std,stb,eq_self,implies_true,Bool.cond_self]
  refine ⟨rfl,rfl,rfl,fun s hs0 hn=>⟨fun h=>?_,fun h=>?_⟩⟩
  · have hlt:=lt_of_dec h
    have hr:=slNo_range (slBs_no (hs s hlt))
    have k1:IntKind.i64.wrap ((s:Int)+1)=s+1:=by rw [IntKind.wrap_i64];omega
    have hb1:=cntB_le (fun k=>clayAt (W.slots k) F) s
    have hb2:=cntB_le (fun k=>keyAt (W.slots k) F) s
    have kc:((W.slots s).kind==1&&decide ((W.slots s).base≤F)&&decide ((F:Int)<(W.slots s).base+(W.slots s).len))=clayAt (W.slots s) F:=rfl
    have kk:((W.slots s).kind !=1&&(W.slots s).kind !=0&&(W.slots s).base==F)=keyAt (W.slots s) F:=rfl
    have ec:(cntB (s+1) fun k=>clayAt (W.slots k) F)=(cntB s fun k=>clayAt (W.slots k) F)+(bif clayAt (W.slots s) F then 1 else 0):=rfl
    have ek:(cntB (s+1) fun k=>keyAt (W.slots k) F)=(cntB s fun k=>keyAt (W.slots k) F)+(bif keyAt (W.slots s) F then 1 else 0):=rfl
    have ef:(anyB (s+1) fun k=>freeAt (W.slots k) F)=((anyB s fun k=>freeAt (W.slots k) F)||freeAt (W.slots s) F):=anyB_succ _ _
    rw [kc,kk]
    refine ⟨by omega,fun _=>by rw [IntKind.wrap_i64];omega,fun hc=>?_,fun hc=>?_⟩
    · have hfr:freeAt (W.slots s) F=decide ((W.slots s).base+(W.slots s).mark≤F):=by unfold freeAt;rw [hc];rfl
      refine ⟨by rw [IntKind.wrap_i64];omega,fun _=>by rw [IntKind.wrap_i64];omega,fun hk=>?_,fun hk=>?_⟩
      · exact ⟨by rw [IntKind.wrap_i64];omega,k1,exS ⟨by rw [ec,hc];simp,by rw [ef,hfr],by rw [ek,hk];simp,by omega,by omega⟩⟩
      · exact ⟨k1,exS ⟨by rw [ec,hc];simp,by rw [ef,hfr],by rw [ek,hk];simp,by omega,by omega⟩⟩
    · have hfr:freeAt (W.slots s) F=false:=by unfold freeAt;rw [hc];rfl
      refine ⟨fun hk=>?_,fun hk=>?_⟩
      · exact ⟨by rw [IntKind.wrap_i64];omega,k1,exS ⟨by rw [ec,hc];simp,by rw [ef,hfr];simp,by rw [ek,hk];simp,by omega,by omega⟩⟩
      · exact ⟨k1,exS ⟨by rw [ec,hc];simp,by rw [ef,hfr];simp,by rw [ek,hk];simp,by omega,by omega⟩⟩
  · have hge:=ge_of_dec h
    obtain rfl:s=W.nSlots:=by omega
    refine ⟨fun _=>by omega,?_⟩
    unfold frB
    rw [show decide (((cntB W.nSlots fun k=>clayAt (W.slots k) F:Nat):Int)≤1)=decide ((cntB W.nSlots fun k=>clayAt (W.slots k) F)≤1) from decide_eq_decide.2 (by omega),show decide (0<((cntB W.nSlots fun k=>keyAt (W.slots k) F:Nat):Int))=decide (0<cntB W.nSlots fun k=>keyAt (W.slots k) F) from decide_eq_decide.2 (by omega)]
end Go.Proofs.YtdjilaofmdhikaaGreatDoor
