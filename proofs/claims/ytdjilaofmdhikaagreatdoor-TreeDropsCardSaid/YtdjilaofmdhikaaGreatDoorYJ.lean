/- Tables of pages: walking through them. -/
import Derived.Test.YtdjilaofmdhikaaGreatDoorYI
set_option linter.unusedVariables false
set_option linter.unusedSimpArgs false
set_option linter.unusedVariables false
set_option linter.unusedSimpArgs false
set_option maxRecDepth 100000
namespace Go.Proofs.YtdjilaofmdhikaaGreatDoor
open Go.RowKit Go.Sy
def isW (x:Int):Prop:=0≤x∧x≤65535
def frOf (n:Nat):Int:=bif decide (0<n%16)||decide (384<n) then -1 else (n/16:Nat)
def entOf (x n:Int):Int:=bif x/32768%2==0||decide (n≤x%1024) then -1 else x%1024
def wkBad (n:Nat) (sp at_:Int):Bool:=decide (frOf n<0)||decide (sp<0)||decide (frOf n≤sp)||farB at_ 4095
def wkT (n:Nat) (ram:Nat→Int) (sp at_:Int):Int:=entOf (ram (sp*16+at_/256).toNat) (frOf n)
def wkX (n:Nat) (ram:Nat→Int) (sp at_:Int):Int:=ram (wkT n ram sp at_*16+at_/16%16).toNat
def wkP (n:Nat) (ram:Nat→Int) (sp at_:Int):Int:=entOf (wkX n ram sp at_) (frOf n)
def wkE (n:Nat) (ram:Nat→Int) (sp at_:Int):Int:=bif wkBad n sp at_ then 2 else bif decide (wkT n ram sp at_<0)||decide (wkP n ram sp at_<0) then 9 else 0
def wkF (n:Nat) (ram:Nat→Int) (sp at_:Int):Int:=bif wkE n ram sp at_==0 then wkP n ram sp at_ else 0
def wkW (n:Nat) (ram:Nat→Int) (sp at_:Int):Bool:=bif wkE n ram sp at_==0 then wkX n ram sp at_/16384%2==1 else false
theorem frOf_cases (n:Nat):(frOf n= -1∧(0<n%16∨384<n))∨(frOf n*16=n∧0≤frOf n∧frOf n≤24):=by
  unfold frOf
  by_cases h1:0<n%16
  · left;simp [h1]
  · by_cases h2:384<n
    · left;simp [h2]
    · right;simp only [h1,h2,decide_false,Bool.or_false,cond_false];omega
theorem entOf_cases {x:Int} (hx:0≤x) (m:Int):(entOf x m= -1∧(x/32768%2=0∨m≤x%1024))∨(x/32768%2=1∧entOf x m=x%1024∧0≤entOf x m∧entOf x m<m):=by
  by_cases h1:x/32768%2=0
  · left;unfold entOf;simp [h1]
  · by_cases h2:m≤x%1024
    · left;unfold entOf;simp [h2]
    · right
      have e:entOf x m=x%1024:=by
        unfold entOf
        rw [show (x/32768%2==0)=false from beq_eq_false_iff_ne.2 h1,show decide (m≤x%1024)=false from decide_eq_false h2];rfl
      rw [e];omega
theorem bitN (k X:Nat):X&&&2^k=X/2^k%2*2^k:=by
  have hk:X.testBit k=decide (X/2^k%2=1):=Nat.testBit_eq_decide_div_mod_eq
  apply Nat.eq_of_testBit_eq
  intro i
  rw [Nat.testBit_and,Nat.testBit_two_pow]
  rcases Nat.mod_two_eq_zero_or_one (X/2^k) with h|h
  · rw [h]
    by_cases e:k=i
    · subst e;simp [hk,h]
    · simp [e]
  · rw [h,Nat.one_mul,Nat.testBit_two_pow]
    by_cases e:k=i
    · subst e;simp [hk,h]
    · simp [e]
theorem bit64 (k:Nat) (hk:k≤62) {x m:Int} (hm:m=(2^k:Nat)) (hx:0≤x) (hx1:x≤65535):bitsI .and .i64 x m=x/m%2*m:=by
  subst hm
  have hp:(2:Nat)^k<9223372036854775808:=Nat.lt_of_le_of_lt (Nat.pow_le_pow_right (by omega) hk) (by decide)
  obtain ⟨X,rfl⟩: ∃X:Nat,x=X:=⟨x.toNat,by omega⟩
  rw [and64 (by omega) (by omega) (Int.natCast_nonneg _) (show ((2^k:Nat):Int)<9223372036854775808 from Int.ofNat_lt.2 hp),Int.toNat_natCast,Int.toNat_natCast,bitN]
  simp
theorem entOf_cond {x:Int} (hx:0≤x) (hx1:x≤65535) (m:Int):(bif bitsI .and .i64 x 32768==0 then true else decide (m≤bitsI .and .i64 x 1023))=decide (entOf x m<0)∧(entOf x m<0∨bitsI .and .i64 x 1023=entOf x m):=by
  rw [bit64 15 (by omega) (by decide) hx hx1,mask64 10 (by omega) (by decide)]
  have e10:((2:Int)^10)=1024:=by decide
  rw [e10]
  rcases entOf_cases hx m with ⟨h1,h2⟩|⟨h1,h2,h3,h4⟩
  · rw [h1]
    refine ⟨?_,.inl (by decide)⟩
    rcases h2 with h2|h2
    · rw [h2];rfl
    · rw [show decide (m≤x%1024)=true from decide_eq_true h2];cases (x/32768%2*32768==0)<;>rfl
  · rw [h1,show decide (m≤x%1024)=false from decide_eq_false (by omega),show decide (entOf x m<0)=false from decide_eq_false (by omega)]
    exact ⟨rfl,.inr h2.symm⟩
structure X_framesOf where
  (n:Nat) (ram:Nat→Int)
def s_framesOf:Sy.Spec:=⟨X_framesOf,fun ⟨n,ram⟩=> [.sl true 1 n (fun i_ _=> .v (.int .i64 (ram i_)))],fun _=> [],fun _=>True,fun ⟨n,_⟩=> .v (.int .i64 (frOf n)),fun _=> [],
  fun args mem=>match args with| [a0]=>some ⟨slN a0,fun i=>intD (slF a0 i 0)⟩|_=>none⟩
def c_framesOf:Con:=⟨[],(s_framesOf).g,none⟩
def V_framesOf:X_framesOf→Prop:=fun ⟨n,_⟩=>let a0:=(n:Int);let b0:=cond (decide (0<a0%16)) true (decide (384<a0));let c0:Int:=a0/16;a0≤9223372036854775807→(0≤a0∧(0:Int)<16)∧(b0=true→(-1)=frOf n∧True)∧(b0=false→a0≤9223372036854775807→(0≤a0∧(0:Int)<16∧w64 c0=c0)∧c0=frOf n∧True)
set_option maxHeartbeats 1000000 in
theorem ok_framesOf:FnOK Tryz.prog glN 229 c_framesOf:=ok_of .nil false Tryz.call229 Tryz.func229 (fun _=> []) (V:=V_framesOf) (fun _=>by kernel_rfl) fun ⟨n,ram⟩ hp=>by
  dsimp only [V_framesOf,tn,w64]
  simp only [std,stb,eq_self,implies_true,Bool.cond_self,Bool.or_eq_true,Bool.or_eq_false_iff,Bool.and_eq_true,Bool.and_eq_false_iff,decide_eq_true_eq,decide_eq_false_iff_not,beq_iff_eq,beq_eq_false_iff_ne,bne_iff_ne,bne_eq_false_iff_eq,Bool.not_eq_true',Bool.not_eq_false',ne_eq,Int.not_lt,Int.not_le]
  intro _
  rcases frOf_cases n with ⟨h1,h2⟩|⟨h1,h2,h3⟩
  · exact ⟨by omega,fun _=>h1.symm,fun h=>absurd h2 (by omega)⟩
  · exact ⟨by omega,fun h=>by omega,fun h _=>⟨⟨by omega,by rw [IntKind.wrap_i64];omega⟩,by omega⟩⟩
structure X_entry where
  (x n:Int)
def s_entry:Sy.Spec:=⟨X_entry,fun ⟨x,n⟩=> [.v (.int .i64 x),.v (.int .i64 n)],fun _=> [],fun ⟨x,_⟩=>0≤x∧x≤65535,fun ⟨x,n⟩=> .v (.int .i64 (entOf x n)),fun _=> [],
  fun args mem=>match args with| [a0,a1]=>some ⟨intD (a0),intD (a1)⟩|_=>none⟩
def c_entry:Con:=⟨[],(s_entry).g,none⟩
def V_entry:X_entry→Prop:=fun ⟨x,n⟩=>let a0:Int:=x/32768;let b0:=a0%2==0;let c0:=0≤x∧(0:Int)<1024;let d0:=cond b0 true (decide (n≤x%1024));(0≤x∧(0:Int)<32768∧w64 a0=a0)∧(0≤a0∧(0:Int)<2)∧(b0=false→c0)∧(d0=true→(-1)=entOf x n∧True)∧(d0=false→c0∧x%1024=entOf x n∧True)
set_option maxHeartbeats 1000000 in
theorem ok_entry:FnOK Tryz.prog glN 230 c_entry:=ok_of .nil false Tryz.call230 Tryz.func230 (fun _=> []) (V:=V_entry) (fun _=>by kernel_rfl) fun ⟨x,n⟩ hp=>by
  dsimp only [s_entry] at hp
  dsimp only [V_entry,tn,w64]
  simp only [std,stb,eq_self,implies_true,Bool.cond_self,Bool.or_eq_true,Bool.or_eq_false_iff,Bool.and_eq_true,Bool.and_eq_false_iff,decide_eq_true_eq,decide_eq_false_iff_not,beq_iff_eq,beq_eq_false_iff_ne,bne_iff_ne,bne_eq_false_iff_eq,Bool.not_eq_true',Bool.not_eq_false',ne_eq,Int.not_lt,Int.not_le]
  obtain ⟨hp,hp1⟩:=hp
  rcases entOf_cases hp n with ⟨h1,h2⟩|⟨h1,h2,h3,h4⟩
  · exact ⟨⟨by omega,by omega,by rw [IntKind.wrap_i64];omega⟩,by omega,fun _=>by omega,fun _=>h1.symm,fun h=>by omega⟩
  · exact ⟨⟨by omega,by omega,by rw [IntKind.wrap_i64];omega⟩,by omega,fun _=>by omega,fun h=>by omega,fun h=>⟨by omega,h2.symm⟩⟩
structure X_walked where
  (n:Nat) (ram:Nat→Int) (sp at_:Int)
def s_walked:Sy.Spec:=⟨X_walked,fun ⟨n,ram,sp,at_⟩=> [.sl true 1 n (fun i_ _=> .v (.int .i64 (ram i_))),.v (.int .i64 sp),.v (.int .i64 at_)],fun _=> [],fun ⟨n,ram,_,_⟩=> ∀i,i<n→isW (ram i),fun ⟨n,ram,sp,at_⟩=> .tp 3 (lsv [.v (.int .i64 (wkF n ram sp at_)),.v (.bool (wkW n ram sp at_)),.v (.int .i64 (wkE n ram sp at_))]),fun _=> [],
  fun args mem=>match args with| [a0,a1,a2]=>some ⟨slN a0,fun i=>intD (slF a0 i 0),intD (a1),intD (a2)⟩|_=>none⟩
def c_walked:Con:=⟨[],(s_walked).g,none⟩
def V_walked:X_walked→Prop:=fun ⟨n,ram,sp,at_⟩=>let a0:=frOf n;let b0:=cond (cond (decide (a0<0)) true (decide (sp<0))) true (decide (a0≤sp));let c0:=cond b0 true (farB at_ 4095);let d0:=wkF n ram sp at_;let e0:=wkW n ram sp at_;let g0:=(True∧0=d0)∧false=e0;let h0:=wkE n ram sp at_;let k0:Int:=sp*16+at_/256;let l0:Int:=ram (Int.toNat k0);let o0:=a0=a0∧True;let q0:=entOf l0 a0;let r0:=decide (q0<0);let u0:=(g0∧9=h0)∧True;let v0:Int:=q0*16;let w0:Int:=at_/16;let x0:Int:=v0+w0%16;let y0:Int:=ram (Int.toNat x0);let z0:=0≤y0;let a1:=entOf y0 a0;let b1:=decide (a1<0);let c1:Int:=y0/16384;(((n=n∧(∀d1:Nat,d1<n→True∧ram d1=ram d1))∧True)∧True∧True)∧(b0=false→(at_=at_∧(4095:Int)=4095∧True)∧True∧True)∧(c0=true→(g0∧2=h0)∧True)∧(c0=false→w64 (sp*16)=sp*16∧(0≤at_∧(0:Int)<256∧w64 (at_/256)=at_/256)∧w64 k0=k0∧(0≤k0∧k0<(n:Int))∧((l0=l0∧o0)∧True∧0≤l0∧l0≤65535)∧(r0=true→u0)∧(r0=false→w64 v0=v0∧(0≤at_∧(0:Int)<16∧w64 w0=w0)∧(0≤w0∧(0:Int)<16)∧w64 x0=x0∧(0≤x0∧x0<(n:Int))∧((y0=y0∧o0)∧True∧z0∧y0≤65535)∧(b1=true→u0)∧(b1=false→(z0∧(0:Int)<16384∧w64 c1=c1)∧(0≤c1∧(0:Int)<2)∧(((True∧a1=d0)∧(c1%2==1)=e0)∧0=h0)∧True)))
set_option maxHeartbeats 1000000 in
theorem ok_walked:FnOK Tryz.prog glN 215 c_walked:=ok_of (.cons ok_far (.cons ok_framesOf (.cons ok_entry .nil))) false Tryz.call215 Tryz.func215 (fun _=> []) (V:=V_walked) (fun _=>by kernel_rfl) fun ⟨n,ram,sp,at_⟩ hp=>by
  dsimp only [s_walked] at hp
  dsimp only [V_walked,tn,w64]
  have hx: ∀z:Int,0≤z→z<n→isW (ram z.toNat):=fun z h1 h2=>hp _ (by omega)
  unfold isW at hx
  have wr: ∀z:Int,-100000≤z→z≤100000→IntKind.i64.wrap z=z:=fun z h1 h2=>by rw [IntKind.wrap_i64];omega
  have hb: ∀b,wkBad n sp at_=b→(b=true∧wkE n ram sp at_=2∧wkF n ram sp at_=0∧wkW n ram sp at_=false)∨(b=false∧frOf n*16=n∧0≤sp∧sp<frOf n∧0≤at_∧at_≤4095∧frOf n≤24):=fun b h=>by
    cases b with
    |true=>left;simp [wkE,wkF,wkW,h]
    |false=>
     right
     simp [wkBad,farB] at h
     rcases frOf_cases n with ⟨f1,f2⟩|⟨f1,f2,f3⟩
     · omega
     · exact ⟨rfl,by omega⟩
  have hbb:(bif bif bif decide (frOf n<0) then true else decide (sp<0) then true else decide (frOf n≤sp) then true else farB at_ 4095)=wkBad n sp at_:=by
    unfold wkBad;cases decide (frOf n<0)<;>cases decide (sp<0)<;>cases decide (frOf n≤sp)<;>rfl
  simp only [std,eq_self,implies_true,Bool.cond_self]
  rw [hbb]
  refine ⟨fun h=>?_,fun h=>?_⟩
  · rcases hb _ h with ⟨_,h1,h2,h3⟩|⟨h0,_⟩
    · rw [h1,h2,h3];exact ⟨⟨rfl,rfl⟩,rfl⟩
    · cases h0
  rcases hb _ h with ⟨h0,_⟩|⟨_,f1,p1,p2,q1,q2,f3⟩
  · cases h0
  have x1:=hx (sp*16+at_/256) (by omega) (by omega)
  have hT:entOf (ram (sp*16+at_/256).toNat) (frOf n)=wkT n ram sp at_:=rfl
  rw [hT]
  refine ⟨wr _ (by omega) (by omega),⟨by omega,by omega,wr _ (by omega) (by omega)⟩,wr _ (by omega) (by omega),by omega,x1,?_⟩
  rcases entOf_cases x1.1 (frOf n) with ⟨t1,t2⟩|⟨t1,t2,t3,t4⟩
  · rw [hT] at t1
    refine ⟨fun _=>?_,fun h=>by simp [t1] at h⟩
    have e:wkE n ram sp at_=9:=by simp [wkE,h,t1]
    exact ⟨⟨by simp [wkF,e],by simp [wkW,e]⟩,e.symm⟩
  rw [hT] at t2 t3 t4
  refine ⟨fun h=>by simp at h;omega,fun _=>?_⟩
  have x2:=hx (wkT n ram sp at_*16+at_/16%16) (by omega) (by omega)
  have hX:ram (wkT n ram sp at_*16+at_/16%16).toNat=wkX n ram sp at_:=rfl
  rw [hX] at x2⊢
  refine ⟨wr _ (by omega) (by omega),⟨by omega,by omega,wr _ (by omega) (by omega)⟩,by omega,wr _ (by omega) (by omega),by omega,x2,?_⟩
  have hP:entOf (wkX n ram sp at_) (frOf n)=wkP n ram sp at_:=rfl
  rw [hP]
  rcases entOf_cases x2.1 (frOf n) with ⟨u1,u2⟩|⟨u1,u2,u3,u4⟩
  · rw [hP] at u1
    refine ⟨fun _=>?_,fun h=>by simp [u1] at h⟩
    have e:wkE n ram sp at_=9:=by simp [wkE,h,u1]
    exact ⟨⟨by simp [wkF,e],by simp [wkW,e]⟩,e.symm⟩
  rw [hP] at u2 u3 u4
  have d1:decide (wkT n ram sp at_<0)=false:=decide_eq_false (by omega)
  have d2:decide (wkP n ram sp at_<0)=false:=decide_eq_false (by omega)
  have e:wkE n ram sp at_=0:=by simp [wkE,h,d1,d2]
  refine ⟨fun h=>by simp at h;omega,fun _=>?_⟩
  have eF:wkF n ram sp at_=wkP n ram sp at_:=by simp [wkF,e]
  have eW:wkW n ram sp at_=(wkX n ram sp at_/16384%2==1):=by simp [wkW,e]
  rw [eF,eW,e]
  repeat' (first|exact trivial|rfl|omega|exact wr _ (by omega) (by omega)|refine And.intro ?_ ?_)
structure X_frames where
  (n:Nat) (ram:Nat→Int)
def s_frames:Sy.Spec:=⟨X_frames,fun ⟨n,ram⟩=> [.sl true 1 n (fun i_ _=> .v (.int .i64 (ram i_)))],fun _=> [],fun _=>True,fun ⟨n,_⟩=> .v (.int .i64 (frOf n)),fun _=> [],
  fun args mem=>match args with| [a0]=>some ⟨slN a0,fun i=>intD (slF a0 i 0)⟩|_=>none⟩
def c_frames:Con:=⟨[],(s_frames).g,none⟩
def V_frames:X_frames→Prop:=fun ⟨n,_⟩=>let a0:=(n:Int);let b0:=cond (a0%16 !=0) true (decide (384<a0));let c0:Int:=a0/16;a0≤9223372036854775807→(0≤a0∧(0:Int)<16)∧(b0=true→(-1)=frOf n∧True)∧(b0=false→a0≤9223372036854775807→(0≤a0∧(0:Int)<16∧w64 c0=c0)∧c0=frOf n∧True)
set_option maxHeartbeats 1000000 in
theorem ok_frames:FnOK Tryz.prog glN 224 c_frames:=ok_of .nil false Tryz.call224 Tryz.func224 (fun _=> []) (V:=V_frames) (fun _=>by kernel_rfl) fun ⟨n,ram⟩ hp=>by
  dsimp only [V_frames,tn,w64]
  simp only [std,stb,eq_self,implies_true,Bool.cond_self,Bool.or_eq_true,Bool.or_eq_false_iff,Bool.and_eq_true,Bool.and_eq_false_iff,decide_eq_true_eq,decide_eq_false_iff_not,beq_iff_eq,beq_eq_false_iff_ne,bne_iff_ne,bne_eq_false_iff_eq,Bool.not_eq_true',Bool.not_eq_false',ne_eq,Int.not_lt,Int.not_le]
  intro _
  rcases frOf_cases n with ⟨h1,h2⟩|⟨h1,h2,h3⟩
  · exact ⟨by omega,fun _=>h1.symm,fun h=>absurd h2 (by omega)⟩
  · exact ⟨by omega,fun h=>by omega,fun h _=>⟨⟨by omega,by rw [IntKind.wrap_i64];omega⟩,by omega⟩⟩
structure X_walk where
  (n:Nat) (ram:Nat→Int) (sp at_:Int)
def s_walk:Sy.Spec:=⟨X_walk,fun ⟨n,ram,sp,at_⟩=> [.sl true 1 n (fun i_ _=> .v (.int .i64 (ram i_))),.v (.int .i64 sp),.v (.int .i64 at_)],fun _=> [],fun ⟨n,ram,_,_⟩=> ∀i,i<n→isW (ram i),fun ⟨n,ram,sp,at_⟩=> .tp 3 (lsv [.v (.int .i64 (wkF n ram sp at_)),.v (.bool (wkW n ram sp at_)),.er 35 116 (wkE n ram sp at_) (-1)]),fun _=> [],
  fun args mem=>match args with| [a0,a1,a2]=>some ⟨slN a0,fun i=>intD (slF a0 i 0),intD (a1),intD (a2)⟩|_=>none⟩
def c_walk:Con:=⟨[],(s_walk).g,none⟩
def V_walk:X_walk→Prop:=fun ⟨n,ram,sp,at_⟩=>let a0:=frOf n;let b0:=cond (cond (cond (cond (decide (a0<0)) true (decide (sp<0))) true (decide (a0≤sp))) true (decide (at_<0))) true (decide (4096≤at_));let c0:=wkF n ram sp at_;let d0:=wkW n ram sp at_;let e0:=(True∧0=c0)∧false=d0;let g0:=wkE n ram sp at_;let h0:=((-1):Int)=(-1);let k0:Int:=sp*16+at_/256;let l0:Int:=ram (Int.toNat k0);let o0:=bitsI BinOp.and IntKind.i64 l0 1023;let q0:=cond (bitsI BinOp.and IntKind.i64 l0 32768==0) true (decide (a0≤o0));let r0:=(e0∧(9:Int)≠0∧g0=9∧h0)∧True;let u0:Int:=o0*16;let v0:Int:=at_/16;let w0:Int:=u0+v0%16;let x0:Int:=ram (Int.toNat w0);let y0:=bitsI BinOp.and IntKind.i64 x0 1023;let z0:=cond (bitsI BinOp.and IntKind.i64 x0 32768==0) true (decide (a0≤y0));(((n=n∧(∀a1:Nat,a1<n→True∧ram a1=ram a1))∧True)∧True∧True)∧(b0=true→(e0∧(2:Int)≠0∧g0=2∧h0)∧True)∧(b0=false→w64 (sp*16)=sp*16∧(0≤at_∧(0:Int)<256∧w64 (at_/256)=at_/256)∧w64 k0=k0∧(0≤k0∧k0<(n:Int))∧(q0=true→r0)∧(q0=false→w64 u0=u0∧(0≤at_∧(0:Int)<16∧w64 v0=v0)∧(0≤v0∧(0:Int)<16)∧w64 w0=w0∧(0≤w0∧w0<(n:Int))∧(z0=true→r0)∧(z0=false→(((True∧y0=c0)∧(bitsI BinOp.and IntKind.i64 x0 16384 !=0)=d0)∧g0=0∧h0)∧True)))
set_option maxHeartbeats 1000000 in
theorem ok_walk:FnOK Tryz.prog glN 205 c_walk:=ok_of (.cons ok_frames .nil) false Tryz.call205 Tryz.func205 (fun _=> []) (V:=V_walk) (fun _=>by kernel_rfl) fun ⟨n,ram,sp,at_⟩ hp=>by
  dsimp only [s_walk] at hp
  dsimp only [V_walk,tn,w64]
  have hx: ∀z:Int,0≤z→z<n→isW (ram z.toNat):=fun z h1 h2=>hp _ (by omega)
  unfold isW at hx
  have wr: ∀z:Int,-100000≤z→z≤100000→IntKind.i64.wrap z=z:=fun z h1 h2=>by rw [IntKind.wrap_i64];omega
  have hb: ∀b,wkBad n sp at_=b→(b=true∧wkE n ram sp at_=2∧wkF n ram sp at_=0∧wkW n ram sp at_=false)∨(b=false∧frOf n*16=n∧0≤sp∧sp<frOf n∧0≤at_∧at_≤4095∧frOf n≤24):=fun b h=>by
    cases b with
    |true=>left;simp [wkE,wkF,wkW,h]
    |false=>
     right
     simp [wkBad,farB] at h
     rcases frOf_cases n with ⟨f1,f2⟩|⟨f1,f2,f3⟩
     · omega
     · exact ⟨rfl,by omega⟩
  have hbb:(bif bif bif bif decide (frOf n<0) then true else decide (sp<0) then true else decide (frOf n≤sp) then true else decide (at_<0) then true else decide (4096≤at_))=wkBad n sp at_:=by
    unfold wkBad farB;rw [show decide (4096≤at_)=decide (4095<at_) from decide_eq_decide.2 (by omega)];cases decide (frOf n<0)<;>cases decide (sp<0)<;>cases decide (frOf n≤sp)<;>cases decide (at_<0)<;>rfl
  simp only [std,eq_self,implies_true,Bool.cond_self]
  rw [hbb]
  refine ⟨fun h=>?_,fun h=>?_⟩
  · rcases hb _ h with ⟨_,h1,h2,h3⟩|⟨h0,_⟩
    · rw [h1,h2,h3];exact ⟨⟨rfl,rfl⟩,by decide,rfl⟩
    · cases h0
  rcases hb _ h with ⟨h0,_⟩|⟨_,f1,p1,p2,q1,q2,f3⟩
  · cases h0
  have x1:=hx (sp*16+at_/256) (by omega) (by omega)
  have hT:entOf (ram (sp*16+at_/256).toNat) (frOf n)=wkT n ram sp at_:=rfl
  obtain ⟨c1,c2⟩:=entOf_cond x1.1 x1.2 (frOf n)
  rw [c1]
  rw [hT] at c2⊢
  refine ⟨wr _ (by omega) (by omega),⟨by omega,by omega,wr _ (by omega) (by omega)⟩,wr _ (by omega) (by omega),by omega,?_⟩
  rcases entOf_cases x1.1 (frOf n) with ⟨t1,t2⟩|⟨t1,t2,t3,t4⟩
  · rw [hT] at t1
    refine ⟨fun _=>?_,fun h=>by simp [t1] at h⟩
    have e:wkE n ram sp at_=9:=by simp [wkE,h,t1]
    exact ⟨⟨by simp [wkF,e],by simp [wkW,e]⟩,by decide,e⟩
  rw [hT] at t2 t3 t4
  refine ⟨fun h=>by simp at h;omega,fun _=>?_⟩
  replace c2:=c2.resolve_left (by omega)
  rw [c2]
  have x2:=hx (wkT n ram sp at_*16+at_/16%16) (by omega) (by omega)
  have hX:ram (wkT n ram sp at_*16+at_/16%16).toNat=wkX n ram sp at_:=rfl
  rw [hX] at x2⊢
  refine ⟨wr _ (by omega) (by omega),⟨by omega,by omega,wr _ (by omega) (by omega)⟩,by omega,wr _ (by omega) (by omega),by omega,?_⟩
  obtain ⟨d1,d2⟩:=entOf_cond x2.1 x2.2 (frOf n)
  rw [d1]
  have hP:entOf (wkX n ram sp at_) (frOf n)=wkP n ram sp at_:=rfl
  rw [hP] at d2⊢
  rcases entOf_cases x2.1 (frOf n) with ⟨u1,u2⟩|⟨u1,u2,u3,u4⟩
  · rw [hP] at u1
    refine ⟨fun _=>?_,fun h=>by simp [u1] at h⟩
    have e:wkE n ram sp at_=9:=by simp [wkE,h,u1]
    exact ⟨⟨by simp [wkF,e],by simp [wkW,e]⟩,by decide,e⟩
  rw [hP] at u2 u3 u4
  have d3:decide (wkT n ram sp at_<0)=false:=decide_eq_false (by omega)
  have d4:decide (wkP n ram sp at_<0)=false:=decide_eq_false (by omega)
  have e:wkE n ram sp at_=0:=by simp [wkE,h,d3,d4]
  refine ⟨fun h=>by simp at h;omega,fun _=>?_⟩
  have eF:wkF n ram sp at_=wkP n ram sp at_:=by simp [wkF,e]
  have eW:wkW n ram sp at_=(wkX n ram sp at_/16384%2==1):=by simp [wkW,e]
  replace d2:=d2.resolve_left (by omega)
  rw [eF,eW,e,d2,bit64 14 (by omega) (by decide) x2.1 x2.2]
  have e14:(wkX n ram sp at_/16384%2*16384 !=0)=(wkX n ram sp at_/16384%2==1):=by
    have hz:wkX n ram sp at_/16384%2=0∨wkX n ram sp at_/16384%2=1:=by omega
    rcases hz with h|h<;>rw [h]<;>rfl
  rw [e14]
  repeat' (first|exact trivial|rfl|omega|exact wr _ (by omega) (by omega)|refine And.intro ?_ ?_)
end Go.Proofs.YtdjilaofmdhikaaGreatDoor
set_option linter.unusedVariables false
set_option linter.unusedSimpArgs false
set_option maxRecDepth 100000
namespace Go.Proofs.YtdjilaofmdhikaaGreatDoor
open Go.RowKit Go.Sy
def keyBad1 (k b l m:Int):Bool:=decide (b<0)||decide (24<b)||decide (l<1)||decide (24<l)||decide (24<b+l)||(k !=1&&(l !=1||m !=0))||(k==1&&farB m l)
def keyBad2 (k g:Int):Bool:=farB g 65535||(decide (0<g)&&k !=7&&k !=8)
def keyNo (k b l m r g:Int):Int:=
  bif farB k 8 then 3 else
  bif k==0 then (bif b !=0||l !=0||m !=0||r !=0||g !=0 then 2 else 0) else
  bif keyBad1 k b l m then 2 else bif farB r 7 then 4 else bif keyBad2 k g then 2 else 0
theorem keyNo_range {k b l m r g:Int} (h:keyNo k b l m r g=0):0≤k∧k≤8∧0≤b∧b≤24∧0≤l∧l≤24∧0≤m∧m≤24∧0≤r∧r≤7∧0≤g∧g≤65535:=by
  unfold keyNo keyBad1 keyBad2 farB at h
  simp only [cond_eq_ite,bne,Bool.or_eq_true,Bool.and_eq_true,Bool.not_eq_true',decide_eq_true_eq,beq_iff_eq,beq_eq_false_iff_ne] at h
  repeat' split at h
  all_goals first|(cases h;done)|omega
structure X_keyMay where
  (k b l m r g:Int)
def s_keyMay:Sy.Spec:=⟨X_keyMay,fun ⟨k,b,l,m,r,g⟩=> [.ag 6 (lsv [.v (.int .i64 k),.v (.int .i64 b),.v (.int .i64 l),.v (.int .i64 m),.v (.int .i64 r),.v (.int .i64 g)])],fun _=> [],fun _=>True,fun ⟨k,b,l,m,r,g⟩=> .v (.int .i64 (keyNo k b l m r g)),fun _=> [],
  fun args mem=>match args with| [a0]=>some ⟨intD (agD a0 0),intD (agD a0 1),intD (agD a0 2),intD (agD a0 3),intD (agD a0 4),intD (agD a0 5)⟩|_=>none⟩
def c_keyMay:Con:=⟨[],(s_keyMay).g,none⟩
def V_keyMay:X_keyMay→Prop:=fun ⟨k,b,l,m,r,g⟩=>let a0:=True∧True;let b0:=keyNo k b l m r g;let c0:=cond (cond (cond (cond (b !=0) true (l !=0)) true (m !=0)) true (r !=0)) true (g !=0);let d0:=2=b0∧True;let e0:=0=b0∧True;let g0:=cond (cond (cond (cond (decide (b<0)) true (decide (24<b))) true (decide (l<1))) true (decide (24<l))) true (decide (24<w64 (b+l)));let h0:=cond (k !=1) (cond (l !=1) true (m !=0)) false;let k0:=cond h0 true (cond (k==1) (farB m l) false);let l0:=cond (farB g 65535) true (cond (cond (decide (0<g)) (k !=7) false) (k !=8) false);True∧((k=k∧(8:Int)=8∧True)∧a0)∧(farB k 8=true→3=b0∧True)∧(farB k 8=false→((k==0)=true→(c0=true→d0)∧(c0=false→e0))∧((k==0)=false→(g0=true→d0)∧(g0=false→((k==1)=true→h0=false→(m=m∧l=l∧True)∧a0)∧(k0=true→d0)∧(k0=false→((r=r∧(7:Int)=7∧True)∧a0)∧(farB r 7=true→4=b0∧True)∧(farB r 7=false→((g=g∧(65535:Int)=65535∧True)∧a0)∧(l0=true→d0)∧(l0=false→e0))))))
theorem ok_keyMay:FnOK Tryz.prog glN 217 c_keyMay:=ok_of (.cons ok_far .nil) true Tryz.call217 Tryz.func217 (fun _=> []) (V:=V_keyMay) (fun _=>by kernel_rfl) fun ⟨k,b,l,m,r,g⟩ hp=>by
  dsimp only [V_keyMay,tn,w64]
  have hw:(bif bif bif bif decide (b<(0:Int)) then true else decide ((24:Int)<b) then true else decide (l<(1:Int)) then true else decide ((24:Int)<l) then true else decide ((24:Int)<IntKind.i64.wrap (b+l)))=
   (decide (b<0)||decide (24<b)||decide (l<1)||decide (24<l)||decide (24<b+l)):=by
    by_cases h:b<0∨24<b∨l<1∨24<l
    · rcases h with h|h|h|h<;>simp [h]
    · have e:IntKind.i64.wrap (b+l)=b+l:=by rw [IntKind.wrap_i64];omega
      rw [e]
      cases decide (b<0)<;>cases decide (24<b)<;>cases decide (l<1)<;>cases decide (24<l)<;>rfl
  rw [hw]
  unfold keyNo keyBad1 keyBad2 farB
  repeat' (first|exact trivial|refine And.intro ?_ ?_|intro h)
  all_goals (clear hw)
  all_goals (try simp only [Bool.cond_true_left,Bool.cond_false_right] at*)
  all_goals (simp only [cond_eq_ite,farB,bne,Bool.or_eq_true,Bool.and_eq_true,Bool.not_eq_true',Bool.not_eq_false',Bool.and_eq_false_iff,decide_eq_true_eq,beq_iff_eq,beq_eq_false_iff_ne,Bool.or_eq_false_iff,decide_eq_false_iff_not,Bool.ite_eq_true_distrib,Bool.ite_eq_false_distrib] at*)
  all_goals (repeat' split)
  all_goals (first|rfl|(exfalso;simp_all<;>omega)|omega)
structure X_wordCheck where
  (k b l m r g:Int)
def s_wordCheck:Sy.Spec:=⟨X_wordCheck,fun ⟨k,b,l,m,r,g⟩=> [.ag 6 (lsv [.v (.int .i64 k),.v (.int .i64 b),.v (.int .i64 l),.v (.int .i64 m),.v (.int .i64 r),.v (.int .i64 g)])],fun _=> [],fun _=>True,fun ⟨k,b,l,m,r,g⟩=> .er 35 116 (keyNo k b l m r g) (-1),fun _=> [],
  fun args mem=>match args with| [a0]=>some ⟨intD (agD a0 0),intD (agD a0 1),intD (agD a0 2),intD (agD a0 3),intD (agD a0 4),intD (agD a0 5)⟩|_=>none⟩
def c_wordCheck:Con:=⟨[],(s_wordCheck).g,none⟩
def V_wordCheck:X_wordCheck→Prop:=fun ⟨k,b,l,m,r,g⟩=>let a0:=cond (decide (k<0)) true (decide (8<k));let b0:=keyNo k b l m r g;let c0:=((-1):Int)=(-1);let d0:=!(k==0&&(b==0&&(l==0&&(m==0&&(r==0&&(g==0&&true))))));let e0:=((2:Int)≠0∧b0=2∧c0)∧True;let g0:=(b0=0∧c0)∧True;let h0:=cond (cond (cond (decide (b<0)) true (decide (24≤b))) true (decide (l<1))) true (decide (w64 (24-b)<l));let k0:=cond (cond (cond (cond (k !=1) (l !=1) false) true (decide (m<0))) true (decide (l<m))) true (cond (k !=1) (m !=0) false);let l0:=cond (decide (r<0)) true (decide (7<r));let o0:=cond (cond (decide (g<0)) true (decide (65535<g))) true (cond (cond (g !=0) (k !=7) false) (k !=8) false);True∧(a0=true→((3:Int)≠0∧b0=3∧c0)∧True)∧(a0=false→((k==0)=true→(d0=true→e0)∧(d0=false→g0))∧((k==0)=false→(h0=true→e0)∧(h0=false→(k0=true→e0)∧(k0=false→(l0=true→((4:Int)≠0∧b0=4∧c0)∧True)∧(l0=false→(o0=true→e0)∧(o0=false→g0))))))
theorem ok_wordCheck:FnOK Tryz.prog glN 186 c_wordCheck:=ok_of .nil true Tryz.call186 Tryz.func186 (fun _=> []) (V:=V_wordCheck) (fun _=>by kernel_rfl) fun ⟨k,b,l,m,r,g⟩ hp=>by
  dsimp only [V_wordCheck,tn,w64]
  have hw:(bif bif bif decide (b<(0:Int)) then true else decide ((24:Int)≤b) then true else decide (l<(1:Int)) then true else decide (IntKind.i64.wrap (24 -b)<l))=
   (decide (b<0)||decide (24<b)||decide (l<1)||decide (24<l)||decide (24<b+l)):=by
    by_cases h:b<0∨24≤b∨l<1
    · have:b<0∨24<b∨l<1∨24<b+l:=by omega
      have h2:(bif bif bif decide (b<(0:Int)) then true else decide ((24:Int)≤b) then true else decide (l<(1:Int)) then true else decide (IntKind.i64.wrap (24 -b)<l))=true:=by
        rcases h with h|h|h<;>simp [h]
      rw [h2]
      rcases this with h|h|h|h<;>simp [h]
    · have e:IntKind.i64.wrap (24 -b)=24 -b:=by rw [IntKind.wrap_i64];omega
      rw [e]
      have h1: ¬b<0:=by omega
      have h2: ¬24≤b:=by omega
      have h3: ¬l<1:=by omega
      have h4: ¬24<b:=by omega
      simp [h1,h2,h3,h4]
      by_cases h5:24 -b<l<;>simp [h5]<;>omega
  rw [hw]
  unfold keyNo keyBad1 keyBad2 farB
  repeat' (first|exact trivial|refine And.intro ?_ ?_|intro h)
  all_goals (clear hw)
  all_goals (try simp only [Bool.cond_true_left,Bool.cond_false_right] at*)
  all_goals (simp only [cond_eq_ite,farB,bne,Bool.or_eq_true,Bool.and_eq_true,Bool.not_eq_true',Bool.not_eq_false',Bool.and_eq_false_iff,decide_eq_true_eq,beq_iff_eq,beq_eq_false_iff_ne,Bool.or_eq_false_iff,decide_eq_false_iff_not,Bool.ite_eq_true_distrib,Bool.ite_eq_false_distrib] at*)
  all_goals (repeat' split)
  all_goals (first|rfl|(exfalso;simp_all<;>omega)|omega)
end Go.Proofs.YtdjilaofmdhikaaGreatDoor
namespace Go.Sy
theorem andNot64 {x m:Int} (hx:0≤x) (hx1:x≤65535):bitsI .andNot .i64 x m=x -bitsI .and .i64 x m:=by
  show IntKind.i64.wrap ((BitVec.ofInt 64 x&&& ~~~BitVec.ofInt 64 m).toNat:Int)=x -IntKind.i64.wrap ((BitVec.ofInt 64 x&&&BitVec.ofInt 64 m).toNat:Int)
  have hX:(BitVec.ofInt 64 x).toNat=x.toNat:=by
    rw [BitVec.toNat_ofInt];congr 1;exact Int.emod_eq_of_lt hx (by simp;omega)
  generalize hA:BitVec.ofInt 64 x=X at hX⊢
  generalize BitVec.ofInt 64 m=Y
  have h1:(X&&& ~~~Y)+(X&&&Y)=X:=by
    rw [BitVec.add_eq_or_of_and_eq_zero]
    · ext i hi
      simp
      cases X[i]<;>cases Y[i]<;>rfl
    · ext i hi
      simp
      cases X[i]<;>cases Y[i]<;>simp
  have h2:(X&&& ~~~Y).toNat≤X.toNat:=by rw [BitVec.toNat_and];exact Nat.and_le_left
  have h3:(X&&&Y).toNat≤X.toNat:=by rw [BitVec.toNat_and];exact Nat.and_le_left
  have h4:=congrArg BitVec.toNat h1
  rw [BitVec.toNat_add] at h4
  rw [IntKind.wrap_i64,IntKind.wrap_i64]
  omega
theorem andNot1023 {x:Int} (hx:0≤x) (hx1:x≤65535):bitsI .andNot .i64 x 1023=x -x%1024:=by
  rw [andNot64 hx hx1,mask64 10 (by omega) (by decide)];rfl
theorem bitP (k X:Nat):X&&&2^k=X/2^k%2*2^k:=by
  have hk:X.testBit k=decide (X/2^k%2=1):=Nat.testBit_eq_decide_div_mod_eq
  apply Nat.eq_of_testBit_eq
  intro i
  rw [Nat.testBit_and,Nat.testBit_two_pow]
  rcases Nat.mod_two_eq_zero_or_one (X/2^k) with h|h
  · rw [h]
    by_cases e:k=i
    · subst e;simp [hk,h]
    · simp [e]
  · rw [h,Nat.one_mul,Nat.testBit_two_pow]
    by_cases e:k=i
    · subst e;simp [hk,h]
    · simp [e]
theorem andNot17407 {x:Int} (hx:0≤x) (hx1:x≤65535):bitsI .andNot .i64 x 17407=(x -x%1024) -(x -x%1024)/16384%2*16384:=by
  have e:bitsI .andNot .i64 x 17407=bitsI .andNot .i64 (bitsI .andNot .i64 x 1023) 16384:=by
    show IntKind.i64.wrap ((BitVec.ofInt 64 x&&& ~~~BitVec.ofInt 64 17407).toNat:Int)=IntKind.i64.wrap ((BitVec.ofInt 64 (bitsI .andNot .i64 x 1023)&&& ~~~BitVec.ofInt 64 16384).toNat:Int)
    have h0:BitVec.ofInt 64 (bitsI .andNot .i64 x 1023)=BitVec.ofInt 64 x&&& ~~~BitVec.ofInt 64 1023:=by
      have h1:bitsI .andNot .i64 x 1023=IntKind.i64.wrap ((BitVec.ofInt 64 x&&& ~~~BitVec.ofInt 64 1023).toNat:Int):=rfl
      have h2:(BitVec.ofInt 64 x&&& ~~~BitVec.ofInt 64 1023).toNat≤65535:=by
        rw [BitVec.toNat_and]
        refine Nat.le_trans Nat.and_le_left ?_
        rw [BitVec.toNat_ofInt,Int.emod_eq_of_lt hx (by simp;omega)];omega
      rw [h1,IntKind.wrap_i64]
      apply BitVec.eq_of_toNat_eq
      rw [BitVec.toNat_ofInt]
      generalize (BitVec.ofInt 64 x&&& ~~~BitVec.ofInt 64 1023).toNat=t at h2⊢
      show ((_:Int)%((2^64:Nat):Int)).toNat=t
      rw [show ((2^64:Nat):Int)=18446744073709551616 by decide]
      omega
    rw [h0]
    congr 3
    rw [BitVec.and_assoc]
    congr 1
  rw [e,andNot1023 hx hx1,andNot64 (by omega) (by omega),and64 (by omega) (by omega) (by omega) (by omega)]
  obtain ⟨Y,hY⟩: ∃Y:Nat,x -x%1024=Y:=⟨(x -x%1024).toNat,by omega⟩
  rw [hY,Int.toNat_natCast,show Int.toNat 16384=2^14 from rfl,bitP]
  simp
theorem rights_sub {r q:Int} (r0:0≤r) (r1:r≤7) (q0:0≤q) (q1:q≤7):(bitsI .andNot .i64 r q==0)=(bitsI .and .i64 q r==r):=by
  have hr:r=0∨r=1∨r=2∨r=3∨r=4∨r=5∨r=6∨r=7:=by omega
  have hq:q=0∨q=1∨q=2∨q=3∨q=4∨q=5∨q=6∨q=7:=by omega
  rcases hr with rfl|rfl|rfl|rfl|rfl|rfl|rfl|rfl<;>rcases hq with rfl|rfl|rfl|rfl|rfl|rfl|rfl|rfl<;>decide
theorem holes: ∀(L:Nat) (f:Nat→Nat),(∀k,k≤L→f k<L)→ ∃a b,a<b∧b≤L∧f a=f b
  |0,f,h=>absurd (h 0 (Nat.le_refl _)) (by omega)
  |L+1,f,h=>by
   rcases Classical.em (∃k,k≤L∧f k=f (L+1)) with ⟨k,h1,h2⟩|hno
   · exact ⟨k,L+1,by omega,by omega,h2⟩
   · have hne: ∀k,k≤L→f k≠f (L+1):=fun k hk e=>hno ⟨k,hk,e⟩
     obtain ⟨a,b,h1,h2,h3⟩:=holes L (fun k=>if f k=L then f (L+1) else f k) fun k hk=>by
       have l1:=h k (by omega)
       have l2:=h (L+1) (by omega)
       have l3:=hne k hk
       show (if f k=L then f (L+1) else f k)<L
       split<;>omega
     refine ⟨a,b,h1,by omega,?_⟩
     have n1:=hne a (by omega)
     have n2:=hne b (by omega)
     have h3:(if f a=L then f (L+1) else f a)=(if f b=L then f (L+1) else f b):=h3
     split at h3<;>split at h3
     · omega
     · exact absurd h3.symm n2
     · exact absurd h3 n1
     · exact h3
theorem stays_in (L:Nat) (g:Nat→Nat) (s:Nat→Nat) (hs: ∀k,s k<L→s (k+1)=g (s k)) (hin: ∀k,k≤L→s k<L): ∀k,s k<L:=by
  obtain ⟨a,b,h1,h2,h3⟩:=holes L s hin
  have hall: ∀n k,k≤n→s k<L:=by
    intro n
    induction n with
    |zero=>intro k hk;exact hin k (by omega)
    |succ n ih=>
     intro k hk
     rcases Nat.lt_or_ge b k with hb|hb
     · --step back by the period
       have hper: ∀d,b+d≤n+1→s (a+d)=s (b+d):=by
         intro d
         induction d with
         |zero=>intro _;exact h3
         |succ d ihd=>
          intro hd
          have e1:=hs (a+d) (ih _ (by omega))
          have e2:=hs (b+d) (ih _ (by omega))
          rw [show a+(d+1)=a+d+1 by omega,show b+(d+1)=b+d+1 by omega,e1,e2,ihd (by omega)]
       have:=hper (k -b) (by omega)
       rw [show b+(k -b)=k by omega] at this
       rw [←this]
       exact ih _ (by omega)
     · exact hin k (by omega)
  exact fun k=>hall k k (Nat.le_refl _)
end Go.Sy
set_option linter.unusedVariables false
set_option linter.unusedSimpArgs false
set_option maxRecDepth 100000
namespace Go.Proofs.YtdjilaofmdhikaaGreatDoor
open Go.RowKit Go.Sy
def cntB:Nat→(Nat→Bool)→Nat
  |0,_=>0
  |n+1,p=>cntB n p+(bif p n then 1 else 0)
def anyB (n:Nat) (p:Nat→Bool):Bool:=!allB n fun i=>!p i
theorem cntB_le (p:Nat→Bool): ∀n,cntB n p≤n
  |0=>Nat.le_refl _
  |n+1=>by have:=cntB_le p n;unfold cntB;cases p n<;>simp<;>omega
theorem anyB_iff {n:Nat} {p:Nat→Bool}:anyB n p=true↔ ∃i,i<n∧p i=true:=by
  unfold anyB
  cases h:allB n fun i=>!p i with
  |true=>
   simp only [Bool.not_true,Bool.false_eq_true,false_iff]
   rintro ⟨i,hi,hp⟩
   have:=allB_iff.1 h i hi
   simp [hp] at this
  |false=>
   simp only [Bool.not_false,true_iff]
   refine Classical.byContradiction fun hn=>?_
   rw [allB_iff.2] at h
   · cases h
   · intro i hi
     cases hp:p i
     · rfl
     · exact absurd ⟨i,hi,hp⟩ hn
theorem anyB_false {n:Nat} {p:Nat→Bool}:anyB n p=false↔ ∀i,i<n→p i=false:=by
  constructor
  · intro h i hi
    cases hp:p i
    · rfl
    · rw [anyB_iff.2 ⟨i,hi,hp⟩] at h;cases h
  · intro h
    cases hq:anyB n p
    · rfl
    · obtain ⟨i,hi,hp⟩:=anyB_iff.1 hq
      rw [h i hi] at hp;cases hp
theorem anyB_succ (n:Nat) (p:Nat→Bool):anyB (n+1) p=(anyB n p||p n):=by
  show (!(allB n (fun i=>!p i)&&!p n))=(!allB n (fun i=>!p i)||p n)
  cases allB n (fun i=>!p i)<;>cases p n<;>rfl
def sumN:Nat→(Nat→Nat)→Nat
  |0,_=>0
  |n+1,f=>sumN n f+f n
theorem sumN_le {f:Nat→Nat} {b:Nat}: ∀{n:Nat},(∀i,i<n→f i≤b)→sumN n f≤n*b
  |0,_=>by simp [sumN]
  |n+1,h=>by
   have h1:=sumN_le (n:=n) fun i hi=>h i (by omega)
   have h2:=h n (by omega)
   unfold sumN;rw [Nat.succ_mul];omega
def fstE (n:Nat) (p:Nat→Bool) (e:Int) (r:Int×Int):Int×Int:=bif Nat.blt (fstB n p) n then (e,((fstB n p:Nat):Int)) else r
theorem fstE_at {n i:Nat} {p:Nat→Bool} {e:Int} {r:Int×Int} (hb: ∀j,j<i→p j=false) (hp:p i=true) (hi:i<n):fstE n p e r=(e,((i:Nat):Int)):=by
  unfold fstE;rw [fstB_at hb hp hi,blt_t hi];rfl
theorem fstE_none {n:Nat} {p:Nat→Bool} {e:Int} {r:Int×Int} (h: ∀j,j<n→p j=false):fstE n p e r=r:=by
  unfold fstE;rw [fstB_none h,blt_f (Nat.le_refl _)];rfl
theorem fstB_spec {p:Nat→Bool}: ∀{n:Nat},fstB n p<n→p (fstB n p)=true∧ ∀j,j<fstB n p→p j=false:=by
  intro n h
  rcases Classical.em (∃i,i<n∧p i=true) with hx|hx
  · --the least one
    have key: ∀k i,i≤k→i<n→p i=true→ ∃m,m<n∧p m=true∧ ∀j,j<m→p j=false:=by
      intro k
      induction k with
      |zero=>
       intro i hi hn hp
       exact ⟨i,hn,hp,fun j hj=>absurd hj (by omega)⟩
      |succ k ih=>
       intro i hi hn hp
       rcases Classical.em (∃j,j<i∧p j=true) with ⟨j,hj,hpj⟩|hno
       · exact ih j (by omega) (by omega) hpj
       · refine ⟨i,hn,hp,fun j hj=>?_⟩
         cases hq:p j
         · rfl
         · exact absurd ⟨j,hj,hq⟩ hno
    obtain ⟨i,hi,hp⟩:=hx
    obtain ⟨m,h1,h2,h3⟩:=key i i (Nat.le_refl _) hi hp
    rw [fstB_at h3 h2 h1]
    exact ⟨h2,h3⟩
  · have: ∀j,j<n→p j=false:=fun j hj=>by
      cases hq:p j
      · rfl
      · exact absurd ⟨j,hj,hq⟩ hx
    rw [fstB_none this] at h
    omega
theorem fstB_lt {n i:Nat} {p:Nat→Bool} (hi:i<n) (hp:p i=true):fstB n p<n:=by
  rcases Nat.lt_or_ge (fstB n p) n with h|h
  · exact h
  · have e:fstB n p=n:=Nat.le_antisymm (fstB_le p n) h
    rcases Classical.em (∃j,j<i+1∧p j=true∧ ∀k,k<j→p k=false) with ⟨j,h1,h2,h3⟩|hno
    · rw [fstB_at h3 h2 (by omega)] at h;omega
    · exfalso
      have: ∀k,k<i+1→p k=false:=by
        intro k
        induction k using Nat.strongRecOn with
        |_ k ih=>
         intro hk
         cases hq:p k
         · rfl
         · exact absurd ⟨k,hk,hq,fun j hj=>ih j hj (by omega)⟩ hno
      rw [this i (by omega)] at hp;cases hp
theorem fstE_congr {n:Nat} {p q:Nat→Bool} {e:Int} {r r':Int×Int} (h: ∀i,i<n→p i=q i) (hr:(∀i,i<n→p i=false)→r=r'):fstE n p e r=fstE n q e r':=by
  rcases Nat.lt_or_ge (fstB n p) n with h1|h1
  · obtain ⟨h2,h3⟩:=fstB_spec h1
    rw [fstE_at h3 h2 h1,fstE_at (p:=q) (fun j hj=>by rw [←h j (by omega)];exact h3 j hj) (by rw [←h _ h1];exact h2) h1]
  · have: ∀i,i<n→p i=false:=fun i hi=>by
      cases hq:p i
      · rfl
      · have:=fstB_lt hi hq;omega
    rw [fstE_none this,fstE_none (fun j hj=>by rw [←h j hj];exact this j hj),hr this]
theorem fstE_zero {n:Nat} {p:Nat→Bool} {e:Int} {r:Int×Int} (he:e≠0) (h:(fstE n p e r).1=0):(∀i,i<n→p i=false)∧r.1=0:=by
  rcases Nat.lt_or_ge (fstB n p) n with h1|h1
  · obtain ⟨h2,h3⟩:=fstB_spec h1
    rw [fstE_at h3 h2 h1] at h;exact absurd h he
  · have: ∀i,i<n→p i=false:=fun i hi=>by
      cases hq:p i
      · rfl
      · have:=fstB_lt hi hq;omega
    rw [fstE_none this] at h
    exact ⟨this,h⟩
def kof (W:Wd) (f:Int):Int:=bif decide (f<0)||decide ((W.nKinds:Int)≤f) then -1 else W.kinds f.toNat
theorem kof_in {W:Wd} {f:Int} (h:kof W f≠ -1):0≤f∧f<W.nKinds:=by
  unfold kof at h
  cases h1:decide (f<0)<;>cases h2:decide ((W.nKinds:Int)≤f)<;>simp [h1,h2] at h<;>simp at h1 h2<;>omega
theorem kof_eq {W:Wd} {f:Int} (h:0≤f∧f<W.nKinds):kof W f=W.kinds f.toNat:=by
  unfold kof;rw [decide_eq_false (by omega),decide_eq_false (by omega)];rfl
theorem kof_out {W:Wd} {f:Int} (h:f<0∨W.nKinds≤f):kof W f= -1:=by
  unfold kof
  rcases h with h|h
  · rw [decide_eq_true h];rfl
  · rw [decide_eq_true h];cases decide (f<0)<;>rfl
def szBad (W:Wd):Bool:=
  decide (W.nKinds<1)||decide (24<W.nKinds)||decide (W.nCores<1)||decide (4<W.nCores)||W.nRam !=W.nKinds*16||W.nSlots !=W.nKinds*16||W.nTasks !=W.nKinds||W.nLines !=W.nKinds||W.nBits !=W.nKinds||W.nReady !=W.nCores*4||W.nTlbs !=W.nCores||decide (W.nDoms<1)||decide (8<W.nDoms)||farB W.time 1000000
structure Szd (W:Wd):Prop where
  k0:1≤W.nKinds
  k1:W.nKinds≤24
  c0:1≤W.nCores
  c1:W.nCores≤4
  ram:W.nRam=W.nKinds*16
  slots:W.nSlots=W.nKinds*16
  tasks:W.nTasks=W.nKinds
  lines:W.nLines=W.nKinds
  bits:W.nBits=W.nKinds
  ready:W.nReady=W.nCores*4
  tlbs:W.nTlbs=W.nCores
  d0:1≤W.nDoms
  d1:W.nDoms≤8
  t0:0≤W.time
  t1:W.time≤1000000
theorem szd_of {W:Wd} (h:szBad W=false):Szd W:=by
  unfold szBad farB at h
  simp only [Bool.or_eq_false_iff,decide_eq_false_iff_not,bne_eq_false_iff_eq] at h
  obtain ⟨⟨⟨⟨⟨⟨⟨⟨⟨⟨⟨⟨⟨h1,h2⟩,h3⟩,h4⟩,h5⟩,h6⟩,h7⟩,h8⟩,h9⟩,h10⟩,h11⟩,h12⟩,h13⟩,h14,h15⟩:=h
  exact ⟨by omega,by omega,by omega,by omega,h5,h6,h7,h8,h9,h10,h11,by omega,by omega,by omega,by omega⟩
def smB (W:Wd):Prop:=(∀i,i<W.nLines→W.linesN i≤50)∧(∀i,i<W.nReady→W.readyN i≤50)∧(∀i,i<W.nTlbs→W.tlbsN i≤50)
def slNo (s:Slt):Int:=keyNo s.kind s.base s.len s.mark s.rights s.badge
def inS (W:Wd) (u:Int):Bool:=decide (0≤u)&&decide (u<W.nSlots)
def upS (W:Wd) (u:Int):Int:=bif inS W u then (W.slots u.toNat).from_ else u
def upK (W:Wd) (u:Int):Nat→Int
  |0=>u
  |k+1=>upS W (upK W u k)
def madeB (k p:Slt):Bool:=
  slNo p==0&&bif p.kind==1 then k.kind !=1&&decide (p.base≤k.base)&&decide (k.base -p.base<p.mark) else k.kind==p.kind&&k.base==p.base&&(p.badge==0||p.badge==k.badge)&&(((bitw 6 p.rights.toNat k.rights.toNat:Nat):Int)==k.rights)
def slBs (W:Wd) (i:Nat) (s:Slt):Bool:=
  bif s.kind==0 then slNo s==0&&s.from_== -1 else
  W.kinds (i/16)==5&&slNo s==0&&decide (s.base+s.len≤W.nKinds)&&(s.kind==1||W.kinds s.base.toNat==s.kind)&&
  (s.from_== -1||(inS W s.from_&&madeB s (W.slots s.from_.toNat)&&!inS W (upK W s.from_ W.nSlots)))
def slB (W:Wd) (i:Nat):Bool:=slBs W i (W.slots i)
theorem slBs_no {W:Wd} {i:Nat} {s:Slt} (h:slBs W i s=true):slNo s=0:=by
  unfold slBs at h
  cases hk:s.kind==0<;>simp only [hk,cond_true,cond_false,Bool.and_eq_true,beq_iff_eq] at h
  · exact h.1.1.1.2
  · exact h.1
theorem slNo_range {s:Slt} (h:slNo s=0):0≤s.kind∧s.kind≤8∧0≤s.base∧s.base≤24∧0≤s.len∧s.len≤24∧0≤s.mark∧s.mark≤24∧0≤s.rights∧s.rights≤7∧0≤s.badge∧s.badge≤65535:=keyNo_range h
theorem snocF {p:Nat→Bool} {i:Nat} (h: ∀j,j<i→p j=false) (hi:p i=false): ∀j,j<i+1→p j=false:=by
  intro j hj
  rcases Nat.lt_or_ge j i with h3|h3
  · exact h j h3
  · obtain rfl:j=i:=by omega
    exact hi
theorem upS_in {W:Wd} {u:Int} (h:inS W u=true):upS W u=(W.slots u.toNat).from_:=by unfold upS;rw [h];rfl
theorem upS_out {W:Wd} {u:Int} (h:inS W u=false):upS W u=u:=by unfold upS;rw [h];rfl
theorem inS_iff {W:Wd} {u:Int}:inS W u=true↔0≤u∧u<W.nSlots:=by unfold inS;simp
theorem upK_out {W:Wd} {u:Int} {k:Nat} (h:inS W (upK W u k)=false): ∀{m:Nat},k≤m→upK W u m=upK W u k
  |m,hm=>by
   induction m with
   |zero=>obtain rfl:k=0:=by omega
          rfl
   |succ m ih=>
    rcases Nat.lt_or_ge m k with h1|h1
    · obtain rfl:k=m+1:=by omega
      rfl
    · show upS W (upK W u m)=_
      rw [ih h1,upS_out h]
def clayAt (s:Slt) (f:Nat):Bool:=s.kind==1&&decide (s.base≤f)&&decide ((f:Int)<s.base+s.len)
def freeAt (s:Slt) (f:Nat):Bool:=clayAt s f&&decide (s.base+s.mark≤f)
def keyAt (s:Slt) (f:Nat):Bool:=s.kind !=1&&s.kind !=0&&s.base==f
def frB (W:Wd) (f:Nat):Bool:=
  decide (cntB W.nSlots (fun i=>clayAt (W.slots i) f)≤1)&&(W.kinds f==0||(decide (0<cntB W.nSlots fun i=>keyAt (W.slots i) f)&&!anyB W.nSlots fun i=>freeAt (W.slots i) f))
def cntL (n:Nat) (l:Nat→Int) (x:Int):Nat:=cntB n fun k=>l k==x
def cntLL (n:Nat) (ln:Nat→Nat) (l:Nat→Nat→Int) (x:Int):Nat:=sumN n fun i=>cntL (ln i) (l i) x
def inB' (n:Nat) (l:Nat→Int) (x:Int):Bool:=anyB n fun k=>l k==x
def regFar (t:Run):Bool:=farB t.r0 65535||farB t.r1 65535||farB t.r2 65535||farB t.r3 65535||farB t.r4 65535||farB t.r5 65535||farB t.r6 65535||farB t.r7 65535
def numFar (W:Wd) (t:Run):Bool:=farB t.pc 65535||farB t.word 65535||farB t.badge 65535||farB t.st 6||farB t.prio 3||farB t.core (W.nCores -1)||farB t.dom 3
def okF (W:Wd) (f k:Int):Bool:=f== -1||kof W f==k
def refOK (W:Wd) (t:Run):Bool:=okF W t.node 5&&okF W t.space 4&&okF W t.helper 7&&okF W t.owes 6
def owesOK (W:Wd) (t:Run):Bool:=t.owes== -1||((W.tasks t.owes.toNat).st==5&&t.st !=4)
def owed (W:Wd) (f:Nat):Nat:=cntB W.nTasks fun i=>(W.tasks i).owes==f
def owedOK (W:Wd) (f:Nat):Bool:=decide (owed W f≤1)&&((owed W f==1)==((W.tasks f).st==5))
def stands (W:Wd) (f:Nat):Nat:=cntLL W.nLines W.linesN W.lines f
def turnsN (W:Wd) (f:Nat):Nat:=cntLL W.nReady W.readyN W.ready f+cntL W.nCores W.cores f
def standOK (W:Wd) (f:Nat) (k:Int):Bool:=(stands W f==1)&&(turnsN W f==0)&&kof W (W.tasks f).loc==k&&inB' (W.linesN (W.tasks f).loc.toNat) (W.lines (W.tasks f).loc.toNat) f
def stOK (W:Wd) (f:Nat):Bool:=
  let s:=(W.tasks f).st
  bif s==2||s==3||s==4 then standOK W f 7 else bif s==6 then standOK W f 8 else
  bif s==1 then (stands W f==0)&&(turnsN W f==1)&&(W.tasks f).loc== -1 else (stands W f==0)&&(turnsN W f==0)&&(W.tasks f).loc== -1
def tkB (W:Wd) (f:Nat):Bool:=
  let t:=W.tasks f
  bif W.kinds f !=6 then runEq t Run.blank else !regFar t&&!numFar W t&&refOK W t&&owesOK W t&&owedOK W f&&stOK W f
def wtB (W:Wd) (t:Int):Bool:=(W.tasks t.toNat).st==4
def lnTest (W:Wd) (f:Nat) (t:Int):Bool:=kof W t==6&&(W.tasks t.toNat).loc==f&&(wtB W t==wtB W (W.lines f 0))
def lnB (W:Wd) (f:Nat):Bool:=
  !(decide (0<W.linesN f)&&W.kinds f !=7&&W.kinds f !=8)&&!(W.bits f !=0&&(W.kinds f !=8||decide (0<W.linesN f)))&&!farB (W.bits f) 65535&&allB (W.linesN f) fun i=>lnTest W f (W.lines f i)
def rdB (W:Wd) (t c p:Int):Bool:=kof W t==6&&(W.tasks t.toNat).st==1&&(W.tasks t.toNat).core==c&&(decide (p<0)||(W.tasks t.toNat).prio==p)
def coB (W:Wd) (c:Nat):Bool:=W.cores c== -1||rdB W (W.cores c) c (-1)
def rlB (W:Wd) (i:Nat):Bool:=allB (W.readyN i) fun k=>rdB W (W.ready i k) ((i/4:Nat):Int) ((i%4:Nat):Int)
def enB (W:Wd) (i:Nat):Bool:=
  let x:=W.ram i
  let k:=W.kinds (i/16)
  x==0||(k !=3&&k !=4)||(bif k==4 then x -x%1024==32768&&kof W (x%1024)==3 else (x -x%1024==32768||x -x%1024==49152)&&kof W (x%1024)==2)
def tlT (W:Wd) (l:Nat→Ent4) (i:Nat):Bool:=
  kof W (l i).sp==4&&!farB (l i).pg 255&&wkE W.nRam W.ram (l i).sp (16*(l i).pg)==0&&wkF W.nRam W.ram (l i).sp (16*(l i).pg)==(l i).fr&&(wkW W.nRam W.ram (l i).sp (16*(l i).pg)==(l i).wr)&&!anyB i fun k=>(l k).sp==(l i).sp&&(l k).pg==(l i).pg
def tlB (W:Wd) (n:Nat) (l:Nat→Ent4):Bool:=decide (n≤4)&&allB n fun i=>tlT W l i
def wm1 (W:Wd) (r:Int×Int):Int×Int:=fstE W.nRam (fun i=>farB (W.ram i) 65535) 1<|fstE W.nKinds (fun i=>farB (W.kinds i) 8||W.kinds i==1) 3<|fstE W.nDoms (fun i=>farB (W.doms i) 3) 2 r
def wm2 (W:Wd) (r:Int×Int):Int×Int:=fstE W.nSlots (fun i=>!slB W i) 8 r
def wm3 (W:Wd) (r:Int×Int):Int×Int:=fstE W.nKinds (fun i=>!frB W i) 8 r
def wm4 (W:Wd) (r:Int×Int):Int×Int:=fstE W.nKinds (fun i=>!tkB W i) 8 r
def wm5 (W:Wd) (r:Int×Int):Int×Int:=fstE W.nKinds (fun i=>!lnB W i) 8 r
def wm6 (W:Wd) (r:Int×Int):Int×Int:=fstE W.nCores (fun i=>!coB W i) 8<|fstE W.nReady (fun i=>!rlB W i) 8 r
def wm7 (W:Wd) (r:Int×Int):Int×Int:=fstE W.nRam (fun i=>!enB W i) 9<|fstE W.nCores (fun i=>!tlB W (W.tlbsN i) (W.tlbs i)) 9 r
def wm (W:Wd):Int×Int:=bif szBad W then (2,-1) else wm1 W (wm2 W (wm3 W (wm4 W (wm5 W (wm6 W (wm7 W (0,-1)))))))
end Go.Proofs.YtdjilaofmdhikaaGreatDoor
set_option linter.unusedVariables false
set_option linter.unusedSimpArgs false
set_option maxRecDepth 100000
namespace Go.Proofs.YtdjilaofmdhikaaGreatDoor
open Go.RowKit Go.Sy
def an_in (n:Nat) (l:Nat→Int) (x:Int):Ann where
  σ:=Nat
  rt:= []
  sh i:= [(5,.v (.int .i64 i))]
  mh _:= []
  inv i:=i≤n∧ ∀j,j<i→(l j==x)=false
  μ i:=n -i
  init:=0
def an_ho1 (n:Nat) (ln:Nat→Nat) (l:Nat→Nat→Int) (x:Int):Ann where
  σ:=Nat
  rt:= []
  sh i:= [(6,.v (.int .i64 i)),(5,.v (.int .i64 (cntLL i ln l x:Nat)))]
  mh _:= []
  inv i:=i≤n
  μ i:=n -i
  init:=0
def an_ho2 (ln:Nat→Nat) (l:Nat→Nat→Int) (x:Int) (i c:Int):Ann where
  σ:=Nat
  rt:= []
  sh k:= [(7,.v (.int .i64 k)),(5,.v (.int .i64 (c+(cntB k fun q=>l i.toNat q==x:Nat))))]
  mh _:= []
  inv k:=k≤ln i.toNat
  μ k:=ln i.toNat -k
  init:=0
def an_fw (W:Wd) (f:Nat):Ann where
  σ:=Nat
  rt:= [(2,0)]
  sh i:= [(2,pt0 0),(8,.v (.int .i64 i)),(5,.v (.int .i64 (cntB i fun k=>clayAt (W.slots k) f:Nat))),(6,.v (.bool (anyB i fun k=>freeAt (W.slots k) f))),(7,.v (.int .i64 (cntB i fun k=>keyAt (W.slots k) f:Nat)))]
  mh _:= []
  inv i:=i≤W.nSlots
  μ i:=W.nSlots -i
  init:=0
def an_sw (W:Wd) (u:Int):Ann where
  σ:=Nat
  rt:= [(2,0)]
  sh k:= [(2,pt0 0),(9,.v (.int .i64 k)),(8,.v (.int .i64 (upK W u k)))]
  mh _:= []
  inv k:=k≤W.nSlots
  μ k:=W.nSlots -k
  init:=0
structure X_kindOf where
  (W:Wd) (f:Int)
def s_kindOf:Sy.Spec:=⟨X_kindOf,fun ⟨W,f⟩=> [wSV W,.v (.int .i64 f)],fun _=> [],fun _=>True,fun ⟨W,f⟩=> .v (.int .i64 (kof W f)),fun _=> [],
  fun args mem=>match args with| [a0,a1]=>some ⟨wSVD a0,intD (a1)⟩|_=>none⟩
def c_kindOf:Con:=⟨[],(s_kindOf).g,none⟩
def V_kindOf:X_kindOf→Prop:=fun ⟨W,f⟩=>let a0:=cond (decide (f<0)) true (decide (((W.nKinds:Nat):Int)≤f));True∧(a0=true→(-1)=kof W f∧True)∧(a0=false→(0≤f∧f<((W.nKinds:Nat):Int))∧W.kinds (Int.toNat f)=kof W f∧True)
theorem ok_kindOf:FnOK Tryz.prog glN 218 c_kindOf:=ok_of .nil false Tryz.call218 Tryz.func218 (fun _=> []) (V:=V_kindOf) (fun _=>by kernel_rfl) fun ⟨W,f⟩ hp=>by
  dsimp only [V_kindOf,tn,w64]
  simp only [std,stb,eq_self,implies_true,Bool.cond_self]
  refine ⟨fun h=>?_,fun h=>?_⟩
  · rw [Bool.or_eq_true,decide_eq_true_eq,decide_eq_true_eq] at h;exact (kof_out h).symm
  · rw [Bool.or_eq_false_iff,decide_eq_false_iff_not,decide_eq_false_iff_not] at h
    have h2:0≤f∧f<W.nKinds:=by omega
    exact ⟨h2,(kof_eq h2).symm⟩
structure X_inL where
  (x:Int) (n:Nat) (l:Nat→Int)
def s_inL:Sy.Spec:=⟨X_inL,fun ⟨x,n,l⟩=> [.v (.int .i64 x),.sl true 1 n (fun i_ _=> .v (.int .i64 (l i_)))],fun _=> [],fun _=>True,fun ⟨x,n,l⟩=> .v (.bool (inB' n l x)),fun _=> [],
  fun args mem=>match args with| [a0,a1]=>some ⟨intD (a0),slN a1,fun i=>intD (slF a1 i 0)⟩|_=>none⟩
def c_inL:Con:=⟨[],(s_inL).g,none⟩
def V_inL:X_inL→Prop:=fun ⟨x,n,l⟩=>let a0:=(n:Int);0=((0:Nat):Int)∧True∧(0≤n∧(∀b0:Nat,b0<0→(l b0==x)=false))∧(∀c0:Nat,let d0:=(c0:Int);let e0:=decide (d0<a0);let g0:=l (Int.toNat d0)==x;let h0:Int:=d0+1;c0≤n∧(∀k0:Nat,k0<c0→(l k0==x)=false)→a0≤9223372036854775807→(e0=true→(0≤d0∧d0<a0)∧(g0=true→true=inB' n l x∧True)∧(g0=false→w64 h0=h0∧(∃l0:Nat,h0=(l0:Int)∧True∧(l0≤n∧(∀o0:Nat,o0<l0→(l o0==x)=false))∧n-l0<n-c0)))∧(e0=false→false=inB' n l x∧True))
theorem ok_inL:FnOK Tryz.prog glN 101 c_inL:=ok_of .nil false Tryz.call101 Tryz.func101 (fun ⟨x,n,l⟩=> [.inv (an_in n l x)]) (V:=V_inL) (fun _=>by kernel_rfl) fun ⟨x,n,l⟩ hp=>by
  dsimp only [V_inL,tn,w64]
  simp only [std,eq_self,implies_true,Bool.cond_self]
  intro s hs hn
  refine ⟨fun h=>?_,fun h=>?_⟩
  · have hlt:=lt_of_dec h
    refine ⟨by omega,fun h=>(anyB_iff.2 ⟨s,hlt,h⟩).symm,fun h=>⟨by rw [IntKind.wrap_i64];omega,exS ⟨⟨by omega,snocF (p:=fun j=>l j==x) hs.2 h⟩,by omega⟩⟩⟩
  · have hge:=ge_of_dec h
    obtain rfl:s=n:=by omega
    exact (anyB_false.2 hs.2).symm
structure X_howOften where
  (n:Nat) (ln:Nat→Nat) (l:Nat→Nat→Int) (x:Int)
def s_howOften:Sy.Spec:=⟨X_howOften,fun ⟨n,ln,l,x⟩=> [.sl true 1 n (fun i _=> .sl true 1 (ln i) (iF (l i))),.v (.int .i64 x)],fun _=> [],fun ⟨n,ln,_,_⟩=>n≤1000∧ ∀i,i<n→ln i≤1000,fun ⟨n,ln,l,x⟩=> .v (.int .i64 (cntLL n ln l x:Nat)),fun _=> [],
  fun args mem=>match args with| [a0,a1]=>some ⟨slN a0,fun i=>slN (slF a0 i 0),fun i k=>intD (slF (slF a0 i 0) k 0),intD (a1)⟩|_=>none⟩
def c_howOften:Con:=⟨[],(s_howOften).g,none⟩
def V_howOften:X_howOften→Prop:=fun ⟨n,ln,l,x⟩=>let a0:=(n:Int);0=((0:Nat):Int)∧0=((cntLL 0 ln l x:Nat):Int)∧True∧0≤n∧(∀b0:Nat,let c0:=(b0:Int);let d0:=decide (c0<a0);let e0:=((cntLL b0 ln l x:Nat):Int);let g0:=Int.toNat c0;let h0:=ln g0;let k0:=0≤c0∧c0<a0;let l0:=(h0:Int);let o0:Int:=c0+1;b0≤n→a0≤9223372036854775807→(d0=true→0=((0:Nat):Int)∧e0=e0+((cntB 0 (fun q0:Nat=>l g0 q0==x):Nat):Int)∧True∧0≤h0∧(∀r0:Nat,let u0:=(r0:Int);let v0:=decide (u0<l0);let w0:=l g0 (Int.toNat u0)==x;let x0:Int:=e0+((cntB r0 (fun y0:Nat=>l g0 y0==x):Nat):Int);let z0:Int:=x0+1;let a1:Int:=u0+1;let b1:=w64 a1=a1;r0≤h0→k0∧(l0≤9223372036854775807→(v0=true→k0∧(0≤u0∧u0<l0)∧(w0=true→w64 z0=z0∧b1∧(∃c1:Nat,a1=(c1:Int)∧z0=e0+((cntB c1 (fun d1:Nat=>l g0 d1==x):Nat):Int)∧True∧c1≤h0∧h0-c1<h0-r0))∧(w0=false→b1∧(∃e1:Nat,a1=(e1:Int)∧x0=e0+((cntB e1 (fun g1:Nat=>l g0 g1==x):Nat):Int)∧True∧e1≤h0∧h0-e1<h0-r0)))∧(v0=false→w64 o0=o0∧(∃h1:Nat,o0=(h1:Int)∧x0=((cntLL h1 ln l x:Nat):Int)∧True∧h1≤n∧n-h1<n-b0)))))∧(d0=false→e0=((cntLL n ln l x:Nat):Int)∧True))
theorem ok_howOften:FnOK Tryz.prog glN 219 c_howOften:=ok_of .nil false Tryz.call219 Tryz.func219 (fun ⟨n,ln,l,x⟩=> [.inv (an_ho1 n ln l x),.invF false fun fr=>an_ho2 ln l x (intD (fr 6)) (intD (fr 5))]) (V:=V_howOften) (fun _=>by kernel_rfl) fun ⟨n,ln,l,x⟩ hp=>by
  dsimp only [s_howOften] at hp
  dsimp only [V_howOften,tn,w64]
  simp only [std,eq_self,implies_true,Bool.cond_self]
  refine ⟨rfl,fun s hs hn=>⟨fun h=>?_,fun h=>?_⟩⟩
  · have hlt:=lt_of_dec h
    have hl:=hp.2 s hlt
    have hc:cntLL s ln l x≤s*1000:=sumN_le fun i hi=>Nat.le_trans (cntB_le _ _) (hp.2 i (by omega))
    refine ⟨by simp [cntB],fun k hk=>⟨by omega,fun hm=>⟨fun h2=>?_,fun h2=>?_⟩⟩⟩
    · have hlt2:=lt_of_dec h2
      have hb:=cntB_le (fun q=>l s q==x) k
      refine ⟨by omega,by omega,fun h3=>?_,fun h3=>?_⟩
      · have e:(cntB (k+1) fun q=>l s q==x)=(cntB k fun q=>l s q==x)+1:=by simp [cntB,h3]
        exact ⟨by rw [IntKind.wrap_i64];omega,by rw [IntKind.wrap_i64];omega,exS ⟨by rw [e];omega,by omega,by omega⟩⟩
      · have e:(cntB (k+1) fun q=>l s q==x)=(cntB k fun q=>l s q==x):=by simp [cntB,h3]
        exact ⟨by rw [IntKind.wrap_i64];omega,exS ⟨by rw [e],by omega,by omega⟩⟩
    · have hge:=ge_of_dec h2
      obtain rfl:k=ln s:=by omega
      refine ⟨by rw [IntKind.wrap_i64];omega,exS ⟨?_,by omega,by omega⟩⟩
      rw [show cntLL (s+1) ln l x=cntLL s ln l x+cntB (ln s) (fun q=>l s q==x) from rfl];omega
  · have hge:=ge_of_dec h
    obtain rfl:s=n:=by omega
    rfl
structure X_readyAt where
  (W:Wd) (t c p:Int)
def s_readyAt:Sy.Spec:=⟨X_readyAt,fun ⟨W,t,c,p⟩=> [wSV W,.v (.int .i64 t),.v (.int .i64 c),.v (.int .i64 p)],fun _=> [],fun ⟨W,_,_,_⟩=>Szd W,fun ⟨W,t,c,p⟩=> .v (.bool (rdB W t c p)),fun _=> [],
  fun args mem=>match args with| [a0,a1,a2,a3]=>some ⟨wSVD a0,intD (a1),intD (a2),intD (a3)⟩|_=>none⟩
def c_readyAt:Con:=⟨[],(s_readyAt).g,none⟩
def V_readyAt:X_readyAt→Prop:=fun ⟨W,t,c,p⟩=>let a0:=W.nKinds;let b0:=W.nSlots;let c0:=W.nTasks;let d0:=W.nLines;let e0:=W.nCores;let g0:=W.nReady;let h0:=kof W t==6;let k0:=0≤t∧t<(c0:Int);let l0:=W.tasks (Int.toNat t);let o0:=cond h0 (l0.st==1) false;let q0:=cond o0 (l0.core==c) false;True∧(((((((((((((True∧W.nRam=W.nRam∧(∀u0:Nat,u0<W.nRam→True∧W.ram u0=W.ram u0))∧a0=a0∧(∀v0:Nat,v0<a0→True∧W.kinds v0=W.kinds v0))∧b0=b0∧(∀w0:Nat,let x0:=W.slots w0;let y0:=x0.kind;let z0:=x0.base;let a1:=x0.len;let b1:=x0.mark;let c1:=x0.rights;let d1:=x0.badge;let e1:=x0.from_;w0<b0→((((((True∧y0=y0)∧z0=z0)∧a1=a1)∧b1=b1)∧c1=c1)∧d1=d1)∧e1=e1))∧c0=c0∧(∀g1:Nat,let h1:=W.tasks g1;let k1:=h1.prio;let l1:=h1.node;let o1:=h1.space;let q1:=h1.helper;let u1:=h1.loc;let v1:=h1.word;let w1:=h1.badge;let x1:=h1.owes;let y1:=h1.core;let z1:=h1.dom;g1<c0→(((((((((((((((((((True∧h1.r0=h1.r0)∧h1.r1=h1.r1)∧h1.r2=h1.r2)∧h1.r3=h1.r3)∧h1.r4=h1.r4)∧h1.r5=h1.r5)∧h1.r6=h1.r6)∧h1.r7=h1.r7)∧h1.pc=h1.pc)∧h1.st=h1.st)∧k1=k1)∧l1=l1)∧o1=o1)∧q1=q1)∧u1=u1)∧v1=v1)∧w1=w1)∧x1=x1)∧y1=y1)∧z1=z1))∧d0=d0∧(∀a2:Nat,let b2:=W.linesN a2;a2<d0→True∧b2=b2∧(∀c2:Nat,c2<b2→True∧W.lines a2 c2=W.lines a2 c2)))∧W.nBits=W.nBits∧(∀d2:Nat,d2<W.nBits→True∧W.bits d2=W.bits d2))∧e0=e0∧(∀e2:Nat,e2<e0→True∧W.cores e2=W.cores e2))∧g0=g0∧(∀g2:Nat,let h2:=W.readyN g2;g2<g0→True∧h2=h2∧(∀k2:Nat,k2<h2→True∧W.ready g2 k2=W.ready g2 k2)))∧W.nTlbs=W.nTlbs∧(∀l2:Nat,let o2:=W.tlbsN l2;l2<W.nTlbs→True∧o2=o2∧(∀q2:Nat,let u2:=W.tlbs l2 q2;let v2:=u2.sp;let w2:=u2.pg;let x2:=u2.fr;let y2:=u2.wr;q2<o2→
    (((True∧v2=v2)∧w2=w2)∧x2=x2)∧y2=y2)))∧W.nDoms=W.nDoms∧(∀z2:Nat,z2<W.nDoms→True∧W.doms z2=W.doms z2))∧W.time=W.time)∧t=t∧True)∧True∧True)∧(h0=true→k0)∧(o0=true→k0)∧(decide (p<0)=false→q0=true→k0)∧cond q0 (cond (decide (p<0)) true (l0.prio==p)) false=rdB W t c p∧True
theorem ok_readyAt:FnOK Tryz.prog glN 172 c_readyAt:=ok_of (.cons ok_kindOf .nil) false Tryz.call172 Tryz.func172 (fun _=> []) (V:=V_readyAt) (fun _=>by kernel_rfl) fun ⟨W,t,c,p⟩ hp=>by
  dsimp only [s_readyAt] at hp
  dsimp only [V_readyAt,tn,w64]
  simp only [std,stb,eq_self,implies_true,Bool.cond_self]
  have hr:(kof W t==6)=true→0≤t∧t<W.nTasks:=fun h=>by
    have:=kof_in (W:=W) (f:=t) (by rw [eq_of_beq h];decide)
    rw [hp.tasks];exact this
  refine ⟨hr,fun h=>hr (by revert h;cases kof W t==6<;>simp),fun _ h=>hr (by revert h;cases kof W t==6<;>simp),rfl⟩
structure X_frameWell where
  (W:Wd) (f:Int)
def s_frameWell:Sy.Spec:=⟨X_frameWell,fun ⟨W,f⟩=> [wSV W,.v (.int .i64 f)],fun _=> [],fun ⟨W,f⟩=>Szd W∧0≤f∧f<W.nKinds∧ ∀i,i<W.nSlots→slB W i=true,fun ⟨W,f⟩=> .v (.bool (frB W f.toNat)),fun _=> [],
  fun args mem=>match args with| [a0,a1]=>some ⟨wSVD a0,intD (a1)⟩|_=>none⟩
def c_frameWell:Con:=⟨[],(s_frameWell).g,none⟩
def V_frameWell:X_frameWell→Prop:=fun ⟨W,f⟩=>let a0:=SV.ptr 0 0 none 0 0=SV.ptr 0 0 none 0 0;let b0:=Int.toNat f;let c0:=W.nKinds;let d0:=W.nSlots;let e0:=W.nTasks;let g0:=W.nLines;let h0:=W.nCores;let k0:=W.nReady;
    let l0:=(((((((((((True∧W.nRam=W.nRam∧(∀o0:Nat,o0<W.nRam→True∧W.ram o0=W.ram o0))∧c0=c0∧(∀q0:Nat,q0<c0→True∧W.kinds q0=W.kinds q0))∧d0=d0∧(∀u0:Nat,let v0:=W.slots u0;let w0:=v0.kind;let x0:=v0.base;let y0:=v0.len;let z0:=v0.mark;let a1:=v0.rights;let b1:=v0.badge;let c1:=v0.from_;u0<d0→((((((True∧w0=w0)∧x0=x0)∧y0=y0)∧z0=z0)∧a1=a1)∧b1=b1)∧c1=c1))∧e0=e0∧(∀d1:Nat,let e1:=W.tasks d1;let g1:=e1.prio;let h1:=e1.node;let k1:=e1.space;let l1:=e1.helper;let o1:=e1.loc;let q1:=e1.word;let u1:=e1.badge;let v1:=e1.owes;let w1:=e1.core;let x1:=e1.dom;d1<e0→(((((((((((((((((((True∧e1.r0=e1.r0)∧e1.r1=e1.r1)∧e1.r2=e1.r2)∧e1.r3=e1.r3)∧e1.r4=e1.r4)∧e1.r5=e1.r5)∧e1.r6=e1.r6)∧e1.r7=e1.r7)∧e1.pc=e1.pc)∧e1.st=e1.st)∧g1=g1)∧h1=h1)∧k1=k1)∧l1=l1)∧o1=o1)∧q1=q1)∧u1=u1)∧v1=v1)∧w1=w1)∧x1=x1))∧g0=g0∧(∀y1:Nat,let z1:=W.linesN y1;y1<g0→True∧z1=z1∧(∀a2:Nat,a2<z1→True∧W.lines y1 a2=W.lines y1 a2)))∧W.nBits=W.nBits∧(∀b2:Nat,b2<W.nBits→True∧W.bits b2=W.bits b2))∧h0=h0∧(∀c2:Nat,c2<h0→True∧W.cores c2=W.cores c2))∧k0=k0∧(∀d2:Nat,let e2:=W.readyN d2;d2<k0→True∧e2=e2∧(∀g2:Nat,g2<e2→True∧W.ready d2 g2=W.ready d2 g2)))∧W.nTlbs=W.nTlbs∧(∀h2:Nat,let k2:=W.tlbsN h2;h2<W.nTlbs→True∧k2=k2∧(∀l2:Nat,let o2:=W.tlbs h2 l2;let q2:=o2.sp;let u2:=o2.pg;let v2:=o2.fr;let w2:=o2.wr;l2<k2→(((True∧q2=q2)∧u2=u2)∧v2=v2)∧w2=w2)))∧W.nDoms=W.nDoms∧(∀x2:Nat,x2<W.nDoms→True∧W.doms x2=W.doms x2))∧W.time=W.time)∧True;let y2:=(d0:Int);True∧a0∧0=((0:Nat):Int)∧0=((cntB 0 (fun z2:Nat=>clayAt (W.slots z2) b0):Nat):Int)∧
    false=anyB 0 (fun a3:Nat=>freeAt (W.slots a3) b0)∧0=((cntB 0 (fun b3:Nat=>keyAt (W.slots b3) b0):Nat):Int)∧l0∧0≤d0∧(∀c3:Nat,let d3:=(c3:Int);let e3:=decide (d3<y2);let g3:=W.slots (Int.toNat d3);let h3:=g3.kind;let k3:=g3.base;let l3:=cond (h3==1) (decide (k3≤f)) false;let o3:Int:=k3+g3.len;let q3:=cond l3 (decide (f<o3)) false;let u3:=((cntB c3 (fun v3:Nat=>clayAt (W.slots v3) b0):Nat):Int);let w3:Int:=u3+1;let x3:=anyB c3 (fun y3:Nat=>freeAt (W.slots y3) b0);let z3:Int:=k3+g3.mark;let a4:=cond (cond (h3 !=1) (h3 !=0) false) (k3==f) false;let b4:=a4=true;let c4:=((cntB c3 (fun d4:Nat=>keyAt (W.slots d4) b0):Nat):Int);let e4:Int:=c4+1;let g4:=w64 e4=e4;let h4:Int:=d3+1;let k4:=w64 h4=h4;let l4:=cond x3 true (decide (z3≤f));let o4:=d0-c3;let q4:=a4=false;let u4:=decide (u3≤1);c3≤d0→y2≤9223372036854775807→(e3=true→(0≤d3∧d3<y2)∧True∧tn 5 True∧(l3=true→w64 o3=o3)∧(q3=true→w64 w3=w3∧(x3=false→w64 z3=z3)∧(b4→g4∧k4∧(∃v4:Nat,a0∧h4=(v4:Int)∧w3=((cntB v4 (fun w4:Nat=>clayAt (W.slots w4) b0):Nat):Int)∧l4=anyB v4 (fun x4:Nat=>freeAt (W.slots x4) b0)∧e4=((cntB v4 (fun y4:Nat=>keyAt (W.slots y4) b0):Nat):Int)∧l0∧v4≤d0∧d0-v4<o4))∧(q4→k4∧(∃z4:Nat,a0∧h4=(z4:Int)∧w3=((cntB z4 (fun a5:Nat=>clayAt (W.slots a5) b0):Nat):Int)∧l4=anyB z4 (fun b5:Nat=>freeAt (W.slots b5) b0)∧c4=((cntB z4 (fun c5:Nat=>keyAt (W.slots c5) b0):Nat):Int)∧l0∧z4≤d0∧d0-z4<o4)))∧(q3=false→(b4→g4∧k4∧(∃d5:Nat,a0∧h4=(d5:Int)∧u3=((cntB d5 (fun e5:Nat=>clayAt (W.slots e5) b0):Nat):Int)∧
    x3=anyB d5 (fun g5:Nat=>freeAt (W.slots g5) b0)∧e4=((cntB d5 (fun h5:Nat=>keyAt (W.slots h5) b0):Nat):Int)∧l0∧d5≤d0∧d0-d5<o4))∧(q4→k4∧(∃k5:Nat,a0∧h4=(k5:Int)∧u3=((cntB k5 (fun l5:Nat=>clayAt (W.slots l5) b0):Nat):Int)∧x3=anyB k5 (fun o5:Nat=>freeAt (W.slots o5) b0)∧c4=((cntB k5 (fun q5:Nat=>keyAt (W.slots q5) b0):Nat):Int)∧l0∧k5≤d0∧d0-k5<o4))))∧(e3=false→(u4=true→0≤f∧f<(c0:Int))∧cond u4 (cond (W.kinds b0==0) true (cond (decide (0<c4)) (!x3) false)) false=frB W b0∧True))
theorem ok_frameWell:FnOK Tryz.prog glN 169 c_frameWell:=ok_of .nil false Tryz.call169 Tryz.func169 (fun ⟨W,f⟩=> [.inv (an_fw W f.toNat)]) (V:=V_frameWell) (fun _=>by kernel_rfl) fun ⟨W,f⟩ hp=>by
  dsimp only [s_frameWell] at hp
  dsimp only [V_frameWell,tn,w64]
  obtain ⟨hz,f0,f1,hs⟩:=hp
  obtain ⟨F,rfl⟩: ∃F:Nat,f=F:=⟨f.toNat,by omega⟩
  simp only [std,stb,eq_self,implies_true,Bool.cond_self]
  refine ⟨rfl,rfl,rfl,fun s hs0 hn=>⟨fun h=>?_,fun h=>?_⟩⟩
  · have hlt:=lt_of_dec h
    have hr:=slNo_range (slBs_no (hs s hlt))
    have k1:IntKind.i64.wrap ((s:Int)+1)=s+1:=by rw [IntKind.wrap_i64];omega
    have hb1:=cntB_le (fun k=>clayAt (W.slots k) F) s
    have hb2:=cntB_le (fun k=>keyAt (W.slots k) F) s
    have kc:((W.slots s).kind==1&&decide ((W.slots s).base≤F)&&decide ((F:Int)<(W.slots s).base+(W.slots s).len))=clayAt (W.slots s) F:=rfl
    have kk:((W.slots s).kind !=1&&(W.slots s).kind !=0&&(W.slots s).base==F)=keyAt (W.slots s) F:=rfl
    have ec:(cntB (s+1) fun k=>clayAt (W.slots k) F)=(cntB s fun k=>clayAt (W.slots k) F)+(bif clayAt (W.slots s) F then 1 else 0):=rfl
    have ek:(cntB (s+1) fun k=>keyAt (W.slots k) F)=(cntB s fun k=>keyAt (W.slots k) F)+(bif keyAt (W.slots s) F then 1 else 0):=rfl
    have ef:(anyB (s+1) fun k=>freeAt (W.slots k) F)=((anyB s fun k=>freeAt (W.slots k) F)||freeAt (W.slots s) F):=anyB_succ _ _
    rw [kc,kk]
    refine ⟨by omega,fun _=>by rw [IntKind.wrap_i64];omega,fun hc=>?_,fun hc=>?_⟩
    · have hfr:freeAt (W.slots s) F=decide ((W.slots s).base+(W.slots s).mark≤F):=by unfold freeAt;rw [hc];rfl
      refine ⟨by rw [IntKind.wrap_i64];omega,fun _=>by rw [IntKind.wrap_i64];omega,fun hk=>?_,fun hk=>?_⟩
      · exact ⟨by rw [IntKind.wrap_i64];omega,k1,exS ⟨by rw [ec,hc];simp,by rw [ef,hfr],by rw [ek,hk];simp,by omega,by omega⟩⟩
      · exact ⟨k1,exS ⟨by rw [ec,hc];simp,by rw [ef,hfr],by rw [ek,hk];simp,by omega,by omega⟩⟩
    · have hfr:freeAt (W.slots s) F=false:=by unfold freeAt;rw [hc];rfl
      refine ⟨fun hk=>?_,fun hk=>?_⟩
      · exact ⟨by rw [IntKind.wrap_i64];omega,k1,exS ⟨by rw [ec,hc];simp,by rw [ef,hfr];simp,by rw [ek,hk];simp,by omega,by omega⟩⟩
      · exact ⟨k1,exS ⟨by rw [ec,hc];simp,by rw [ef,hfr];simp,by rw [ek,hk];simp,by omega,by omega⟩⟩
  · have hge:=ge_of_dec h
    obtain rfl:s=W.nSlots:=by omega
    refine ⟨fun _=>by omega,?_⟩
    unfold frB
    rw [show decide (((cntB W.nSlots fun k=>clayAt (W.slots k) F:Nat):Int)≤1)=decide ((cntB W.nSlots fun k=>clayAt (W.slots k) F)≤1) from decide_eq_decide.2 (by omega),show decide (0<((cntB W.nSlots fun k=>keyAt (W.slots k) F:Nat):Int))=decide (0<cntB W.nSlots fun k=>keyAt (W.slots k) F) from decide_eq_decide.2 (by omega)]
end Go.Proofs.YtdjilaofmdhikaaGreatDoor
set_option linter.unusedVariables false
set_option linter.unusedSimpArgs false
set_option maxRecDepth 100000
namespace Go.Proofs.YtdjilaofmdhikaaGreatDoor
open Go.RowKit Go.Sy
theorem slBs_pos {W:Wd} {i:Nat} {s:Slt} (h:(s.kind==0)=false):slBs W i s=(W.kinds (i/16)==5&&slNo s==0&&decide (s.base+s.len≤W.nKinds)&&(s.kind==1||W.kinds s.base.toNat==s.kind)&&(s.from_== -1||(inS W s.from_&&madeB s (W.slots s.from_.toNat)&&!inS W (upK W s.from_ W.nSlots)))):=by unfold slBs;rw [h];rfl
theorem notIn {W:Wd} {u:Int}:(decide (u<0)||decide ((W.nSlots:Int)≤u))=!inS W u:=by
  cases hq:inS W u with
  |true=>have:=inS_iff.1 hq;rw [decide_eq_false (by omega),decide_eq_false (by omega)];rfl
  |false=>
   have: ¬(0≤u∧u<W.nSlots):=fun h=>by rw [inS_iff.2 h] at hq;cases hq
   rcases Int.lt_or_le u 0 with h|h
   · rw [decide_eq_true h];rfl
   · rw [decide_eq_true (show (W.nSlots:Int)≤u by omega)];simp
theorem sw_loop {W:Wd} {u:Int} {b:Bool} (hN:W.nSlots≤1000) (hR:b=!inS W (upK W u W.nSlots)):u=upK W u 0∧ ∀(s:Nat),s≤W.nSlots→(W.nSlots:Int)≤9223372036854775807→
    ((decide ((s:Int)<(W.nSlots:Int))&&decide (0≤upK W u s)&&decide (upK W u s<(W.nSlots:Int)))=true→(0≤upK W u s∧upK W u s<(W.nSlots:Int))∧IntKind.i64.wrap ((s:Int)+1)=(s:Int)+1∧ ∃s':Nat,(s:Int)+1=(s':Int)∧(W.slots (upK W u s).toNat).from_=upK W u s'∧s'≤W.nSlots∧W.nSlots -s'<W.nSlots -s)∧
    ((decide ((s:Int)<(W.nSlots:Int))&&decide (0≤upK W u s)&&decide (upK W u s<(W.nSlots:Int)))=false→(decide (upK W u s<0)||decide ((W.nSlots:Int)≤upK W u s))=b):=by
  refine ⟨rfl,fun s hs _=>⟨fun h=>?_,fun h=>?_⟩⟩
  · simp only [Bool.and_eq_true,decide_eq_true_eq] at h
    obtain ⟨⟨h1,h2⟩,h3⟩:=h
    exact ⟨⟨h2,h3⟩,by rw [IntKind.wrap_i64];omega,exS ⟨(upS_in (inS_iff.2 ⟨h2,h3⟩)).symm,by omega,by omega⟩⟩
  · rw [hR,notIn]
    congr 1
    cases hq:inS W (upK W u s) with
    |false=>rw [upK_out hq hs,hq]
    |true=>
     have h2:=inS_iff.1 hq
     simp only [decide_eq_true h2.1,decide_eq_true h2.2,Bool.and_true] at h
     obtain rfl:s=W.nSlots:=by have:=of_decide_eq_false h;omega
     exact hq.symm
theorem keyNo_slNo (s:Slt):keyNo s.kind s.base s.len s.mark s.rights s.badge=slNo s:=rfl
theorem eqF {b:Bool} (h:b=true→False):false=b:=by cases b<;>simp_all
structure X_slotWell where
  (W:Wd) (i:Int)
def s_slotWell:Sy.Spec:=⟨X_slotWell,fun ⟨W,i⟩=> [wSV W,.v (.int .i64 i)],fun _=> [],fun ⟨W,i⟩=>Szd W∧0≤i∧i<W.nSlots,fun ⟨W,i⟩=> .v (.bool (slB W i.toNat)),fun _=> [],
  fun args mem=>match args with| [a0,a1]=>some ⟨wSVD a0,intD (a1)⟩|_=>none⟩
def c_slotWell:Con:=⟨[],(s_slotWell).g,none⟩
def V_slotWell:X_slotWell→Prop:=fun ⟨W,i⟩=>let a0:=W.nSlots;let b0:=(a0:Int);let c0:=True∧True;let d0:=tn 4 c0;let e0:=W.slots (Int.toNat i);let g0:=e0.kind;let h0:=g0==0;let k0:=e0.base;let l0:=e0.len;let o0:=e0.mark;let q0:=e0.rights;let u0:=q0=q0;let v0:=e0.badge;let w0:=(((((((True∧g0=g0)∧k0=k0)∧l0=l0)∧o0=o0)∧u0)∧v0=v0)∧True)∧c0;let x0:=keyNo g0 k0 l0 o0 q0 v0;let y0:=e0.from_;let z0:=y0==(-1);let a1:=slB W (Int.toNat i);let b1:Int:=i/16;let c1:=W.nKinds;let d1:=(c1:Int);let e1:=W.kinds (Int.toNat b1) !=5;let g1:=cond e1 true (x0 !=0);let h1:Int:=k0+l0;let k1:=cond g1 true (decide (d1<h1));let l1:=false=a1∧True;let o1:=g0 !=1;let q1:=cond o1 (W.kinds (Int.toNat k0) !=g0) false;let u1:=cond (decide (y0<0)) true (decide (b0≤y0));let v1:=W.slots (Int.toNat y0);let w1:=v1.kind;let x1:=v1.base;let y1:=v1.len;let z1:=v1.mark;let a2:=v1.rights;let b2:=a2=a2;let c2:=v1.badge;let d2:=keyNo w1 x1 y1 z1 a2 c2 !=0;let e2:=w1==1;let g2:=cond (g0==1) true (decide (k0<x1));let h2:Int:=k0-x1;let k2:=cond g2 true (decide (z1≤h2));let l2:=SV.ptr 0 0 none 0 0=SV.ptr 0 0 none 0 0;let o2:=W.nTasks;let q2:=W.nLines;let u2:=W.nCores;let v2:=W.nReady;
    let w2:=(((((((((((True∧W.nRam=W.nRam∧(∀x2:Nat,x2<W.nRam→True∧W.ram x2=W.ram x2))∧c1=c1∧(∀y2:Nat,y2<c1→True∧W.kinds y2=W.kinds y2))∧a0=a0∧(∀z2:Nat,let a3:=W.slots z2;let b3:=a3.kind;let c3:=a3.base;let d3:=a3.len;let e3:=a3.mark;let g3:=a3.rights;let h3:=a3.badge;let k3:=a3.from_;z2<a0→((((((True∧b3=b3)∧c3=c3)∧d3=d3)∧e3=e3)∧g3=g3)∧h3=h3)∧k3=k3))∧o2=o2∧(∀l3:Nat,let o3:=W.tasks l3;let q3:=o3.prio;let u3:=o3.node;let v3:=o3.space;let w3:=o3.helper;let x3:=o3.loc;let y3:=o3.word;let z3:=o3.badge;let a4:=o3.owes;let b4:=o3.core;let c4:=o3.dom;l3<o2→(((((((((((((((((((True∧o3.r0=o3.r0)∧o3.r1=o3.r1)∧o3.r2=o3.r2)∧o3.r3=o3.r3)∧o3.r4=o3.r4)∧o3.r5=o3.r5)∧o3.r6=o3.r6)∧o3.r7=o3.r7)∧o3.pc=o3.pc)∧o3.st=o3.st)∧q3=q3)∧u3=u3)∧v3=v3)∧w3=w3)∧x3=x3)∧y3=y3)∧z3=z3)∧a4=a4)∧b4=b4)∧c4=c4))∧q2=q2∧(∀d4:Nat,let e4:=W.linesN d4;d4<q2→True∧e4=e4∧(∀g4:Nat,g4<e4→True∧W.lines d4 g4=W.lines d4 g4)))∧W.nBits=W.nBits∧(∀h4:Nat,h4<W.nBits→True∧W.bits h4=W.bits h4))∧u2=u2∧(∀k4:Nat,k4<u2→True∧W.cores k4=W.cores k4))∧v2=v2∧(∀l4:Nat,let o4:=W.readyN l4;l4<v2→True∧o4=o4∧(∀q4:Nat,q4<o4→True∧W.ready l4 q4=W.ready l4 q4)))∧W.nTlbs=W.nTlbs∧(∀u4:Nat,let v4:=W.tlbsN u4;u4<W.nTlbs→True∧v4=v4∧(∀w4:Nat,let x4:=W.tlbs u4 w4;let y4:=x4.sp;let z4:=x4.pg;let a5:=x4.fr;let b5:=x4.wr;w4<v4→(((True∧y4=y4)∧z4=z4)∧a5=a5)∧b5=b5)))∧W.nDoms=W.nDoms∧(∀c5:Nat,c5<W.nDoms→True∧W.doms c5=W.doms c5))∧W.time=W.time)∧True;
    let d5:=l2∧0=((0:Nat):Int)∧y0=upK W y0 0∧w2∧0≤a0∧(∀e5:Nat,let g5:=upK W y0 e5;let h5:=cond (cond (decide ((e5:Int)<b0)) (decide (0≤g5)) false) (decide (g5<b0)) false;let k5:Int:=(e5:Int)+1;e5≤a0→b0≤9223372036854775807→(h5=true→(0≤g5∧g5<b0)∧w64 k5=k5∧(∃l5:Nat,l2∧k5=(l5:Int)∧(W.slots (Int.toNat g5)).from_=upK W y0 l5∧w2∧l5≤a0∧a0-l5<a0-e5))∧(h5=false→cond (decide (g5<0)) true (decide (b0≤g5))=a1∧True));let o5:=cond (cond (w1 !=g0) true (x1 !=k0)) true (cond (c2 !=0) (c2 !=v0) false);let q5:=cond o5 true (((bitw 6 (Int.toNat a2) (Int.toNat q0):Nat):Int) !=q0);True∧(0≤i∧i<b0)∧True∧(True∧d0)∧True∧d0∧(h0=true→w0∧cond (x0==0) z0 false=a1∧True)∧(h0=false→(0≤i∧(0:Int)<16∧w64 b1=b1)∧(0≤b1∧b1<d1)∧(e1=false→w0)∧(g1=false→w64 h1=h1)∧(k1=true→l1)∧(k1=false→tn 8 ((o1=true→0≤k0∧k0<d1)∧tn 3 ((q1=true→l1)∧(q1=false→(z0=true→true=a1∧True)∧(z0=false→(u1=true→l1)∧(u1=false→(0≤y0∧y0<b0)∧True∧d0∧((((((((True∧w1=w1)∧x1=x1)∧y1=y1)∧z1=z1)∧b2)∧c2=c2)∧True)∧c0)∧(d2=true→l1)∧(d2=false→(e2=true→(g2=false→w64 h2=h2)∧(k2=true→l1)∧(k2=false→d5))∧(e2=false→tn 29 ((o5=false→(b2∧u0∧(6:Int)=6∧True)∧True∧0≤a2∧a2≤65535∧0≤q0∧q0≤65535∧((6:Int)=6∨(6:Int)=7∨(6:Int)=8))∧tn 2 ((q5=true→l1)∧(q5=false→d5))))))))))))
theorem ok_slotWell:FnOK Tryz.prog glN 168 c_slotWell:=ok_of (.cons ok_bitwise (.cons ok_keyMay .nil)) false Tryz.call168 Tryz.func168 (fun ⟨W,i⟩=> [.inv (an_sw W (W.slots i.toNat).from_)]) (V:=V_slotWell) (fun _=>by kernel_rfl) fun ⟨W,i⟩ hp=>by
  dsimp only [s_slotWell] at hp
  dsimp only [V_slotWell,tn,w64]
  obtain ⟨hz,i0,i1⟩:=hp
  obtain ⟨I,rfl⟩: ∃I:Nat,i=I:=⟨i.toNat,by omega⟩
  simp only [std,stb,eq_self,implies_true,Bool.cond_self]
  have e16:((I:Int)/16).toNat=I/16:=by omega
  unfold slB
  rw [e16]
  simp only [keyNo_slNo]
  have hz1:=hz.slots
  have hz2:=hz.k1
  have hz3:=hz.k0
  have toP: ∀{b:Bool},b=false→ ¬b=true:=fun h=>by rw [h];exact Bool.false_ne_true
  obtain ⟨S,hS⟩: ∃S,S=W.slots I:=⟨_,rfl⟩
  simp only [←hS]
  refine ⟨by omega,fun h=>?_,fun h=>⟨⟨by decide,by rw [IntKind.wrap_i64];omega⟩,⟨by omega,by omega⟩,fun h1=>?_,fun h1=>?_,fun h1=>?_⟩⟩
  · unfold slBs;rw [h];rfl
  · simp only [Bool.or_eq_false_iff,bne_eq_false_iff_eq] at h1
    have:=slNo_range h1.2
    rw [IntKind.wrap_i64];omega
  · refine eqF fun ht=>?_
    rw [slBs_pos h] at ht
    simp only [Bool.and_eq_true,Bool.or_eq_true,beq_iff_eq,decide_eq_true_eq,bne_iff_ne,ne_eq] at ht h1
    omega
  have T:W.kinds (I/16)=5∧slNo S=0∧S.base+S.len≤W.nKinds:=by
    simp only [Bool.or_eq_false_iff,bne_eq_false_iff_eq,decide_eq_false_iff_not] at h1
    exact ⟨h1.1.1,h1.1.2,by omega⟩
  obtain ⟨T1,T2,T3⟩:=T
  have hr:=slNo_range T2
  have hk0:S.kind≠0:=by simpa using h
  have hlen:1≤S.len:=by
    have h0:keyNo S.kind S.base S.len S.mark S.rights S.badge=0:=T2
    unfold keyNo keyBad1 keyBad2 farB at h0
    simp only [cond_eq_ite,bne,Bool.or_eq_true,Bool.and_eq_true,Bool.not_eq_true',decide_eq_true_eq,beq_iff_eq,beq_eq_false_iff_ne] at h0
    repeat' split at h0
    all_goals first|(cases h0;done)|omega
  refine ⟨fun _=>by omega,fun h2=>?_,fun h2=>?_⟩
  · refine eqF fun ht=>?_
    rw [slBs_pos h] at ht
    simp only [Bool.and_eq_true,Bool.or_eq_true,beq_iff_eq,decide_eq_true_eq,bne_iff_ne,ne_eq] at ht h2
    omega
  have T4:(S.kind==1||W.kinds S.base.toNat==S.kind)=true:=by
    revert h2
    simp only [bne]
    cases S.kind==1<;>cases W.kinds S.base.toNat==S.kind<;>simp
  have core:slBs W I S=(S.from_== -1||(inS W S.from_&&madeB S (W.slots S.from_.toNat)&&!inS W (upK W S.from_ W.nSlots))):=by
    rw [slBs_pos h,T4,show (W.kinds (I/16)==5)=true from beq_iff_eq.2 T1,show (slNo S==0)=true from beq_iff_eq.2 T2,show decide (S.base+S.len≤W.nKinds)=true from decide_eq_true T3]
    simp
  rw [core]
  refine ⟨fun h3=>by rw [h3];rfl,fun h3=>?_⟩
  rw [h3,notIn]
  refine ⟨fun h4=>by rw [show inS W S.from_=false by revert h4;cases inS W S.from_<;>simp];rfl,fun h4=>?_⟩
  have hin:inS W S.from_=true:=by revert h4;cases inS W S.from_<;>simp
  rw [hin]
  have hi2:=inS_iff.1 hin
  obtain ⟨p,hp⟩: ∃p,p=W.slots S.from_.toNat:=⟨_,rfl⟩
  simp only [←hp]
  refine ⟨hi2,fun h5=>?_,fun h5=>?_⟩
  · rw [show madeB S p=false by unfold madeB;rw [show (slNo p==0)=false by simpa using h5];rfl];rfl
  have hp0:slNo p=0:=by simpa using h5
  have hpr:=slNo_range hp0
  refine ⟨fun h6=>?_,fun h6=>?_⟩
  · have hm:madeB S p=(S.kind !=1&&decide (p.base≤S.base)&&decide (S.base -p.base<p.mark)):=by unfold madeB;rw [h6,show (slNo p==0)=true from beq_iff_eq.2 hp0];rfl
    refine ⟨fun _=>by rw [IntKind.wrap_i64];omega,fun h7=>?_,fun h7=>?_⟩
    · refine eqF fun ht=>?_
      rw [hm] at ht
      simp only [Bool.and_eq_true,Bool.or_eq_true,beq_iff_eq,decide_eq_true_eq,bne_iff_ne,ne_eq,Bool.false_eq_true,false_or] at ht h7
      omega
    · refine sw_loop (by omega) ?_
      have:madeB S p=true:=by
        rw [hm]
        simp only [Bool.and_eq_true,Bool.or_eq_false_iff,beq_eq_false_iff_ne,decide_eq_true_eq,decide_eq_false_iff_not,bne_iff_ne,ne_eq] at h7⊢
        omega
      rw [this];rfl
  · have hm:madeB S p=(S.kind==p.kind&&S.base==p.base&&(p.badge==0||p.badge==S.badge)&&(((bitw 6 p.rights.toNat S.rights.toNat:Nat):Int)==S.rights)):=by unfold madeB;rw [h6,show (slNo p==0)=true from beq_iff_eq.2 hp0];rfl
    refine ⟨fun _=>⟨by omega,by omega,by omega,by omega,.inl trivial⟩,fun h7=>?_,fun h7=>?_⟩
    · refine eqF fun ht=>?_
      rw [hm] at ht
      simp only [Bool.and_eq_true,Bool.or_eq_true,beq_iff_eq,decide_eq_true_eq,bne_iff_ne,ne_eq,Bool.false_eq_true,false_or] at ht h7
      omega
    · refine sw_loop (by omega) ?_
      have:madeB S p=true:=by
        rw [hm]
        simp only [Bool.and_eq_true,Bool.or_eq_true,Bool.or_eq_false_iff,Bool.and_eq_false_iff,beq_iff_eq,bne_eq_false_iff_eq,decide_eq_true_eq,decide_eq_false_iff_not,bne_iff_ne,ne_eq] at h7⊢
        omega
      rw [this];rfl
end Go.Proofs.YtdjilaofmdhikaaGreatDoor
set_option linter.unusedVariables false
set_option linter.unusedSimpArgs false
set_option maxRecDepth 100000
namespace Go.Proofs.YtdjilaofmdhikaaGreatDoor
open Go.RowKit Go.Sy
def wL (W:Wd):List SV:= [.sl true 1 W.nRam (iF W.ram),.sl true 1 W.nKinds (iF W.kinds),.sl true 7 W.nSlots (rF fun i=>slL (W.slots i)),.sl true 20 W.nTasks (rF fun i=>runL (W.tasks i)),.sl true 1 W.nLines (fun i _=> .sl true 1 (W.linesN i) (iF (W.lines i))),.sl true 1 W.nBits (iF W.bits),.sl true 1 W.nCores (iF W.cores),.sl true 1 W.nReady (fun i _=> .sl true 1 (W.readyN i) (iF (W.ready i))),.sl true 1 W.nTlbs (fun i _=> .sl true 4 (W.tlbsN i) (rF fun k=>enL (W.tlbs i k))),.sl true 1 W.nDoms (iF W.doms),.v (.int .i64 W.time)]
def an_tw1 (W:Wd) (f:Nat):Ann where
  σ:=Nat
  rt:= [(2,0),(5,0)]
  sh i:= [(2,pt0 0),(5,pt0 1),(6,.v (.int .i64 i))]
  mh _:= []
  inv i:=i≤8∧ ∀j,j<i→farB (sel [(W.tasks f).r0,(W.tasks f).r1,(W.tasks f).r2,(W.tasks f).r3,(W.tasks f).r4,(W.tasks f).r5,(W.tasks f).r6,(W.tasks f).r7] j) 65535=false
  μ i:=8 -i
  init:=0
def an_tw2 (W:Wd) (f:Nat):Ann where
  σ:=Nat
  rt:= [(2,0),(5,0)]
  sh i:= [(2,pt0 0),(5,pt0 1),(8,.v (.int .i64 i)),(7,.v (.int .i64 (cntB i fun k=>(W.tasks k).owes==f:Nat)))]
  mh _:= []
  inv i:=i≤W.nTasks
  μ i:=W.nTasks -i
  init:=0
theorem castE0 (a:Nat):(((a:Nat):Int)==0)=(a==0):=by rw [Bool.eq_iff_iff];simp
theorem castE1 (a:Nat):(((a:Nat):Int)==1)=(a==1):=by rw [Bool.eq_iff_iff];simp;omega
theorem tkB_pos {W:Wd} {f:Nat} (h:(W.kinds f !=6)=false):tkB W f=(!regFar (W.tasks f)&&!numFar W (W.tasks f)&&refOK W (W.tasks f)&&owesOK W (W.tasks f)&&owedOK W f&&stOK W f):=by unfold tkB;rw [h];rfl
theorem reg_of {t:Run} (h: ∀j,j<8→farB (sel [t.r0,t.r1,t.r2,t.r3,t.r4,t.r5,t.r6,t.r7] j) 65535=false):regFar t=false:=by
  unfold regFar
  have h0:farB t.r0 65535=false:=h 0 (by omega)
  have h1:farB t.r1 65535=false:=h 1 (by omega)
  have h2:farB t.r2 65535=false:=h 2 (by omega)
  have h3:farB t.r3 65535=false:=h 3 (by omega)
  have h4:farB t.r4 65535=false:=h 4 (by omega)
  have h5:farB t.r5 65535=false:=h 5 (by omega)
  have h6:farB t.r6 65535=false:=h 6 (by omega)
  have h7:farB t.r7 65535=false:=h 7 (by omega)
  rw [h0,h1,h2,h3,h4,h5,h6,h7];rfl
theorem reg_to {t:Run} (h:regFar t=false): ∀j,j<8→farB (sel [t.r0,t.r1,t.r2,t.r3,t.r4,t.r5,t.r6,t.r7] j) 65535=false:=by
  unfold regFar at h
  simp only [Bool.or_eq_false_iff] at h
  obtain ⟨⟨⟨⟨⟨⟨⟨h0,h1⟩,h2⟩,h3⟩,h4⟩,h5⟩,h6⟩,h7⟩:=h
  intro j hj
  have:j=0∨j=1∨j=2∨j=3∨j=4∨j=5∨j=6∨j=7:=by omega
  rcases this with rfl|rfl|rfl|rfl|rfl|rfl|rfl|rfl
  · exact h0
  · exact h1
  · exact h2
  · exact h3
  · exact h4
  · exact h5
  · exact h6
  · exact h7
theorem okF_in {W:Wd} {f k:Int} (hk:k≠ -1) (h:okF W f k=true) (hf:(f != -1)=true):0≤f∧f<W.nKinds:=by
  unfold okF at h
  have:(f== -1)=false:=by revert hf;simp only [bne];cases f== -1<;>simp
  rw [this] at h
  have h:kof W f=k:=by simpa using h
  exact kof_in (by rw [h];exact hk)
theorem owed_eq {W:Wd} {f c:Nat} (hc:owed W f=c):(decide (1<(c:Int))||((c:Int)==1&&(W.tasks f).st !=5)||((c:Int)==0&&(W.tasks f).st==5))=!owedOK W f:=by
  unfold owedOK
  rw [hc,castE0,castE1]
  have:c=0∨c=1∨2≤c:=by omega
  rcases this with rfl|rfl|h
  · cases hq:(W.tasks f).st==5<;>simp [bne,hq]
  · cases hq:(W.tasks f).st==5<;>simp [bne,hq]
  · rw [decide_eq_true (show (1:Int)<c by omega),decide_eq_false (show¬c≤1 by omega)];rfl
theorem cnt1 (n:Nat) (l:Nat→Int) (x:Int):cntLL 1 (fun _=>n) (fun _=>l) x=cntL n l x:=by show 0+cntL n l x=cntL n l x;omega
structure Bo where
  b:Bool
def cut_tw (W:Wd) (f:Nat):Cut where
  σ:=Bo
  rt:= [(2,0),(5,0)]
  sh s:= [(2,pt0 0),(5,pt0 1),(9,.v (.int .i64 (stands W f:Nat))),(10,.v (.int .i64 (turnsN W f:Nat))),(187,.v (.int .i64 (W.tasks f).st)),(188,.v (.bool s.b))]
  mem _:= [.cells (wL W),.cells (runL (W.tasks f))]
  inv s:=s.b=((W.tasks f).st==2||(W.tasks f).st==3||(W.tasks f).st==4)
  dec fr _:=⟨boolD (fr 188)⟩
structure X_taskWell where
  (W:Wd) (f:Int)
def s_taskWell:Sy.Spec:=⟨X_taskWell,fun ⟨W,f⟩=> [wSV W,.v (.int .i64 f)],fun _=> [],fun ⟨W,f⟩=>Szd W∧smB W∧0≤f∧f<W.nKinds,fun ⟨W,f⟩=> .v (.bool (tkB W f.toNat)),fun _=> [],
  fun args mem=>match args with| [a0,a1]=>some ⟨wSVD a0,intD (a1)⟩|_=>none⟩
def c_taskWell:Con:=⟨[],(s_taskWell).g,none⟩
def V_taskWell:X_taskWell→Prop:=fun ⟨W,f⟩=>let a0:=W.nTasks;let b0:=(a0:Int);let c0:=True∧True;let d0:=True∧c0;let e0:=W.nKinds;let g0:=Int.toNat f;let h0:=W.kinds g0 !=6;let k0:=W.tasks g0;let l0:=k0.r0;let o0:=k0.r1;let q0:=k0.r2;let u0:=k0.r3;let v0:=k0.r4;let w0:=k0.r5;let x0:=k0.r6;let y0:=k0.r7;let z0:=k0.pc;let a1:=k0.st;let b1:=k0.prio;let c1:=k0.node;let d1:=k0.space;let e1:=k0.helper;let g1:=k0.loc;let h1:=g1==(-1);let k1:=k0.word;let l1:=k0.badge;let o1:=k0.owes;let q1:=k0.core;let u1:=k0.dom;let v1:=tkB W g0;let w1:=SV.ptr 0 0 none 0 0=SV.ptr 0 0 none 0 0;let x1:=SV.ptr (0+1) 0 none 0 0=SV.ptr 1 0 none 0 0;let y1:=W.nSlots;let z1:=W.nLines;let a2:=z1=z1∧(∀b2:Nat,let c2:=W.linesN b2;b2<z1→True∧c2=c2∧(∀d2:Nat,d2<c2→True∧W.lines b2 d2=W.lines b2 d2));let e2:=W.nCores;let g2:=e2=e2∧(∀h2:Nat,h2<e2→True∧W.cores h2=W.cores h2);let k2:=W.nReady;let l2:=k2=k2∧(∀o2:Nat,let q2:=W.readyN o2;o2<k2→True∧q2=q2∧(∀u2:Nat,u2<q2→True∧W.ready o2 u2=W.ready o2 u2));
    let v2:=((((((((((True∧W.nRam=W.nRam∧(∀w2:Nat,w2<W.nRam→True∧W.ram w2=W.ram w2))∧e0=e0∧(∀x2:Nat,x2<e0→True∧W.kinds x2=W.kinds x2))∧y1=y1∧(∀y2:Nat,let z2:=W.slots y2;let a3:=z2.kind;let b3:=z2.base;let c3:=z2.len;let d3:=z2.mark;let e3:=z2.rights;let g3:=z2.badge;let h3:=z2.from_;y2<y1→((((((True∧a3=a3)∧b3=b3)∧c3=c3)∧d3=d3)∧e3=e3)∧g3=g3)∧h3=h3))∧a0=a0∧(∀k3:Nat,let l3:=W.tasks k3;let o3:=l3.prio;let q3:=l3.node;let u3:=l3.space;let v3:=l3.helper;let w3:=l3.loc;let x3:=l3.word;let y3:=l3.badge;let z3:=l3.owes;let a4:=l3.core;let b4:=l3.dom;k3<a0→(((((((((((((((((((True∧l3.r0=l3.r0)∧l3.r1=l3.r1)∧l3.r2=l3.r2)∧l3.r3=l3.r3)∧l3.r4=l3.r4)∧l3.r5=l3.r5)∧l3.r6=l3.r6)∧l3.r7=l3.r7)∧l3.pc=l3.pc)∧l3.st=l3.st)∧o3=o3)∧q3=q3)∧u3=u3)∧v3=v3)∧w3=w3)∧x3=x3)∧y3=y3)∧z3=z3)∧a4=a4)∧b4=b4))∧a2)∧W.nBits=W.nBits∧(∀c4:Nat,c4<W.nBits→True∧W.bits c4=W.bits c4))∧g2)∧l2)∧W.nTlbs=W.nTlbs∧(∀d4:Nat,let e4:=W.tlbsN d4;d4<W.nTlbs→True∧e4=e4∧(∀g4:Nat,let h4:=W.tlbs d4 g4;let k4:=h4.sp;let l4:=h4.pg;let o4:=h4.fr;let q4:=h4.wr;g4<e4→(((True∧k4=k4)∧l4=l4)∧o4=o4)∧q4=q4)))∧W.nDoms=W.nDoms∧(∀u4:Nat,u4<W.nDoms→True∧W.doms u4=W.doms u4))∧W.time=W.time;let v4:=z0=z0;let w4:=a1=a1;let x4:=b1=b1;let y4:=c1=c1;let z4:=d1=d1;let a5:=e1=e1;let b5:=g1=g1;let c5:=k1=k1;let d5:=l1=l1;let e5:=o1=o1;let g5:=q1=q1;let h5:=u1=u1;let k5:=v2∧((((((((((((((((((((True∧l0=l0)∧o0=o0)∧q0=q0)∧u0=u0)∧v0=v0)∧w0=w0)∧x0=x0)∧y0=y0)∧v4)∧w4)∧x4)∧y4)∧z4)∧a5)∧b5)∧c5)∧d5)∧e5)∧g5)∧h5)∧True;let l5:=[l0,o0,q0,u0,v0,w0,x0,y0];
    let o5:=(65535:Int)=65535∧True;let q5:=false=v1∧True;let u5:=farB z0 65535;let v5:=cond u5 true (farB k1 65535);let w5:=cond v5 true (farB l1 65535);let x5:=cond w5 true (farB a1 6);let y5:=(3:Int)=3∧True;let z5:=cond x5 true (farB b1 3);let a6:=z5=false;let b6:Int:=(e2:Int)-1;let c6:=cond z5 true (farB q1 b6);let d6:=cond c6 true (farB u1 3);let e6:=c1 !=(-1);let g6:=d1 !=(-1);let h6:=cond e6 (kof W c1 !=5) false;let k6:=e1 !=(-1);let l6:=cond h6 true (cond g6 (kof W d1 !=4) false);let o6:=o1 !=(-1);let q6:=o6=true;let u6:=cond l6 true (cond k6 (kof W e1 !=7) false);let v6:=cond u6 true (cond o6 (kof W o1 !=6) false);let w6:=a1==4;let x6:=cond o6 (cond ((W.tasks (Int.toNat o1)).st !=5) true w6) false;let y6:=(g0:Int);let z6:=a1 !=5;let a7:=a1==5;let b7:=f=f∧True;let c7:Int:=((cntLL k2 W.readyN W.ready f:Nat):Int)+((cntLL 1 (fun d7:Nat=>e2) (fun e7:Nat=>W.cores) f:Nat):Int);let g7:=a1==2;let h7:=((stands W g0:Nat):Int);let k7:=((cntLL z1 W.linesN W.lines f:Nat):Int)=h7;let l7:=((turnsN W g0:Nat):Int);let o7:=c7=l7;let q7:=a1==3;let u7:=g7||q7||w6;let v7:=l7==0;let w7:=cond (h7==1) v7 false;let x7:=w7=true;let y7:=(v2∧b5∧True)∧c0;let z7:=kof W g1;let a8:=cond w7 (z7==7) false;let b8:=a8=true;let c8:=0≤g1∧g1<(z1:Int);let d8:=Int.toNat g1;let e8:=W.linesN d8;let g8:=(f=f∧(e8=e8∧(∀h8:Nat,h8<e8→True∧W.lines d8 h8=W.lines d8 h8))∧True)∧c0;let k8:=inB' e8 (W.lines d8) f;let l8:=a1==6;let o8:=cond w7 (z7==8) false;let q8:=o8=true;let r8:=a1==1;let u8:=h7==0;True∧(0≤f∧f<b0)∧True∧
    tn 17 d0∧(0≤f∧f<(e0:Int))∧(h0=true→True∧d0∧(l0==0&&(o0==0&&(q0==0&&(u0==0&&(v0==0&&(w0==0&&(x0==0&&(y0==0&&true)))))))&&(z0==0&&(a1==0&&(b1==0&&(c1==(-1)&&(d1==(-1)&&(e1==(-1)&&(h1&&(k1==0&&(l1==0&&(o1==(-1)&&(q1==0&&(u1==0&&true)))))))))))))=v1∧True)∧(h0=false→w1∧x1∧0=((0:Nat):Int)∧k5∧(0≤8∧(∀v8:Nat,v8<0→farB (List.getD l5 v8 0) 65535=false))∧(∀w8:Nat,let x8:=(w8:Int);let y8:=decide (x8<8);let z8:=List.getD l5 (Int.toNat x8) 0;let a9:=farB z8 65535;let b9:Int:=x8+1;w8≤8∧(∀c9:Nat,c9<w8→farB (List.getD l5 c9 0) 65535=false)→(y8=true→(0≤x8∧x8<((8:Nat):Int))∧((z8=z8∧o5)∧c0)∧(a9=true→q5)∧(a9=false→w64 b9=b9∧(∃d9:Nat,w1∧x1∧b9=(d9:Int)∧k5∧(d9≤8∧(∀e9:Nat,e9<d9→farB (List.getD l5 e9 0) 65535=false))∧8-d9<8-w8)))∧(y8=false→((v4∧o5)∧c0)∧(u5=false→(c5∧o5)∧c0)∧(v5=false→(d5∧o5)∧c0)∧(w5=false→(w4∧(6:Int)=6∧True)∧c0)∧(x5=false→(x4∧y5)∧c0)∧(a6→w64 b6=b6)∧(a6→(g5∧b6=b6∧True)∧c0)∧(c6=false→(h5∧y5)∧c0)∧(d6=true→q5)∧(d6=false→(e6=true→(v2∧y4∧True)∧c0)∧(g6=true→h6=false→(v2∧z4∧True)∧c0)∧(k6=true→l6=false→(v2∧a5∧True)∧c0)∧(q6→u6=false→(v2∧e5∧True)∧c0)∧(v6=true→q5)∧(v6=false→(q6→0≤o1∧o1<b0)∧(x6=true→q5)∧(x6=false→w1∧x1∧0=((0:Nat):Int)∧0=((cntB 0 (fun g9:Nat=>(W.tasks g9).owes==y6):Nat):Int)∧k5∧0≤a0∧(∀h9:Nat,let k9:=(h9:Int);let l9:=decide (k9<b0);let o9:=(W.tasks (Int.toNat k9)).owes==f;let q9:=((cntB h9 (fun r9:Nat=>(W.tasks r9).owes==y6):Nat):Int);let u9:Int:=q9+1;let v9:Int:=k9+1;let w9:=w64 v9=v9;let x9:=cond (cond (decide (1<q9)) true (cond (q9==1) z6 false)) true (cond (q9==0) a7 false);
    h9≤a0→b0≤9223372036854775807→(l9=true→(0≤k9∧k9<b0)∧(o9=true→w64 u9=u9∧w9∧(∃y9:Nat,w1∧x1∧v9=(y9:Int)∧u9=((cntB y9 (fun z9:Nat=>(W.tasks z9).owes==y6):Nat):Int)∧k5∧y9≤a0∧a0-y9<a0-h9))∧(o9=false→w9∧(∃a10:Nat,w1∧x1∧v9=(a10:Int)∧q9=((cntB a10 (fun b10:Nat=>(W.tasks b10).owes==y6):Nat):Int)∧k5∧a10≤a0∧a0-a10<a0-h9)))∧(l9=false→(x9=true→q5)∧(x9=false→((a2∧b7)∧True∧z1≤1000∧(∀c10:Nat,c10<z1→W.linesN c10≤1000))∧tn 3 (((l2∧b7)∧True∧k2≤1000∧(∀d10:Nat,d10<k2→W.readyN d10≤1000))∧tn 4 ((((1=1∧(∀e10:Nat,e10<1→True∧g2))∧b7)∧True∧1≤1000∧(∀g10:Nat,g10<1→e2≤1000))∧w64 c7=c7∧((g7=true→w1∧x1∧k7∧o7∧w4∧g7=g7∧k5∧g7=u7)∧(g7=false→(q7=true→w1∧x1∧k7∧o7∧w4∧q7=q7∧k5∧q7=u7)∧(q7=false→w1∧x1∧k7∧o7∧w4∧w6=w6∧k5∧w6=u7)))∧(∀h10:Bo,h10.b=u7→(h10.b=true→(x7→y7)∧(b8→c8)∧(b8→g8)∧cond a8 k8 false=v1∧True)∧(h10.b=false→(l8=true→(x7→y7)∧(q8→c8)∧(q8→g8)∧cond o8 k8 false=v1∧True)∧(l8=false→(r8=true→cond (cond u8 (l7==1) false) h1 false=v1∧True)∧(r8=false→cond (cond u8 v7 false) h1 false=v1∧True)))))))))))))))
set_option maxHeartbeats 1000000 in
theorem ok_taskWell:FnOK Tryz.prog glN 170 c_taskWell:=ok_of (.cons ok_far (.cons ok_inL (.cons ok_blank (.cons ok_kindOf (.cons ok_howOften .nil))))) false Tryz.call170 Tryz.func170 (fun ⟨W,f⟩=> [.inv (an_tw1 W f.toNat),.inv (an_tw2 W f.toNat),.cut 29 (cut_tw W f.toNat)]) (V:=V_taskWell) (fun _=>by kernel_rfl) fun ⟨W,f⟩ hp=>by
  dsimp only [s_taskWell] at hp
  dsimp only [V_taskWell,tn,w64]
  obtain ⟨hz,hm,f0,f1⟩:=hp
  obtain ⟨F,rfl⟩: ∃F:Nat,f=F:=⟨f.toNat,by omega⟩
  simp only [std,stb,eq_self,implies_true,Bool.cond_self]
  have hz1:=hz.tasks
  have hz2:=hz.k1
  have hz3:=hz.lines
  have hz4:=hz.c1
  have hz5:=hz.c0
  have hz6:=hz.ready
  refine ⟨by omega,by omega,fun h=>?_,fun h=>?_⟩
  · unfold tkB;rw [h];rfl
  have core:=tkB_pos h
  intro s hs
  refine ⟨fun h1=>?_,fun h1=>?_⟩
  · have hlt:s<8:=by have:=of_decide_eq_true h1;omega
    refine ⟨by omega,fun h2=>eqF fun ht=>?_,fun h2=>⟨by rw [IntKind.wrap_i64];omega,exS ⟨⟨by omega,snocF (p:=fun j=>farB (sel [(W.tasks F).r0,(W.tasks F).r1,(W.tasks F).r2,(W.tasks F).r3,(W.tasks F).r4,(W.tasks F).r5,(W.tasks F).r6,(W.tasks F).r7] j) 65535) hs.2 h2⟩,by omega⟩⟩⟩
    rw [core] at ht
    have hq:regFar (W.tasks F)=false:=by revert ht;cases regFar (W.tasks F)<;>simp
    have:=reg_to hq s hlt
    exact Bool.false_ne_true (this.symm.trans h2)
  have hs8:s=8:=by have:=of_decide_eq_false h1;omega
  have hreg:regFar (W.tasks F)=false:=reg_of fun j hj=>hs.2 j (by omega)
  rw [hreg] at core
  have e1:(farB (W.tasks F).pc 65535||farB (W.tasks F).word 65535||farB (W.tasks F).badge 65535||farB (W.tasks F).st 6||farB (W.tasks F).prio 3||farB (W.tasks F).core (W.nCores -1)||farB (W.tasks F).dom 3)=numFar W (W.tasks F):=rfl
  have e2:((W.tasks F).node != -1&&kof W (W.tasks F).node !=5||(W.tasks F).space != -1&&kof W (W.tasks F).space !=4||(W.tasks F).helper != -1&&kof W (W.tasks F).helper !=7||(W.tasks F).owes != -1&&kof W (W.tasks F).owes !=6)=!refOK W (W.tasks F):=by
    unfold refOK okF;simp only [bne,Bool.not_and,Bool.not_or]
  have e3:((W.tasks F).owes != -1&&((W.tasks (W.tasks F).owes.toNat).st !=5||(W.tasks F).st==4))=!owesOK W (W.tasks F):=by
    unfold owesOK;simp only [bne,Bool.not_and,Bool.not_or,Bool.not_not]
  rw [e1,e2,e3]
  refine ⟨fun _=>by rw [IntKind.wrap_i64];omega,fun h2=>?_,fun h2=>?_⟩
  · rw [core,h2];rfl
  rw [h2] at core
  refine ⟨fun h3=>?_,fun h3=>?_⟩
  · rw [core,show refOK W (W.tasks F)=false by revert h3;cases refOK W (W.tasks F)<;>simp];rfl
  have href:refOK W (W.tasks F)=true:=by revert h3;cases refOK W (W.tasks F)<;>simp
  rw [href] at core
  refine ⟨fun h4=>?_,fun h4=>?_,fun h4=>?_⟩
  · have:okF W (W.tasks F).owes 6=true:=by unfold refOK at href;simp only [Bool.and_eq_true] at href;exact href.2
    have:=okF_in (by decide) this h4
    omega
  · rw [core,show owesOK W (W.tasks F)=false by revert h4;cases owesOK W (W.tasks F)<;>simp];rfl
  rw [show owesOK W (W.tasks F)=true by revert h4;cases owesOK W (W.tasks F)<;>simp] at core
  refine ⟨rfl,fun s hs _=>⟨fun h5=>?_,fun h5=>?_⟩⟩
  · have hlt:=lt_of_dec h5
    have hb:=cntB_le (fun k=>(W.tasks k).owes==F) s
    refine ⟨by omega,fun h6=>?_,fun h6=>?_⟩
    · exact ⟨by rw [IntKind.wrap_i64];omega,by rw [IntKind.wrap_i64];omega,exS ⟨by simp [cntB,h6],by omega,by omega⟩⟩
    · exact ⟨by rw [IntKind.wrap_i64];omega,exS ⟨by simp [cntB,h6],by omega,by omega⟩⟩
  have hge:=ge_of_dec h5
  obtain rfl:s=W.nTasks:=by omega
  rw [show (decide (1<((cntB W.nTasks fun k=>(W.tasks k).owes==F:Nat):Int))||(((cntB W.nTasks fun k=>(W.tasks k).owes==F:Nat):Int)==1&&(W.tasks F).st !=5)||(((cntB W.nTasks fun k=>(W.tasks k).owes==F:Nat):Int)==0&&(W.tasks F).st==5))=!owedOK W F from owed_eq (W:=W) (f:=F) rfl]
  refine ⟨fun h6=>?_,fun h6=>?_⟩
  · rw [core,show owedOK W F=false by revert h6;cases owedOK W F<;>simp];rfl
  rw [show owedOK W F=true by revert h6;cases owedOK W F<;>simp] at core
  have core:tkB W F=stOK W F:=by rw [core];rfl
  rw [cnt1]
  have b1:cntLL W.nReady W.readyN W.ready F≤W.nReady*50:=sumN_le fun i hi=>Nat.le_trans (cntB_le _ _) (hm.2.1 i hi)
  have b2:cntL W.nCores W.cores F≤W.nCores:=cntB_le _ _
  have et:((cntLL W.nReady W.readyN W.ready F:Nat):Int)+((cntL W.nCores W.cores F:Nat):Int)=(turnsN W F:Nat):=by unfold turnsN;omega
  rw [et]
  refine ⟨⟨by omega,fun i hi=>Nat.le_trans (hm.1 i hi) (by omega)⟩,⟨by omega,fun i hi=>Nat.le_trans (hm.2.1 i hi) (by omega)⟩,⟨by omega,fun _ _=>by omega⟩,by rw [IntKind.wrap_i64];unfold turnsN;omega,?_,?_⟩
  · refine ⟨fun h=>⟨rfl,rfl,by rw [h];rfl⟩,fun h=>⟨fun h7=>⟨rfl,rfl,by rw [h,h7];rfl⟩,fun h7=>⟨rfl,rfl,by rw [h,h7];rfl⟩⟩⟩
  rintro ⟨b⟩ hb
  have hb:b=((W.tasks F).st==2||(W.tasks F).st==3||(W.tasks F).st==4):=hb
  simp only [castE0,castE1]
  have hl: ∀k:Int,k≠ -1→((stands W F==1)&&(turnsN W F==0)&&kof W (W.tasks F).loc==k)=true→0≤(W.tasks F).loc∧(W.tasks F).loc<W.nLines:=fun k hk h=>by
    simp only [Bool.and_eq_true,beq_iff_eq] at h
    rw [hz3]
    exact kof_in (by rw [h.2];exact hk)
  refine ⟨fun h7=>⟨hl 7 (by decide),?_⟩,fun h7=>⟨fun h8=>⟨hl 8 (by decide),?_⟩,fun h8=>⟨fun h9=>?_,fun h9=>?_⟩⟩⟩
  · have h7:b=true:=h7
    rw [core];simp only [stOK];rw [←hb,h7];rfl
  · have h7:b=false:=h7
    rw [core];simp only [stOK];rw [←hb,h7,h8];rfl
  · have h7:b=false:=h7
    rw [core];simp only [stOK];rw [←hb,h7,h8,h9];rfl
  · have h7:b=false:=h7
    rw [core];simp only [stOK];rw [←hb,h7,h8,h9];rfl
end Go.Proofs.YtdjilaofmdhikaaGreatDoor
