/- Starting, stopping, ranking: lists without a number. -/
import Derived.Test.YtdjilaofmdhikaaGreatDoorYK
import Derived.Test.YtdjilaofmdhikaaGreatDoorYJ
import Derived.Test.YtdjilaofmdhikaaGreatDoorYI
set_option linter.unusedVariables false
set_option linter.unusedSimpArgs false
set_option linter.unusedVariables false
set_option linter.unusedSimpArgs false
set_option maxRecDepth 100000
namespace Go.Proofs.YtdjilaofmdhikaaGreatDoor
open Go.RowKit Go.Sy
def kpN (p:Nat→Bool):Nat→Nat
  |0=>0
  |i+1=>bif p i then kpN p i else kpN p i+1
def kpT {α:Type} (z:α) (p:Nat→Bool) (t:Nat→α):Nat→Nat→α
  |0,_=>z
  |i+1,a=>bif !p i&&Nat.beq a (kpN p i) then t i else kpT z p t i a
theorem kpN_le (p:Nat→Bool): ∀i,kpN p i≤i
  |0=>Nat.le_refl _
  |i+1=>by have:=kpN_le p i;simp only [kpN];cases p i<;>simp<;>omega
theorem kpN_pre {p:Nat→Bool}: ∀{i},(∀j,j<i→p j=false)→kpN p i=i
  |0,_=>rfl
  |i+1,h=>by rw [kpN,h i (by omega),kpN_pre fun j hj=>h j (by omega)];rfl
theorem kpT_pre {α:Type} {z:α} {p:Nat→Bool} {t:Nat→α}: ∀{i a},(∀j,j<i→p j=false)→a<i→kpT z p t i a=t a
  |0,a,_,h=>absurd h (by omega)
  |i+1,a,h,ha=>by
   rw [kpT,h i (by omega),kpN_pre fun j hj=>h j (by omega)]
   rcases Nat.lt_or_ge a i with h1|h1
   · have hb:Nat.beq a i=false:=by
       cases hb:Nat.beq a i with
       |false=>rfl
       |true=>have:=Nat.eq_of_beq_eq_true hb;omega
     rw [hb]
     simpa using kpT_pre (fun j hj=>h j (by omega)) h1
   · obtain rfl:a=i:=by omega
     simp
theorem kpN_lt {p:Nat→Bool} {k:Nat} (hk:p k=true): ∀{i},k<i→kpN p i<i
  |0,h=>absurd h (by omega)
  |i+1,h=>by
   simp only [kpN]
   rcases Nat.lt_or_ge k i with h1|h1
   · have:=kpN_lt hk h1;cases p i<;>simp<;>omega
   · obtain rfl:k=i:=by omega
     rw [hk];have:=kpN_le p k;simp;omega
theorem fst_sp (p:Nat→Bool): ∀n,(∀j,j<fstB n p→p j=false)∧(fstB n p<n→p (fstB n p)=true)
  |0=>⟨fun j h=>absurd h (by simp [fstB]),fun h=>absurd h (by omega)⟩
  |n+1=>by
   obtain ⟨h1,h2⟩:=fst_sp p n
   have hle:=fstB_le p n
   unfold fstB
   rcases Nat.lt_or_ge (fstB n p) n with h|h
   · rw [nblt,decide_eq_true h];exact ⟨h1,fun _=>h2 h⟩
   · have e:fstB n p=n:=by omega
     rw [nblt,decide_eq_false (by omega)]
     rw [e] at h1
     cases hp:p n with
     |true=>exact ⟨h1,fun _=>hp⟩
     |false=>
      refine ⟨fun j hj=>?_,fun h=>absurd h (by simp)⟩
      have hj:j<n+1:=hj
      rcases Nat.lt_or_ge j n with h3|h3
      · exact h1 j h3
      · obtain rfl:j=n:=by omega
        exact hp
def isX (l:Nat→Int) (x:Int) (k:Nat):Bool:=l k==x
def woN (n:Nat) (l:Nat→Int) (x:Int):Nat:=kpN (isX l x) n
def woF (n:Nat) (l:Nat→Int) (x:Int):Nat→Int:=kpT 0 (isX l x) l n
def wdF (n:Nat) (l:Nat→Int) (x:Int) (a:Nat):Int:=bif Nat.blt a (woN n l x) then woF n l x a else 0
def an_idx2 (z n:Nat) (p:Nat→Bool):Ann where
  σ:=Nat
  rt:= []
  sh i:= [(z,.v (.int .i64 i))]
  mh _:= []
  inv i:=i≤n∧ ∀j,j<i→p j=false
  μ i:=n -i
  init:=0
def dwF (p:Nat→Bool) (t:Nat→Int) (j a:Nat):Int:=bif Nat.blt a (kpN p j) then kpT 0 p t j a else t a
def an_dl (n:Nat) (t:Nat→Int) (p:Nat→Bool):Ann where
  σ:=Nat
  rt:= []
  sh j:= [(0,.slc 0 0 none 0 n),(5,.v (.int .i64 (kpN p j))),(6,.v (.int .i64 j))]
  mh j:= [(0,.row 1 n (iF (dwF p t j)))]
  inv j:=fstB n p<j∧j≤n
  μ j:=n -j
  init:=fstB n p+1
def an_wo (n:Nat) (t:Nat→Int) (p:Nat→Bool) (q:Nat):Ann where
  σ:=Nat
  rt:= [(q,1)]
  sh j:= [(q,.slc 0 0 none 0 (kpN p j)),(q+1,.v (.int .i64 j))]
  mh j:= [(0,.row 1 (kpN p j) (iF (kpT 0 p t j)))]
  inv j:=j≤n
  μ j:=n -j
  init:=0
structure X_lvC1 where
  (x t:Int)
def s_lvC1:Sy.Spec:=⟨X_lvC1,fun ⟨x,t⟩=> [.v (.int .i64 x),.pt true 1 (fun _=> .v (.int .i64 t))],fun _=> [],fun _=>True,fun ⟨x,t⟩=> .v (.bool (x==t)),fun _=> [],
  fun args mem=>match args with| [a0,a1]=>some ⟨intD (a0),intD (ptF a1 0)⟩|_=>none⟩
def c_lvC1:Con:=⟨[],s_lvC1.g,none⟩
def V_lvC1:X_lvC1→Prop:=fun ⟨x,t⟩=>(x==t)=(x==t)∧True
theorem ok_lvC1:FnOK Tryz.prog glN 211 c_lvC1:=ok_of .nil false Tryz.call211 Tryz.func211 (fun _=> []) (V:=V_lvC1) (fun _=>by kernel_rfl) fun ⟨x,t⟩ hp=>by
  dsimp only [V_lvC1,tn,w64]
  simp only [std,stb,eq_self,implies_true,Bool.cond_self]
  try simp only [wd_eta]
structure X_idxL where
  (n:Nat) (l:Nat→Int) (t:Int)
def s_idxL:Sy.Spec:=⟨X_idxL,fun ⟨n,l,t⟩=> [.sl true 1 n (fun i_ _=> .v (.int .i64 (l i_))),.fn 211 1 (lsv [.pt true 1 (fun _=> .v (.int .i64 t))])],fun _=> [],fun ⟨n,_,_⟩=>n≤100000,fun ⟨n,l,t⟩=> .v (.int .i64 (idxB n (isX l t))),fun _=> [],
  fun args mem=>match args with| [a0,a1]=>(match isFn 211 a1 with|true=>some ⟨slN a0,fun i=>intD (slF a0 i 0),intD (ptF (fnF a1 0) 0)⟩|false=>none)|_=>none⟩
def c_idxL:Con:=⟨[],s_idxL.g,none⟩
def V_idxL:X_idxL→Prop:=fun ⟨n,l,t⟩=>let a0:=(n:Int);let b0:=idxB n (isX l t);a0≤9223372036854775807→0=((0:Nat):Int)∧True∧(0≤n∧(∀c0:Nat,c0<0→isX l t c0=false))∧(∀d0:Nat,let e0:=(d0:Int);let g0:=decide (e0<a0);let h0:Int:=l (Int.toNat e0);let k0:=h0==t;let l0:Int:=e0+1;d0≤n∧(∀o0:Nat,o0<d0→isX l t o0=false)→(g0=true→(0≤e0∧e0<a0)∧((h0=h0∧(True∧t=t)∧True)∧True∧True)∧(k0=true→e0=b0∧True)∧(k0=false→w64 l0=l0∧(∃q0:Nat,l0=(q0:Int)∧True∧(q0≤n∧(∀r0:Nat,r0<q0→isX l t r0=false))∧n-q0<n-d0)))∧(g0=false→(-1)=b0∧True))
theorem ok_idxL:FnOK Tryz.prog glN 207 c_idxL:=ok_of (.cons ok_lvC1 .nil) false Tryz.call207 Tryz.func207 (fun ⟨n,l,t⟩=> [.inv (an_idx2 8 n (isX l t))]) (V:=V_idxL) (fun _=>by kernel_rfl) fun ⟨n,l,t⟩ hp=>by
  dsimp only [s_idxL] at hp
  dsimp only [V_idxL,tn,w64]
  simp only [std,stb,eq_self,implies_true,Bool.cond_self]
  try simp only [wd_eta]
  refine fun _ s hs=>⟨fun h=>?_,fun h=>?_⟩
  · have hlt:=lt_of_dec h
    exact ⟨by omega,fun h=>(idxB_at (p:=isX l t) hs.2 h hlt).symm,fun h=>⟨wr_in (by omega) (by omega),exS ⟨⟨by omega,snocF (p:=isX l t) hs.2 h⟩,by omega⟩⟩⟩
  · have hge:=ge_of_dec h
    obtain rfl:s=n:=by omega
    exact (idxB_none (p:=isX l t) hs.2).symm
structure X_delL where
  (t:Int) (n:Nat) (l:Nat→Int)
def s_delL:Sy.Spec:=⟨X_delL,fun ⟨t,n,_⟩=> [.slc 0 0 none 0 n,.fn 211 1 (lsv [.pt true 1 (fun _=> .v (.int .i64 t))])],fun ⟨_,n,l⟩=> [.row 1 n (iF l)],fun ⟨_,n,_⟩=>n≤100000,fun ⟨t,n,l⟩=> .slc 0 0 none 0 (woN n l t),fun ⟨t,n,l⟩=> [.row 1 n (iF (wdF n l t))],
  fun args mem=>match args with| [a0,a1]=>(match isFn 211 a1 with|true=>some ⟨intD (ptF (fnF a1 0) 0),rowN mem 0,fun i=>intD (rowF mem 0 i 0)⟩|false=>none)|_=>none⟩
def c_delL:Con:=⟨[true,false],s_delL.g,none⟩
def V_delL:X_delL→Prop:=fun ⟨t,n,l⟩=>let a0:=n=n;let b0:=idxB n (isX (fun c0:Nat=>l (0+c0)) t);let d0:=b0==(-1);let e0:Int:=b0+1;let g0:=0=0∧a0;let h0:=isX l t;let k0:=fstB n h0;let l0:=k0+1;let o0:=(n:Int);(((a0∧(∀q0:Nat,q0<n→True∧l (0+q0)=l (0+q0)))∧tn 2 (t=t)∧True)∧True∧s_idxL.match_1 (fun r0:X_idxL=>Prop) (X_idxL.mk n (fun u0:Nat=>l (0+u0)) t) (fun v0:Nat=>fun w0:∀x0:Nat,Int=>fun y0:Int=>v0≤100000))∧(d0=true→(0=0∧n=woN n l t)∧(a0∧(∀z0:Nat,z0<n→True∧l z0=wdF n l t z0))∧True)∧(d0=false→w64 e0=e0∧g0∧b0=((kpN h0 l0:Nat):Int)∧e0=(l0:Int)∧((a0∧(∀a1:Nat,a1<n→True∧l a1=dwF h0 l l0 a1))∧True)∧(k0<l0∧l0≤n)∧(∀b1:Nat,let c1:=(b1:Int);let d1:=decide (c1<o0);let e1:=dwF h0 l b1 (0+Int.toNat c1);let g1:=!e1==t;let h1:=((kpN h0 b1:Nat):Int);let k1:=0≤h1;let l1:Int:=h1+1;let o1:Int:=c1+1;let q1:=w64 o1=o1;let r1:=Int.toNat h1;let u1:=0+r1;let v1:=h1≤o0;let w1:=u1+(Int.toNat o0-r1);k0<b1∧b1≤n→o0≤9223372036854775807→(d1=true→(0≤c1∧c1<o0)∧((e1=e1∧(True∧t=t)∧True)∧True∧True)∧(g1=true→(k1∧h1<o0)∧(∀x1:Nat,false=false)∧w64 l1=l1∧q1∧(∃y1:Nat,g0∧l1=((kpN h0 y1:Nat):Int)∧o1=(y1:Int)∧((a0∧(∀z1:Nat,z1<n→True∧cond (Nat.beq z1 u1) e1 (dwF h0 l b1 z1)=dwF h0 l y1 z1))∧True)∧(k0<y1∧y1≤n)∧n-y1<n-b1))∧(g1=false→q1∧(∃a2:Nat,g0∧h1=((kpN h0 a2:Nat):Int)∧o1=(a2:Int)∧((a0∧(∀b2:Nat,b2<n→True∧dwF h0 l b1 b2=dwF h0 l a2 b2))∧True)∧(k0<a2∧a2≤n)∧n-a2<n-b1)))∧(d1=false→(k1∧v1∧o0≤o0)∧((∀c2:Nat,true=true)∧w1≤n)∧((0:Int)≤0∧k1∧v1)∧(0=0∧r1-Int.toNat 0=woN n l t)∧(a0∧(∀d2:Nat,d2<n→True∧cond (Nat.ble u1 d2&&Nat.blt d2 w1) 0 (dwF h0 l b1 d2)=wdF n l t d2))∧
    True)))
set_option maxHeartbeats 1000000 in
theorem ok_delL:FnOK Tryz.prog glN 210 c_delL:=ok_of (.cons ok_idxL (.cons ok_lvC1 .nil)) false Tryz.call210 Tryz.func210 (fun ⟨t,n,l⟩=> [.inv (an_dl n l (isX l t))]) (V:=V_delL) (fun _=>by kernel_rfl) fun ⟨t,n,l⟩ hp=>by
  dsimp only [s_delL] at hp
  dsimp only [V_delL,tn,w64]
  simp only [std,stb,eq_self,implies_true,Bool.cond_self]
  try simp only [wd_eta]
  refine ⟨hp,?_⟩
  simp only [show (isX (fun c0=>l c0) t)=isX l t from rfl]
  obtain ⟨P,hP⟩: ∃P:Nat→Bool,P=isX l t:=⟨_,rfl⟩
  have hPs: ∀i,(l i==t)=P i:=fun i=>by rw [hP];rfl
  have hW:woN n l t=kpN P n:=by rw [hP];rfl
  have hF: ∀a,wdF n l t a=bif Nat.blt a (kpN P n) then kpT 0 P l n a else 0:=fun a=>by rw [hP];rfl
  simp only [hW,hF]
  rw [←hP]
  obtain ⟨f1,f2⟩:=fst_sp P n
  have hle:=fstB_le P n
  have wr: ∀z:Int,-1≤z→z≤200000→IntKind.i64.wrap z=z:=fun z h1 h2=>by rw [IntKind.wrap_i64];omega
  rcases Nat.lt_or_ge (fstB n P) n with hm|hm
  · have hi:idxB n P=(fstB n P:Nat):=by unfold idxB;rw [nblt,decide_eq_true hm];rfl
    have hk:=f2 hm
    have hN:kpN P (fstB n P+1)=fstB n P:=by rw [kpN,hk,kpN_pre f1];rfl
    have hT: ∀a,a<fstB n P→kpT 0 P l (fstB n P+1) a=l a:=fun a ha=>by rw [kpT,hk];simpa using kpT_pre f1 ha
    rw [hi,hN]
    refine ⟨fun h=>by have:=eq_of_beq h;omega,fun _=>⟨wr _ (by omega) (by omega),rfl,by omega,fun i hi=>?_,by omega,fun s hs _=>⟨fun h=>?_,fun h=>?_⟩⟩⟩
    · unfold dwF
      rw [hN]
      rcases Nat.lt_or_ge i (fstB n P) with h|h
      · rw [blt_t h,hT i h];rfl
      · rw [blt_f h];rfl
    · have hlt:=lt_of_dec h
      have hks:=kpN_lt hk hs.1
      have e1:dwF P l s s=l s:=by unfold dwF;rw [blt_f (by omega)];rfl
      rw [e1]
      simp only [hPs]
      refine ⟨by omega,fun hn=>?_,fun hn=>?_⟩
      · have hps:P s=false:=notT hn
        have hn1:kpN P (s+1)=kpN P s+1:=by rw [kpN,hps];rfl
        refine ⟨by omega,wr _ (by omega) (by omega),wr _ (by omega) (by omega),s+1,by rw [hn1];rfl,rfl,fun i hi=>?_,by omega,by omega⟩
        unfold dwF
        rw [hn1]
        rcases Nat.lt_trichotomy i (kpN P s) with h3|h3|h3
        · have e:kpT 0 P l (s+1) i=kpT 0 P l s i:=by rw [kpT,beq_ne (by omega:i≠kpN P s)];simp
          rw [beq_ne (by omega:i≠kpN P s),blt_t h3,blt_t (by omega:i<kpN P s+1),e]
          rfl
        · subst h3
          have e:kpT 0 P l (s+1) (kpN P s)=l s:=by rw [kpT,hps,Nat.beq_refl];rfl
          rw [Nat.beq_refl,blt_t (by omega:kpN P s<kpN P s+1),e]
          rfl
        · rw [beq_ne (by omega:i≠kpN P s),blt_f (by omega:kpN P s≤i),blt_f (by omega:kpN P s+1≤i)]
          rfl
      · have hps:P s=true:=notF hn
        have hn1:kpN P (s+1)=kpN P s:=by rw [kpN,hps];rfl
        refine ⟨wr _ (by omega) (by omega),s+1,by rw [hn1],rfl,fun i hi=>?_,by omega,by omega⟩
        have e:kpT 0 P l (s+1) i=kpT 0 P l s i:=by rw [kpT,hps];rfl
        unfold dwF
        rw [hn1,e]
    · obtain rfl:s=n:=by have:=ge_of_dec h;omega
      have hks:=kpN_lt hk hs.1
      refine ⟨by omega,by omega,by omega,rfl,fun i hi=>?_⟩
      unfold dwF
      rcases Nat.lt_or_ge i (kpN P s) with h3|h3
      · rw [ble_f h3,blt_t h3];rfl
      · rw [ble_t h3,blt_f h3,blt_t (by omega:i<kpN P s+(s -kpN P s))];rfl
  · have hN:kpN P n=n:=kpN_pre fun j hj=>f1 j (by omega)
    have hi:idxB n P= -1:=by unfold idxB;rw [nblt,decide_eq_false (by omega)];rfl
    rw [hi,hN]
    refine ⟨fun _=>⟨rfl,fun i hi=>?_⟩,fun h=>by simp at h⟩
    rw [blt_t hi,kpT_pre (fun j hj=>f1 j (by omega)) hi];rfl
structure X_lvC where
  (t:Int) (n:Nat) (l:Nat→Int)
def s_lvC:Sy.Spec:=⟨X_lvC,fun ⟨t,n,_⟩=> [.slc 0 0 none 0 n,.pt true 1 (fun _=> .v (.int .i64 t))],fun ⟨_,n,l⟩=> [.row 1 n (iF l)],fun ⟨_,n,_⟩=>n≤100000,fun ⟨t,n,l⟩=> .slc 0 0 none 0 (woN n l t),fun ⟨t,n,l⟩=> [.row 1 n (iF (wdF n l t))],
  fun args mem=>match args with| [a0,a1]=>some ⟨intD (ptF a1 0),rowN mem 0,fun i=>intD (rowF mem 0 i 0)⟩|_=>none⟩
def c_lvC:Con:=⟨[true,false],s_lvC.g,none⟩
def V_lvC:X_lvC→Prop:=fun ⟨t,n,l⟩=>(((0=0∧n=n)∧tn 2 (t=t)∧True)∧((n=n∧(∀a0:Nat,a0<n→True∧l a0=l a0))∧True)∧s_delL.match_1 (fun b0:X_delL=>Prop) (X_delL.mk t n l) (fun c0:Int=>fun d0:Nat=>fun e0:∀g0:Nat,Int=>d0≤100000))∧(0=0∧woN n l t=woN n l t)∧(n=n∧(∀h0:Nat,let k0:=wdF n l t h0;h0<n→True∧k0=k0))∧True
set_option maxHeartbeats 1000000 in
theorem ok_lvC:FnOK Tryz.prog glN 209 c_lvC:=ok_of (.cons ok_delL .nil) false Tryz.call209 Tryz.func209 (fun _=> []) (V:=V_lvC) (fun _=>by kernel_rfl) fun ⟨t,n,l⟩ hp=>by
  dsimp only [s_lvC] at hp
  dsimp only [V_lvC,tn,w64]
  simp only [std,stb,eq_self,implies_true,Bool.cond_self]
  try simp only [wd_eta]
  exact hp
structure X_without where
  (n:Nat) (l:Nat→Int) (x:Int)
def s_without:Sy.Spec:=⟨X_without,fun ⟨n,l,x⟩=> [.sl true 1 n (fun i_ _=> .v (.int .i64 (l i_))),.v (.int .i64 x)],fun _=> [],fun ⟨n,_,_⟩=>n≤100000,fun ⟨n,l,x⟩=> .slc 0 0 none 0 (woN n l x),fun ⟨n,l,x⟩=> [.row 1 (woN n l x) (iF (woF n l x))],
  fun args mem=>match args with| [a0,a1]=>some ⟨slN a0,fun i=>intD (slF a0 i 0),intD (a1)⟩|_=>none⟩
def c_without:Con:=⟨[],s_without.g,none⟩
def V_without:X_without→Prop:=fun ⟨n,l,x⟩=>let a0:=isX l x;let b0:=kpN a0 0;let c0:=0=b0;let d0:=(n:Int);let e0:=woN n l x;(0=0∧c0)∧0=((0:Nat):Int)∧((c0∧(∀g0:Nat,g0<b0→True∧SV.junk=SV.v (Value.int IntKind.i64 (kpT 0 a0 l 0 g0))))∧True)∧0≤n∧(∀h0:Nat,let k0:=(h0:Int);let l0:=decide (k0<d0);let o0:=0≤k0∧k0<d0;let q0:Int:=l (Int.toNat k0);let r0:=q0 !=x;let u0:=kpN a0 h0;let v0:=u0+1;let w0:Int:=k0+1;let x0:=w64 w0=w0;h0≤n→d0≤9223372036854775807→(l0=true→o0∧(r0=true→o0∧True∧(v0*8≤140737488355328∧(∀y0:Nat,true=true))∧x0∧(∃z0:Nat,(0=0∧v0=kpN a0 z0)∧w0=(z0:Int)∧((v0=kpN a0 z0∧(∀a1:Nat,a1<kpN a0 z0→True∧cond (Nat.blt a1 u0) (kpT 0 a0 l h0 (0+a1)) (List.getD [q0] (0+(a1-u0)) 0)=kpT 0 a0 l z0 a1))∧True)∧z0≤n∧n-z0<n-h0))∧(r0=false→x0∧(∃b1:Nat,(0=0∧u0=kpN a0 b1)∧w0=(b1:Int)∧((u0=kpN a0 b1∧(∀c1:Nat,c1<kpN a0 b1→True∧kpT 0 a0 l h0 c1=kpT 0 a0 l b1 c1))∧True)∧b1≤n∧n-b1<n-h0)))∧(l0=false→(0=0∧u0=e0)∧(u0=e0∧(∀d1:Nat,d1<e0→True∧kpT 0 a0 l h0 d1=woF n l x d1))∧True))
set_option maxHeartbeats 1000000 in
theorem ok_without:FnOK Tryz.prog glN 122 c_without:=ok_of .nil false Tryz.call122 Tryz.func122 (fun ⟨n,l,x⟩=> [.inv (an_wo n l (isX l x) 5)]) (V:=V_without) (fun _=>by kernel_rfl) fun ⟨n,l,x⟩ hp=>by
  dsimp only [s_without] at hp
  dsimp only [V_without,tn,w64]
  simp only [std,stb,eq_self,implies_true,Bool.cond_self]
  try simp only [wd_eta]
  obtain ⟨P,hP⟩: ∃P:Nat→Bool,P=isX l x:=⟨_,rfl⟩
  have hc: ∀i,(l i !=x)=!P i:=fun i=>by rw [hP];rfl
  have hW:woN n l x=kpN P n:=by rw [hP];rfl
  have hF: ∀a,woF n l x a=kpT 0 P l n a:=fun a=>by rw [hP];rfl
  simp only [hW,hF]
  rw [←hP]
  have wr: ∀z:Int,-1≤z→z≤200000→IntKind.i64.wrap z=z:=fun z h1 h2=>by rw [IntKind.wrap_i64];omega
  refine ⟨rfl,⟨rfl,fun i hi=>absurd hi (by simp [kpN])⟩,fun s hs _=>⟨fun h=>?_,fun h=>?_⟩⟩
  · have hlt:=lt_of_dec h
    have hks:=kpN_le P s
    rw [hc]
    refine ⟨by omega,fun hn=>?_,fun hn=>?_⟩
    · have hps:P s=false:=notT hn
      have hn1:kpN P (s+1)=kpN P s+1:=by rw [kpN,hps];rfl
      refine ⟨by omega,by omega,wr _ (by omega) (by omega),s+1,hn1.symm,rfl,⟨hn1.symm,fun i hi=>?_⟩,by omega,by omega⟩
      rw [hn1] at hi
      rcases Nat.lt_or_ge i (kpN P s) with h3|h3
      · have e:kpT 0 P l (s+1) i=kpT 0 P l s i:=by rw [kpT,beq_ne (by omega:i≠kpN P s)];simp
        rw [blt_t h3,e];rfl
      · obtain rfl:i=kpN P s:=by omega
        have e:kpT 0 P l (s+1) (kpN P s)=l s:=by rw [kpT,hps,Nat.beq_refl];rfl
        rw [blt_f (Nat.le_refl _),e,Nat.sub_self];rfl
    · have hps:P s=true:=notF hn
      have hn1:kpN P (s+1)=kpN P s:=by rw [kpN,hps];rfl
      refine ⟨wr _ (by omega) (by omega),s+1,hn1.symm,rfl,⟨hn1.symm,fun i hi=>?_⟩,by omega,by omega⟩
      have e:kpT 0 P l (s+1) i=kpT 0 P l s i:=by rw [kpT,hps];rfl
      rw [e]
  · obtain rfl:s=n:=by have:=ge_of_dec h;omega
    exact ⟨rfl,rfl,fun _ _=>rfl⟩
end Go.Proofs.YtdjilaofmdhikaaGreatDoor
set_option linter.unusedVariables false
set_option linter.unusedSimpArgs false
set_option maxRecDepth 100000
namespace Go.Proofs.YtdjilaofmdhikaaGreatDoor
open Go.RowKit Go.Sy
def fdB (sp pg:Int) (e:Ent4):Bool:=e.sp==sp&&e.pg==pg
def zEn:Ent4:=⟨0,0,0,false⟩
def fdE (n:Nat) (t:Nat→Ent4) (sp pg:Int):Ent4:=bif Nat.blt (fstB n fun i=>fdB sp pg (t i)) n then t (fstB n fun i=>fdB sp pg (t i)) else zEn
def fdO (n:Nat) (t:Nat→Ent4) (sp pg:Int):Bool:=Nat.blt (fstB n fun i=>fdB sp pg (t i)) n
def anQ (n:Nat) (p:Nat→Bool):Ann where
  σ:=Nat
  rt:= []
  sh i:= [(8,.v (.int .i64 i))]
  mh _:= []
  inv i:=i≤n∧ ∀j,j<i→p j=false
  μ i:=n -i
  init:=0
structure X_find1 where
  (e:Ent4) (sp pg:Int)
def s_find1:Sy.Spec:=⟨X_find1,fun ⟨e,sp,pg⟩=> [.ag 4 (lsv (enL e)),.pt true 1 (fun _=> .v (.int .i64 sp)),.pt true 1 (fun _=> .v (.int .i64 pg))],fun _=> [],fun _=>True,fun ⟨e,sp,pg⟩=> .v (.bool (fdB sp pg e)),fun _=> [],
  fun args mem=>match args with| [a0,a1,a2]=>some ⟨enBD (agD a0),intD (ptF a1 0),intD (ptF a2 0)⟩|_=>none⟩
def c_find1:Con:=⟨[],s_find1.g,none⟩
def V_find1:X_find1→Prop:=fun ⟨e,sp,pg⟩=>True∧cond (e.sp==sp) (e.pg==pg) false=fdB sp pg e∧True
theorem ok_find1:FnOK Tryz.prog glN 226 c_find1:=ok_of .nil false Tryz.call226 Tryz.func226 (fun _=> []) (V:=V_find1) (fun _=>by kernel_rfl) fun ⟨e,sp,pg⟩ hp=>by
  dsimp only [V_find1,tn,w64]
  simp only [std,stb,eq_self,implies_true,Bool.cond_self]
  rfl
structure X_idxF where
  (n:Nat) (t:Nat→Ent4) (sp pg:Int)
def s_idxF:Sy.Spec:=⟨X_idxF,fun ⟨n,t,sp,pg⟩=> [.sl true 4 n (rF fun i=>enL (t i)),.fn 226 2 (lsv [.pt true 1 (fun _=> .v (.int .i64 sp)),.pt true 1 (fun _=> .v (.int .i64 pg))])],fun _=> [],fun _=>True,fun ⟨n,t,sp,pg⟩=> .v (.int .i64 (idxB n fun i=>fdB sp pg (t i))),fun _=> [],
  fun args mem=>match args with| [a0,a1]=>(match isFn 226 a1 with|true=>some ⟨slN a0,fun i=>enBD (fun j=>slF a0 i j),intD (ptF (fnF a1 0) 0),intD (ptF (fnF a1 1) 0)⟩|false=>none)|_=>none⟩
def c_idxF:Con:=⟨[],s_idxF.g,none⟩
def V_idxF:X_idxF→Prop:=fun ⟨n,t,sp,pg⟩=>let a0:=(n:Int);let b0:=idxB n (fun c0:Nat=>fdB sp pg (t c0));a0≤9223372036854775807→0=((0:Nat):Int)∧True∧(0≤n∧(∀d0:Nat,d0<0→fdB sp pg (t d0)=false))∧(∀e0:Nat,let g0:=(e0:Int);let h0:=decide (g0<a0);let k0:=t (Int.toNat g0);let l0:=k0.sp;let o0:=k0.pg;let q0:=k0.fr;let r0:=k0.wr;let u0:=fdB sp pg k0;let v0:Int:=g0+1;e0≤n∧(∀w0:Nat,w0<e0→fdB sp pg (t w0)=false)→(h0=true→(0≤g0∧g0<a0)∧((((((True∧l0=l0)∧o0=o0)∧q0=q0)∧r0=r0)∧(True∧sp=sp)∧(True∧pg=pg)∧True)∧True∧True)∧(u0=true→g0=b0∧True)∧(u0=false→w64 v0=v0∧(∃x0:Nat,v0=(x0:Int)∧True∧(x0≤n∧(∀y0:Nat,y0<x0→fdB sp pg (t y0)=false))∧n-x0<n-e0)))∧(h0=false→(-1)=b0∧True))
theorem ok_idxF:FnOK Tryz.prog glN 225 c_idxF:=ok_of (.cons ok_find1 .nil) false Tryz.call225 Tryz.func225 (fun ⟨n,t,sp,pg⟩=> [.inv (anQ n fun i=>fdB sp pg (t i))]) (V:=V_idxF) (fun _=>by kernel_rfl) fun ⟨n,t,sp,pg⟩ hp=>by
  dsimp only [V_idxF,tn,w64]
  simp only [std,eq_self,implies_true,Bool.cond_self]
  intro _ s hs
  refine ⟨fun h=>?_,fun h=>?_⟩
  · have hlt:=lt_of_dec h
    refine ⟨by omega,fun h1=>?_,fun h1=>⟨by rw [IntKind.wrap_i64];omega,exS ⟨⟨by omega,fun j hj=>?_⟩,by omega⟩⟩⟩
    · rw [idxB_at (p:=fun i=>fdB sp pg (t i)) hs.2 h1 hlt]
    · rcases Nat.lt_or_ge j s with h3|h3
      · exact hs.2 j h3
      · obtain rfl:j=s:=by omega
        exact h1
  · obtain rfl:s=n:=by have:=ge_of_dec h;omega
    rw [idxB_none (p:=fun i=>fdB sp pg (t i)) hs.2]
structure X_cloneE where
  (n:Nat) (t:Nat→Ent4)
def s_cloneE:Sy.Spec:=⟨X_cloneE,fun ⟨n,t⟩=> [.sl true 4 n (rF fun i=>enL (t i))],fun _=> [],fun ⟨n,_⟩=>n≤100000,fun ⟨n,_⟩=> .slc 0 0 none 0 n,fun ⟨n,t⟩=> [.row 4 n (rF fun i=>enL (t i))],
  fun args mem=>match args with| [a0]=>some ⟨slN a0,fun i=>enBD (fun j=>slF a0 i j)⟩|_=>none⟩
def c_cloneE:Con:=⟨[],s_cloneE.g,none⟩
def V_cloneE:X_cloneE→Prop:=fun ⟨n,t⟩=> ∀a0:Bool,(a0=true→n=0)→(a0=true→(0=0∧0=n)∧(0=n∧(∀b0:Nat,b0<n→(((True∧SV.junk=SV.v (Value.int IntKind.i64 (t b0).sp))∧SV.junk=SV.v (Value.int IntKind.i64 (t b0).pg))∧SV.junk=SV.v (Value.int IntKind.i64 (t b0).fr))∧SV.junk=SV.v (Value.bool (t b0).wr)))∧True)∧(a0=false→True∧(n*32≤140737488355328∧(∀c0:Nat,true=true))∧(0=0∧n=n)∧(n=n∧(∀d0:Nat,d0<n→(((True∧(t d0).sp=(t d0).sp)∧(t d0).pg=(t d0).pg)∧(t d0).fr=(t d0).fr)∧(t d0).wr=(t d0).wr))∧True)
theorem ok_cloneE:FnOK Tryz.prog glN 216 c_cloneE:=ok_of .nil false Tryz.call216 Tryz.func216 (fun _=> []) (V:=V_cloneE) (fun _=>by kernel_rfl) fun ⟨n,t⟩ hp=>by
  dsimp only [s_cloneE] at hp
  dsimp only [V_cloneE,tn,w64]
  simp only [std,eq_self,implies_true,Bool.cond_self]
  intro b hb
  refine ⟨fun h=>?_,fun _=>?_⟩
  · have:=hb h
    subst this
    exact ⟨rfl,rfl,fun i hi=>absurd hi (by omega)⟩
  · omega
structure X_find where
  (n:Nat) (t:Nat→Ent4) (sp pg:Int)
def s_find:Sy.Spec:=⟨X_find,fun ⟨n,t,sp,pg⟩=> [.sl true 4 n (rF fun i=>enL (t i)),.v (.int .i64 sp),.v (.int .i64 pg)],fun _=> [],fun _=>True,fun ⟨n,t,sp,pg⟩=> .tp 2 (lsv [.ag 4 (lsv (enL (fdE n t sp pg))),.v (.bool (fdO n t sp pg))]),fun _=> [],
  fun args mem=>match args with| [a0,a1,a2]=>some ⟨slN a0,fun i=>enBD (fun j=>slF a0 i j),intD (a1),intD (a2)⟩|_=>none⟩
def c_find:Con:=⟨[],s_find.g,none⟩
def V_find:X_find→Prop:=fun ⟨n,t,sp,pg⟩=>let a0:=idxB n (fun b0:Nat=>fdB sp pg (t b0));let c0:=decide (a0<0);let d0:=tn 3 True;let e0:=fdE n t sp pg;let g0:=e0.sp;let h0:=e0.pg;let k0:=e0.fr;let l0:=e0.wr;let o0:=fdO n t sp pg;let q0:=t (Int.toNat a0);tn 3 ((((n=n∧(∀r0:Nat,r0<n→(((True∧(t r0).sp=(t r0).sp)∧(t r0).pg=(t r0).pg)∧(t r0).fr=(t r0).fr)∧(t r0).wr=(t r0).wr))∧(tn 2 (sp=sp)∧True∧pg=pg)∧True)∧True∧True)∧(c0=true→d0∧((True∧(((True∧0=g0)∧0=h0)∧0=k0)∧false=l0)∧false=o0)∧True)∧(c0=false→(0≤a0∧a0<(n:Int))∧d0∧((True∧(((True∧q0.sp=g0)∧q0.pg=h0)∧q0.fr=k0)∧q0.wr=l0)∧true=o0)∧True))
theorem ok_find:FnOK Tryz.prog glN 206 c_find:=ok_of (.cons ok_idxF .nil) false Tryz.call206 Tryz.func206 (fun _=> []) (V:=V_find) (fun _=>by kernel_rfl) fun ⟨n,t,sp,pg⟩ hp=>by
  dsimp only [V_find,tn,w64]
  simp only [std,eq_self,implies_true,Bool.cond_self]
  have key: ∀b,fdO n t sp pg=b→(b=true∧(idxB n fun i=>fdB sp pg (t i))=(fstB n fun i=>fdB sp pg (t i):Nat)∧(fstB n fun i=>fdB sp pg (t i))<n∧fdE n t sp pg=t (fstB n fun i=>fdB sp pg (t i)))∨(b=false∧(idxB n fun i=>fdB sp pg (t i))= -1∧fdE n t sp pg=zEn):=by
    intro b h
    have h':Nat.blt (fstB n fun i=>fdB sp pg (t i)) n=b:=h
    cases b with
    |true=>left;exact ⟨rfl,by unfold idxB;rw [h'];rfl,Nat.le_of_ble_eq_true h',by unfold fdE;rw [h'];rfl⟩
    |false=>right;exact ⟨rfl,by unfold idxB;rw [h'];rfl,by unfold fdE;rw [h'];rfl⟩
  rcases key _ rfl with ⟨h1,h2,h3,h4⟩|⟨h1,h2,h4⟩
  · rw [h1,h2,h4]
    refine ⟨fun h=>by simp at h;omega,fun _=>⟨by omega,?_,rfl⟩⟩
    rw [Int.toNat_natCast]
    exact ⟨⟨⟨rfl,rfl⟩,rfl⟩,rfl⟩
  · rw [h1,h2,h4]
    exact ⟨fun _=>⟨⟨⟨⟨rfl,rfl⟩,rfl⟩,rfl⟩,rfl⟩,fun h=>by simp at h⟩
end Go.Proofs.YtdjilaofmdhikaaGreatDoor
set_option linter.unusedVariables false
set_option linter.unusedSimpArgs false
set_option maxRecDepth 100000
namespace Go.Proofs.YtdjilaofmdhikaaGreatDoor
open Go.RowKit Go.Sy
def rEq (a b:Run):Prop:=((((((((((((((((((((True∧a.r0=b.r0)∧a.r1=b.r1)∧a.r2=b.r2)∧a.r3=b.r3)∧a.r4=b.r4)∧a.r5=b.r5)∧a.r6=b.r6)∧a.r7=b.r7)∧a.pc=b.pc)∧a.st=b.st)∧a.prio=b.prio)∧a.node=b.node)∧a.space=b.space)∧a.helper=b.helper)∧a.loc=b.loc)∧a.word=b.word)∧a.badge=b.badge)∧a.owes=b.owes)∧a.core=b.core)∧a.dom=b.dom)
def sEq (a b:Slt):Prop:=(((((((True∧a.kind=b.kind)∧a.base=b.base)∧a.len=b.len)∧a.mark=b.mark)∧a.rights=b.rights)∧a.badge=b.badge)∧a.from_=b.from_)
def eEq (a b:Ent4):Prop:=((((True∧a.sp=b.sp)∧a.pg=b.pg)∧a.fr=b.fr)∧a.wr=b.wr)
def wEq (Y X:Wd) (T:Prop):Prop:=(((((((((((True∧0=0∧Y.nRam=X.nRam)∧0=0∧Y.nKinds=X.nKinds)∧0=0∧Y.nSlots=X.nSlots)∧0=0∧Y.nTasks=X.nTasks)∧0=0∧Y.nLines=X.nLines)∧0=0∧Y.nBits=X.nBits)∧0=0∧Y.nCores=X.nCores)∧0=0∧Y.nReady=X.nReady)∧0=0∧Y.nTlbs=X.nTlbs)∧0=0∧Y.nDoms=X.nDoms)∧Y.time=X.time)∧(Y.nRam=X.nRam∧ ∀i:Nat,i<X.nRam→True∧Y.ram i=X.ram i)∧(Y.nKinds=X.nKinds∧ ∀i:Nat,i<X.nKinds→True∧Y.kinds i=X.kinds i)∧(Y.nSlots=X.nSlots∧ ∀i:Nat,i<X.nSlots→sEq (Y.slots i) (X.slots i))∧(Y.nTasks=X.nTasks∧ ∀i:Nat,i<X.nTasks→rEq (Y.tasks i) (X.tasks i))∧(Y.nLines=X.nLines∧ ∀i:Nat,i<X.nLines→True∧Y.linesN i=X.linesN i∧ ∀k:Nat,k<X.linesN i→True∧Y.lines i k=X.lines i k)∧(Y.nBits=X.nBits∧ ∀i:Nat,i<X.nBits→True∧Y.bits i=X.bits i)∧(Y.nCores=X.nCores∧ ∀i:Nat,i<X.nCores→True∧Y.cores i=X.cores i)∧(Y.nReady=X.nReady∧ ∀i:Nat,i<X.nReady→True∧Y.readyN i=X.readyN i∧ ∀k:Nat,k<X.readyN i→True∧Y.ready i k=X.ready i k)∧(Y.nTlbs=X.nTlbs∧ ∀i:Nat,i<X.nTlbs→True∧Y.tlbsN i=X.tlbsN i∧ ∀k:Nat,k<X.tlbsN i→eEq (Y.tlbs i k) (X.tlbs i k))∧(Y.nDoms=X.nDoms∧ ∀i:Nat,i<X.nDoms→True∧Y.doms i=X.doms i)∧T
end Go.Proofs.YtdjilaofmdhikaaGreatDoor
set_option linter.unusedVariables false
set_option linter.unusedSimpArgs false
set_option maxRecDepth 100000
namespace Go.Proofs.YtdjilaofmdhikaaGreatDoor
open Go.RowKit Go.Sy
theorem ent4 {x y:Ent4} (h:x=y):((x.sp=y.sp∧x.pg=y.pg)∧x.fr=y.fr)∧x.wr=y.wr:=by subst h;exact ⟨⟨⟨rfl,rfl⟩,rfl⟩,rfl⟩
def an_del (n:Nat) (t:Nat→Ent4) (p:Nat→Bool):Ann where
  σ:=Nat
  rt:= []
  sh j:= [(0,.slc 0 0 none 0 n),(5,.v (.int .i64 (kpN p j))),(6,.v (.int .i64 j))]
  mh j:= [(0,.row 4 n fun a c=>lsv (enL (bif Nat.blt a (kpN p j) then kpT zEn p t j a else t a)) c)]
  inv j:=fstB n p<j∧j≤n
  μ j:=n -j
  init:=fstB n p+1
def wrB (n:Nat) (ram:Nat→Int) (e:Ent4):Bool:=!((wkE n ram e.sp (16*e.pg)==0)&&(wkF n ram e.sp (16*e.pg)==e.fr)&&(wkW n ram e.sp (16*e.pg)==e.wr))
def spB (f:Int) (e:Ent4):Bool:=e.sp==f
def wrK (n:Nat) (ram:Nat→Int) (k f:Int) (e:Ent4):Bool:=wrB n ram e||(k==4&&e.sp==f)
def fgN (p:Ent4→Bool) (W:Wd) (c:Nat):Nat:=kpN (fun i=>p (W.tlbs c i)) (W.tlbsN c)
def fgT (p:Ent4→Bool) (W:Wd) (c:Nat):Nat→Ent4:=kpT zEn (fun i=>p (W.tlbs c i)) (W.tlbs c) (W.tlbsN c)
def fgW (p:Ent4→Bool) (W:Wd):Wd:={W with tlbsN:=fgN p W,tlbs:=fgT p W}
def fg1N (p:Ent4→Bool) (W:Wd) (i q:Nat):Nat:=bif Nat.blt q i then fgN p W q else W.tlbsN q
def fg1T (p:Ent4→Bool) (W:Wd) (i q:Nat):Nat→Ent4:=bif Nat.blt q i then fgT p W q else W.tlbs q
theorem fg1N_lt {p:Ent4→Bool} {W:Wd} {i q:Nat} (h:q<i):fg1N p W i q=fgN p W q:=by unfold fg1N;rw [blt_t h];rfl
theorem fg1N_ge {p:Ent4→Bool} {W:Wd} {i q:Nat} (h:i≤q):fg1N p W i q=W.tlbsN q:=by unfold fg1N;rw [blt_f h];rfl
theorem fg1T_lt {p:Ent4→Bool} {W:Wd} {i q:Nat} (h:q<i):fg1T p W i q=fgT p W q:=by unfold fg1T;rw [blt_t h];rfl
theorem fg1T_ge {p:Ent4→Bool} {W:Wd} {i q:Nat} (h:i≤q):fg1T p W i q=W.tlbs q:=by unfold fg1T;rw [blt_f h];rfl
structure TlR (W:Wd):Prop where
  z:Szd W
  ram: ∀i,i<W.nRam→isW (W.ram i)
  tn: ∀c,c<W.nTlbs→W.tlbsN c≤1000
  pg: ∀c,c<W.nTlbs→ ∀k,k<W.tlbsN c→0≤(W.tlbs c k).pg∧(W.tlbs c k).pg≤255
def an_fg (p:Ent4→Bool) (W:Wd) (l:List (Nat×SV)) (z:Nat):Ann where
  σ:=Nat
  rt:= []
  sh i:=l++ [(z,.v (.int .i64 i))]
  mh i:= [(9,.row 1 W.nTlbs (fun q _=> .il 4 (fg1N p W i q) (rF fun k=>enL (fg1T p W i q k))))]
  inv i:=i≤W.nTlbs
  μ i:=W.nTlbs -i
  init:=0
structure X_agC where
  (e:Ent4) (m:Nat) (ram:Nat→Int)
def s_agC:Sy.Spec:=⟨X_agC,fun ⟨e,m,ram⟩=> [.ag 4 (lsv (enL e)),.pt true 1 (fun _=> .pt true 11 (lsv [.sl true 1 m (iF ram)]))],fun _=> [],fun ⟨e,m,ram⟩=>0≤e.pg∧e.pg≤255∧ ∀i,i<m→isW (ram i),fun ⟨e,m,ram⟩=> .v (.bool (wrB m ram e)),fun _=> [],
  fun args mem=>match args with| [a0,a1]=>some ⟨enBD (agD a0),slN (ptF (ptF a1 0) 0),fun i=>intD (slF (ptF (ptF a1 0) 0) i 0)⟩|_=>none⟩
def c_agC:Con:=⟨[],(s_agC).g,none⟩
def V_agC:X_agC→Prop:=fun ⟨e,m,ram⟩=>let a0:Int:=16*e.pg;tn 9 (w64 a0=a0∧(((m=m∧(∀b0:Nat,b0<m→True∧ram b0=ram b0))∧e.sp=e.sp∧a0=a0∧True)∧True∧(∀c0:Nat,c0<m→0≤ram c0∧ram c0≤65535))∧tn 5 (cond (cond (wkE m ram e.sp a0 !=0) true (wkF m ram e.sp a0 !=e.fr)) true (wkW m ram e.sp a0 !=e.wr)=wrB m ram e∧True))
theorem ok_agC:FnOK Tryz.prog glN 231 c_agC:=ok_of (.cons ok_walk .nil) false Tryz.call231 Tryz.func231 (fun _=> []) (V:=V_agC) (fun _=>by kernel_rfl) fun ⟨e,m,ram⟩ hp=>by
  dsimp only [s_agC] at hp
  dsimp only [V_agC,tn,w64,wEq,rEq,sEq,eEq]
  simp only [std,stb,eq_self,implies_true,Bool.cond_self]
  try simp only [wd_eta]
  obtain ⟨h1,h2,h3⟩:=hp
  refine ⟨by rw [IntKind.wrap_i64];omega,h3,?_⟩
  unfold wrB bne
  cases wkE m ram e.sp (16*e.pg)==0<;>cases wkF m ram e.sp (16*e.pg)==e.fr<;>cases wkW m ram e.sp (16*e.pg)==e.wr<;>rfl
structure X_fsC where
  (e:Ent4) (f:Int)
def s_fsC:Sy.Spec:=⟨X_fsC,fun ⟨e,f⟩=> [.ag 4 (lsv (enL e)),.pt true 1 (fun _=> .v (.int .i64 f))],fun _=> [],fun _=>True,fun ⟨e,f⟩=> .v (.bool (spB f e)),fun _=> [],
  fun args mem=>match args with| [a0,a1]=>some ⟨enBD (agD a0),intD (ptF a1 0)⟩|_=>none⟩
def c_fsC:Con:=⟨[],(s_fsC).g,none⟩
def V_fsC:X_fsC→Prop:=fun ⟨e,f⟩=>True∧(e.sp==f)=spB f e∧True
theorem ok_fsC:FnOK Tryz.prog glN 214 c_fsC:=ok_of .nil false Tryz.call214 Tryz.func214 (fun _=> []) (V:=V_fsC) (fun _=>by kernel_rfl) fun ⟨e,f⟩ hp=>by
  dsimp only [V_fsC,tn,w64,wEq,rEq,sEq,eEq]
  simp only [std,stb,eq_self,implies_true,Bool.cond_self]
  try simp only [wd_eta]
  rfl
structure X_idxA where
  (n:Nat) (t:Nat→Ent4) (m:Nat) (ram:Nat→Int)
def s_idxA:Sy.Spec:=⟨X_idxA,fun ⟨n,t,m,ram⟩=> [.sl true 4 n (rF fun i=>enL (t i)),.fn 231 1 (lsv [.pt true 1 (fun _=> .pt true 11 (lsv [.sl true 1 m (iF ram)]))])],fun _=> [],fun ⟨n,t,m,ram⟩=>n≤100000∧(∀i,i<m→isW (ram i))∧ ∀k,k<n→0≤(t k).pg∧(t k).pg≤255,fun ⟨n,t,m,ram⟩=> .v (.int .i64 (idxB n fun i=>wrB m ram (t i))),fun _=> [],
  fun args mem=>match args with| [a0,a1]=>(match isFn 231 a1 with|true=>some ⟨slN a0,fun i=>enBD (fun j=>slF a0 i j),slN (ptF (ptF (fnF a1 0) 0) 0),fun i=>intD (slF (ptF (ptF (fnF a1 0) 0) 0) i 0)⟩|false=>none)|_=>none⟩
def c_idxA:Con:=⟨[],(s_idxA).g,none⟩
def V_idxA:X_idxA→Prop:=fun ⟨n,t,m,ram⟩=>let a0:=(n:Int);let b0:=idxB n (fun c0:Nat=>wrB m ram (t c0));a0≤9223372036854775807→0=((0:Nat):Int)∧True∧(0≤n∧(∀d0:Nat,d0<0→wrB m ram (t d0)=false))∧(∀e0:Nat,let g0:=(e0:Int);let h0:=decide (g0<a0);let k0:=t (Int.toNat g0);let l0:=k0.pg;let o0:=wrB m ram k0;let q0:Int:=g0+1;e0≤n∧(∀r0:Nat,r0<e0→wrB m ram (t r0)=false)→(h0=true→(0≤g0∧g0<a0)∧((eEq k0 k0∧(True∧((((((((((True∧m=m∧(∀u0:Nat,u0<m→True∧ram u0=ram u0))∧True)∧True)∧True)∧True)∧True)∧True)∧True)∧True)∧True)∧True)∧True)∧True∧0≤l0∧l0≤255∧(∀v0:Nat,v0<m→0≤ram v0∧ram v0≤65535))∧(o0=true→g0=b0∧True)∧(o0=false→w64 q0=q0∧(∃w0:Nat,q0=(w0:Int)∧True∧(w0≤n∧(∀x0:Nat,x0<w0→wrB m ram (t x0)=false))∧n-w0<n-e0)))∧(h0=false→(-1)=b0∧True))
theorem ok_idxA:FnOK Tryz.prog glN 225 c_idxA:=ok_of (.cons ok_agC .nil) false Tryz.call225 Tryz.func225 (fun ⟨n,t,m,ram⟩=> [.inv (anQ n fun i=>wrB m ram (t i))]) (V:=V_idxA) (fun _=>by kernel_rfl) fun ⟨n,t,m,ram⟩ hp=>by
  dsimp only [s_idxA] at hp
  dsimp only [V_idxA,tn,w64,wEq,rEq,sEq,eEq]
  simp only [std,stb,eq_self,implies_true,Bool.cond_self]
  try simp only [wd_eta]
  intro _ s hs
  refine ⟨fun h=>?_,fun h=>?_⟩
  · have hlt:=lt_of_dec h
    refine ⟨by omega,⟨(hp.2.2 s (by omega)).1,(hp.2.2 s (by omega)).2,hp.2.1⟩,fun h1=>?_,fun h1=>⟨by rw [IntKind.wrap_i64];omega,exS ⟨⟨by omega,fun j hj=>?_⟩,by omega⟩⟩⟩
    · rw [idxB_at (p:=fun i=>wrB m ram (t i)) hs.2 h1 hlt]
    · rcases Nat.lt_or_ge j s with h3|h3
      · exact hs.2 j h3
      · obtain rfl:j=s:=by omega
        exact h1
  · obtain rfl:s=n:=by have:=ge_of_dec h;omega
    rw [idxB_none (p:=fun i=>wrB m ram (t i)) hs.2]
structure X_idxS2 where
  (n:Nat) (t:Nat→Ent4) (f:Int)
def s_idxS2:Sy.Spec:=⟨X_idxS2,fun ⟨n,t,f⟩=> [.sl true 4 n (rF fun i=>enL (t i)),.fn 214 1 (lsv [.pt true 1 (fun _=> .v (.int .i64 f))])],fun _=> [],fun ⟨n,_,_⟩=>n≤100000,fun ⟨n,t,f⟩=> .v (.int .i64 (idxB n fun i=>spB f (t i))),fun _=> [],
  fun args mem=>match args with| [a0,a1]=>(match isFn 214 a1 with|true=>some ⟨slN a0,fun i=>enBD (fun j=>slF a0 i j),intD (ptF (fnF a1 0) 0)⟩|false=>none)|_=>none⟩
def c_idxS2:Con:=⟨[],(s_idxS2).g,none⟩
def V_idxS2:X_idxS2→Prop:=fun ⟨n,t,f⟩=>let a0:=(n:Int);let b0:=idxB n (fun c0:Nat=>spB f (t c0));a0≤9223372036854775807→0=((0:Nat):Int)∧True∧(0≤n∧(∀d0:Nat,d0<0→spB f (t d0)=false))∧(∀e0:Nat,let g0:=(e0:Int);let h0:=decide (g0<a0);let k0:=t (Int.toNat g0);let l0:=spB f k0;let o0:Int:=g0+1;e0≤n∧(∀q0:Nat,q0<e0→spB f (t q0)=false)→(h0=true→(0≤g0∧g0<a0)∧((eEq k0 k0∧(True∧f=f)∧True)∧True∧True)∧(l0=true→g0=b0∧True)∧(l0=false→w64 o0=o0∧(∃r0:Nat,o0=(r0:Int)∧True∧(r0≤n∧(∀u0:Nat,u0<r0→spB f (t u0)=false))∧n-r0<n-e0)))∧(h0=false→(-1)=b0∧True))
theorem ok_idxS2:FnOK Tryz.prog glN 225 c_idxS2:=ok_of (.cons ok_fsC .nil) false Tryz.call225 Tryz.func225 (fun ⟨n,t,f⟩=> [.inv (anQ n fun i=>spB f (t i))]) (V:=V_idxS2) (fun _=>by kernel_rfl) fun ⟨n,t,f⟩ hp=>by
  dsimp only [s_idxS2] at hp
  dsimp only [V_idxS2,tn,w64,wEq,rEq,sEq,eEq]
  simp only [std,stb,eq_self,implies_true,Bool.cond_self]
  try simp only [wd_eta]
  intro _ s hs
  refine ⟨fun h=>?_,fun h=>?_⟩
  · have hlt:=lt_of_dec h
    refine ⟨by omega,fun h1=>?_,fun h1=>⟨by rw [IntKind.wrap_i64];omega,exS ⟨⟨by omega,fun j hj=>?_⟩,by omega⟩⟩⟩
    · rw [idxB_at (p:=fun i=>spB f (t i)) hs.2 h1 hlt]
    · rcases Nat.lt_or_ge j s with h3|h3
      · exact hs.2 j h3
      · obtain rfl:j=s:=by omega
        exact h1
  · obtain rfl:s=n:=by have:=ge_of_dec h;omega
    rw [idxB_none (p:=fun i=>spB f (t i)) hs.2]
structure X_delA where
  (m:Nat) (ram:Nat→Int) (n:Nat) (t:Nat→Ent4)
def s_delA:Sy.Spec:=⟨X_delA,fun ⟨m,ram,n,_⟩=> [.slc 0 0 none 0 n,.fn 231 1 (lsv [.pt true 1 (fun _=> .pt true 11 (lsv [.sl true 1 m (iF ram)]))])],fun ⟨_,_,n,t⟩=> [.row 4 n (rF fun i=>enL (t i))],fun ⟨m,ram,n,t⟩=>n≤100000∧(∀i,i<m→isW (ram i))∧ ∀k,k<n→0≤(t k).pg∧(t k).pg≤255,fun ⟨m,ram,n,t⟩=> .slc 0 0 none 0 (kpN (fun i=>wrB m ram (t i)) n),fun ⟨m,ram,n,t⟩=> [.row 4 n (rF fun a=>enL (bif Nat.blt a (kpN (fun i=>wrB m ram (t i)) n) then kpT zEn (fun i=>wrB m ram (t i)) t n a else zEn))],
  fun args mem=>match args with| [a0,a1]=>(match isFn 231 a1 with|true=>some ⟨slN (ptF (ptF (fnF a1 0) 0) 0),fun i=>intD (slF (ptF (ptF (fnF a1 0) 0) 0) i 0),rowN mem 0,fun i=>enBD (fun j=>rowF mem 0 i j)⟩|false=>none)|_=>none⟩
def c_delA:Con:=⟨[true,false],(s_delA).g,none⟩
def V_delA:X_delA→Prop:=fun ⟨m,ram,n,t⟩=>let a0:=n=n;let b0:=True∧((((((((((True∧m=m∧(∀c0:Nat,c0<m→True∧ram c0=ram c0))∧True)∧True)∧True)∧True)∧True)∧True)∧True)∧True)∧True)∧True;let d0:=idxB n (fun e0:Nat=>wrB m ram (t (0+e0)));let g0:=d0==(-1);let h0:=kpN (fun k0:Nat=>wrB m ram (t k0)) n;let l0:=Ent4.mk 0 0 0 false;let o0:Int:=d0+1;let q0:=0=0∧a0;let r0:=fstB n (fun u0:Nat=>wrB m ram (t u0));let v0:=r0+1;let w0:=kpN (fun x0:Nat=>wrB m ram (t x0)) v0;let y0:=(n:Int);let z0:=false=false;let a1:=Int.toNat y0;(((a0∧(∀b1:Nat,b1<n→eEq (t (0+b1)) (t (0+b1))))∧(True∧b0)∧True)∧True∧n≤100000∧(∀c1:Nat,c1<m→0≤ram c1∧ram c1≤65535)∧(∀d1:Nat,d1<n→0≤(t (0+d1)).pg∧(t (0+d1)).pg≤255))∧(g0=true→(0=0∧n=h0)∧(a0∧(∀e1:Nat,e1<n→eEq (t e1) (cond (Nat.blt e1 h0) (kpT l0 (fun g1:Nat=>wrB m ram (t g1)) t n e1) l0)))∧True)∧(g0=false→w64 o0=o0∧q0∧d0=(w0:Int)∧o0=(v0:Int)∧((a0∧(∀h1:Nat,h1<n→eEq (t h1) (cond (Nat.blt h1 w0) (kpT l0 (fun k1:Nat=>wrB m ram (t k1)) t v0 h1) (t h1))))∧True)∧(r0<v0∧v0≤n)∧(∀l1:Nat,let o1:=(l1:Int);let q1:=decide (o1<y0);let r1:=0+Int.toNat o1;let u1:=kpN (fun v1:Nat=>wrB m ram (t v1)) l1;let w1:=cond (Nat.blt r1 u1) (kpT l0 (fun x1:Nat=>wrB m ram (t x1)) t l1 r1) (t r1);let y1:=w1.pg;let z1:=!wrB m ram w1;let a2:=(u1:Int);let b2:=0≤a2;let c2:Int:=a2+1;let d2:Int:=o1+1;let e2:=w64 d2=d2;let g2:=Int.toNat a2;let h2:=0+g2;let k2:=a2≤y0;let l2:=h2+(a1-g2);r0<l1∧l1≤n→y0≤9223372036854775807→(q1=true→(0≤o1∧o1<y0)∧True∧tn 3 True∧((eEq w1 w1∧b0∧True)∧True∧0≤y1∧y1≤255∧(∀o2:Nat,o2<m→0≤ram o2∧ram o2≤65535))∧(z1=true→(b2∧a2<y0)∧
    ((∀q2:Nat,z0)∧(∀r2:Nat,z0)∧(∀u2:Nat,z0)∧(∀v2:Nat,z0))∧w64 c2=c2∧e2∧(∃w2:Nat,let x2:=kpN (fun y2:Nat=>wrB m ram (t y2)) w2;q0∧c2=(x2:Int)∧d2=(w2:Int)∧((a0∧(∀z2:Nat,let a3:=Nat.beq z2 h2;let b3:=cond (Nat.blt z2 u1) (kpT l0 (fun c3:Nat=>wrB m ram (t c3)) t l1 z2) (t z2);z2<n→eEq (Ent4.mk (cond a3 w1.sp b3.sp) (cond a3 y1 b3.pg) (cond a3 w1.fr b3.fr) (cond a3 w1.wr b3.wr)) (cond (Nat.blt z2 x2) (kpT l0 (fun d3:Nat=>wrB m ram (t d3)) t w2 z2) (t z2))))∧True)∧(r0<w2∧w2≤n)∧n-w2<n-l1))∧(z1=false→e2∧(∃e3:Nat,let g3:=kpN (fun h3:Nat=>wrB m ram (t h3)) e3;q0∧a2=(g3:Int)∧d2=(e3:Int)∧((a0∧(∀k3:Nat,k3<n→eEq (cond (Nat.blt k3 u1) (kpT l0 (fun l3:Nat=>wrB m ram (t l3)) t l1 k3) (t k3)) (cond (Nat.blt k3 g3) (kpT l0 (fun o3:Nat=>wrB m ram (t o3)) t e3 k3) (t k3))))∧True)∧(r0<e3∧e3≤n)∧n-e3<n-l1)))∧(q1=false→(b2∧k2∧y0≤y0)∧((∀q3:Nat,true=true)∧l2≤n)∧((0:Int)≤0∧b2∧k2)∧(0=0∧g2-Int.toNat 0=h0)∧(a0∧(∀r3:Nat,let u3:=Nat.ble h2 r3&&Nat.blt r3 l2;let v3:=cond (Nat.blt r3 u1) (kpT l0 (fun w3:Nat=>wrB m ram (t w3)) t l1 r3) (t r3);r3<n→eEq (Ent4.mk (cond u3 0 v3.sp) (cond u3 0 v3.pg) (cond u3 0 v3.fr) (cond u3 false v3.wr)) (cond (Nat.blt r3 h0) (kpT l0 (fun x3:Nat=>wrB m ram (t x3)) t n r3) l0)))∧True)))
set_option maxHeartbeats 1000000 in
theorem ok_delA:FnOK Tryz.prog glN 228 c_delA:=ok_of (.cons ok_idxA (.cons ok_agC .nil)) false Tryz.call228 Tryz.func228 (fun ⟨m,ram,n,t⟩=> [.inv (an_del n t fun i=>wrB m ram (t i))]) (V:=V_delA) (fun _=>by kernel_rfl) fun ⟨m,ram,n,t⟩ hp=>by
  dsimp only [s_delA] at hp
  dsimp only [V_delA,tn,w64,wEq,rEq,sEq,eEq]
  simp only [std,stb,eq_self,implies_true,Bool.cond_self]
  try simp only [wd_eta]
  obtain ⟨hp,hr,hpg⟩:=hp
  refine ⟨⟨hp,hr,hpg⟩,?_⟩
  simp only [show (Ent4.mk 0 0 0 false)=zEn from rfl]
  obtain ⟨P,hP⟩: ∃P:Nat→Bool,P=fun i=>wrB m ram (t i):=⟨_,rfl⟩
  have hPs: ∀i,wrB m ram (t i)=P i:=fun i=>by rw [hP]
  rw [←hP]
  obtain ⟨f1,f2⟩:=fst_sp P n
  have hle:=fstB_le P n
  have wr: ∀z:Int,-1≤z→z≤200000→IntKind.i64.wrap z=z:=fun z h1 h2=>by rw [IntKind.wrap_i64];omega
  rcases Nat.lt_or_ge (fstB n P) n with hm|hm
  · have hi:idxB n P=(fstB n P:Nat):=by unfold idxB;rw [nblt,decide_eq_true hm];rfl
    have hk:=f2 hm
    have hN:kpN P (fstB n P+1)=fstB n P:=by rw [kpN,hk,kpN_pre f1];rfl
    have hT: ∀a,a<fstB n P→kpT zEn P t (fstB n P+1) a=t a:=fun a ha=>by rw [kpT,hk];simpa using kpT_pre f1 ha
    rw [hi,hN]
    refine ⟨fun h=>by have:=eq_of_beq h;omega,fun _=>⟨wr _ (by omega) (by omega),rfl,by omega,fun i hi=>ent4 ?_,by omega,fun s hs _=>⟨fun h=>?_,fun h=>?_⟩⟩⟩
    · rcases Nat.lt_or_ge i (fstB n P) with h|h
      · rw [nblt,decide_eq_true h,hT i h];rfl
      · rw [nblt,decide_eq_false (by omega)];rfl
    · have hlt:=lt_of_dec h
      have hks:=kpN_lt hk hs.1
      have e1:Nat.blt s (kpN P s)=false:=by rw [nblt];exact decide_eq_false (by omega)
      rw [e1]
      simp only [cond_false,hPs]
      have bq: ∀{a b:Nat},a≠b→Nat.beq a b=false:=fun {a b} h=>by
        cases hb:Nat.beq a b with
        |false=>rfl
        |true=>exact absurd (Nat.eq_of_beq_eq_true hb) h
      refine ⟨by omega,⟨(hpg s (by omega)).1,(hpg s (by omega)).2,hr⟩,fun hn=>?_,fun hn=>?_⟩
      · have hps:P s=false:=notT hn
        have hn1:kpN P (s+1)=kpN P s+1:=by rw [kpN,hps];rfl
        refine ⟨by omega,wr _ (by omega) (by omega),wr _ (by omega) (by omega),s+1,by rw [hn1];rfl,rfl,fun i hi=>?_,by omega,by omega⟩
        rw [hn1]
        rcases Nat.lt_trichotomy i (kpN P s) with h3|h3|h3
        · have e:kpT zEn P t (s+1) i=kpT zEn P t s i:=by rw [kpT,bq (by omega:i≠kpN P s)];simp
          rw [bq (by omega:i≠kpN P s),blt_t h3,blt_t (by omega:i<kpN P s+1),e]
          exact ⟨⟨⟨rfl,rfl⟩,rfl⟩,rfl⟩
        · subst h3
          have e:kpT zEn P t (s+1) (kpN P s)=t s:=by rw [kpT,hps,Nat.beq_refl];rfl
          rw [Nat.beq_refl,blt_t (by omega:kpN P s<kpN P s+1),e]
          exact ⟨⟨⟨rfl,rfl⟩,rfl⟩,rfl⟩
        · rw [bq (by omega:i≠kpN P s),blt_f (by omega:kpN P s≤i),blt_f (by omega:kpN P s+1≤i)]
          exact ⟨⟨⟨rfl,rfl⟩,rfl⟩,rfl⟩
      · have hps:P s=true:=notF hn
        have hn1:kpN P (s+1)=kpN P s:=by rw [kpN,hps];rfl
        refine ⟨wr _ (by omega) (by omega),s+1,by rw [hn1],rfl,fun i hi=>?_,by omega,by omega⟩
        have e:kpT zEn P t (s+1) i=kpT zEn P t s i:=by rw [kpT,hps];rfl
        rw [hn1,e]
        exact ⟨⟨⟨rfl,rfl⟩,rfl⟩,rfl⟩
    · obtain rfl:s=n:=by have:=ge_of_dec h;omega
      have hks:=kpN_lt hk hs.1
      refine ⟨by omega,by omega,by omega,rfl,fun i hi=>?_⟩
      rcases Nat.lt_or_ge i (kpN P s) with h3|h3
      · rw [ble_f h3,blt_t h3]
        exact ⟨⟨⟨rfl,rfl⟩,rfl⟩,rfl⟩
      · rw [ble_t h3,blt_f h3,blt_t (by omega:i<kpN P s+(s -kpN P s))]
        exact ⟨⟨⟨rfl,rfl⟩,rfl⟩,rfl⟩
  · have hN:kpN P n=n:=kpN_pre fun j hj=>f1 j (by omega)
    have hi:idxB n P= -1:=by unfold idxB;rw [nblt,decide_eq_false (by omega)];rfl
    rw [hi,hN]
    refine ⟨fun _=>⟨rfl,fun i hi=>ent4 ?_⟩,fun h=>by simp at h⟩
    rw [nblt,decide_eq_true hi,kpT_pre (fun j hj=>f1 j (by omega)) hi];rfl
structure X_delS where
  (f:Int) (n:Nat) (t:Nat→Ent4)
def s_delS:Sy.Spec:=⟨X_delS,fun ⟨f,n,_⟩=> [.slc 0 0 none 0 n,.fn 214 1 (lsv [.pt true 1 (fun _=> .v (.int .i64 f))])],fun ⟨_,n,t⟩=> [.row 4 n (rF fun i=>enL (t i))],fun ⟨_,n,_⟩=>n≤100000,fun ⟨f,n,t⟩=> .slc 0 0 none 0 (kpN (fun i=>spB f (t i)) n),fun ⟨f,n,t⟩=> [.row 4 n (rF fun a=>enL (bif Nat.blt a (kpN (fun i=>spB f (t i)) n) then kpT zEn (fun i=>spB f (t i)) t n a else zEn))],
  fun args mem=>match args with| [a0,a1]=>(match isFn 214 a1 with|true=>some ⟨intD (ptF (fnF a1 0) 0),rowN mem 0,fun i=>enBD (fun j=>rowF mem 0 i j)⟩|false=>none)|_=>none⟩
def c_delS:Con:=⟨[true,false],(s_delS).g,none⟩
def V_delS:X_delS→Prop:=fun ⟨f,n,t⟩=>let a0:=n=n;let b0:=idxB n (fun c0:Nat=>spB f (t (0+c0)));let d0:=b0==(-1);let e0:=kpN (fun g0:Nat=>spB f (t g0)) n;let h0:=Ent4.mk 0 0 0 false;let k0:Int:=b0+1;let l0:=0=0∧a0;let o0:=fstB n (fun q0:Nat=>spB f (t q0));let r0:=o0+1;let u0:=kpN (fun v0:Nat=>spB f (t v0)) r0;let w0:=(n:Int);let x0:=false=false;let y0:=Int.toNat w0;(((a0∧(∀z0:Nat,z0<n→eEq (t (0+z0)) (t (0+z0))))∧tn 2 (f=f)∧True)∧True∧s_idxS2.match_1 (fun a1:X_idxS2=>Prop) (X_idxS2.mk n (fun b1:Nat=>t (0+b1)) f) (fun c1:Nat=>fun d1:∀e1:Nat,Ent4=>fun g1:Int=>c1≤100000))∧(d0=true→(0=0∧n=e0)∧(a0∧(∀h1:Nat,h1<n→eEq (t h1) (cond (Nat.blt h1 e0) (kpT h0 (fun k1:Nat=>spB f (t k1)) t n h1) h0)))∧True)∧(d0=false→w64 k0=k0∧l0∧b0=(u0:Int)∧k0=(r0:Int)∧((a0∧(∀l1:Nat,l1<n→eEq (t l1) (cond (Nat.blt l1 u0) (kpT h0 (fun o1:Nat=>spB f (t o1)) t r0 l1) (t l1))))∧True)∧(o0<r0∧r0≤n)∧(∀q1:Nat,let r1:=(q1:Int);let u1:=decide (r1<w0);let v1:=0+Int.toNat r1;let w1:=kpN (fun x1:Nat=>spB f (t x1)) q1;let y1:=cond (Nat.blt v1 w1) (kpT h0 (fun z1:Nat=>spB f (t z1)) t q1 v1) (t v1);let a2:=!spB f y1;let b2:=(w1:Int);let c2:=0≤b2;let d2:Int:=b2+1;let e2:Int:=r1+1;let g2:=w64 e2=e2;let h2:=Int.toNat b2;let k2:=0+h2;let l2:=b2≤w0;let o2:=k2+(y0-h2);o0<q1∧q1≤n→w0≤9223372036854775807→(u1=true→(0≤r1∧r1<w0)∧True∧tn 3 True∧((eEq y1 y1∧(True∧f=f)∧True)∧True∧True)∧(a2=true→(c2∧b2<w0)∧((∀q2:Nat,x0)∧(∀r2:Nat,x0)∧(∀u2:Nat,x0)∧(∀v2:Nat,x0))∧w64 d2=d2∧g2∧(∃w2:Nat,let x2:=kpN (fun y2:Nat=>spB f (t y2)) w2;l0∧d2=(x2:Int)∧e2=(w2:Int)∧((a0∧(∀z2:Nat,
    let a3:=Nat.beq z2 k2;let b3:=cond (Nat.blt z2 w1) (kpT h0 (fun c3:Nat=>spB f (t c3)) t q1 z2) (t z2);z2<n→eEq (Ent4.mk (cond a3 y1.sp b3.sp) (cond a3 y1.pg b3.pg) (cond a3 y1.fr b3.fr) (cond a3 y1.wr b3.wr)) (cond (Nat.blt z2 x2) (kpT h0 (fun d3:Nat=>spB f (t d3)) t w2 z2) (t z2))))∧True)∧(o0<w2∧w2≤n)∧n-w2<n-q1))∧(a2=false→g2∧(∃e3:Nat,let g3:=kpN (fun h3:Nat=>spB f (t h3)) e3;l0∧b2=(g3:Int)∧e2=(e3:Int)∧((a0∧(∀k3:Nat,k3<n→eEq (cond (Nat.blt k3 w1) (kpT h0 (fun l3:Nat=>spB f (t l3)) t q1 k3) (t k3)) (cond (Nat.blt k3 g3) (kpT h0 (fun o3:Nat=>spB f (t o3)) t e3 k3) (t k3))))∧True)∧(o0<e3∧e3≤n)∧n-e3<n-q1)))∧(u1=false→(c2∧l2∧w0≤w0)∧((∀q3:Nat,true=true)∧o2≤n)∧((0:Int)≤0∧c2∧l2)∧(0=0∧h2-Int.toNat 0=e0)∧(a0∧(∀r3:Nat,let u3:=Nat.ble k2 r3&&Nat.blt r3 o2;let v3:=cond (Nat.blt r3 w1) (kpT h0 (fun w3:Nat=>spB f (t w3)) t q1 r3) (t r3);r3<n→eEq (Ent4.mk (cond u3 0 v3.sp) (cond u3 0 v3.pg) (cond u3 0 v3.fr) (cond u3 false v3.wr)) (cond (Nat.blt r3 e0) (kpT h0 (fun x3:Nat=>spB f (t x3)) t n r3) h0)))∧True)))
set_option maxHeartbeats 1000000 in
theorem ok_delS:FnOK Tryz.prog glN 228 c_delS:=ok_of (.cons ok_idxS2 (.cons ok_fsC .nil)) false Tryz.call228 Tryz.func228 (fun ⟨f,n,t⟩=> [.inv (an_del n t fun i=>spB f (t i))]) (V:=V_delS) (fun _=>by kernel_rfl) fun ⟨f,n,t⟩ hp=>by
  dsimp only [s_delS] at hp
  dsimp only [V_delS,tn,w64,wEq,rEq,sEq,eEq]
  simp only [std,stb,eq_self,implies_true,Bool.cond_self]
  try simp only [wd_eta]
  refine ⟨hp,?_⟩
  simp only [show (Ent4.mk 0 0 0 false)=zEn from rfl]
  obtain ⟨P,hP⟩: ∃P:Nat→Bool,P=fun i=>spB f (t i):=⟨_,rfl⟩
  have hPs: ∀i,spB f (t i)=P i:=fun i=>by rw [hP]
  rw [←hP]
  obtain ⟨f1,f2⟩:=fst_sp P n
  have hle:=fstB_le P n
  have wr: ∀z:Int,-1≤z→z≤200000→IntKind.i64.wrap z=z:=fun z h1 h2=>by rw [IntKind.wrap_i64];omega
  rcases Nat.lt_or_ge (fstB n P) n with hm|hm
  · have hi:idxB n P=(fstB n P:Nat):=by unfold idxB;rw [nblt,decide_eq_true hm];rfl
    have hk:=f2 hm
    have hN:kpN P (fstB n P+1)=fstB n P:=by rw [kpN,hk,kpN_pre f1];rfl
    have hT: ∀a,a<fstB n P→kpT zEn P t (fstB n P+1) a=t a:=fun a ha=>by rw [kpT,hk];simpa using kpT_pre f1 ha
    rw [hi,hN]
    refine ⟨fun h=>by have:=eq_of_beq h;omega,fun _=>⟨wr _ (by omega) (by omega),rfl,by omega,fun i hi=>ent4 ?_,by omega,fun s hs _=>⟨fun h=>?_,fun h=>?_⟩⟩⟩
    · rcases Nat.lt_or_ge i (fstB n P) with h|h
      · rw [nblt,decide_eq_true h,hT i h];rfl
      · rw [nblt,decide_eq_false (by omega)];rfl
    · have hlt:=lt_of_dec h
      have hks:=kpN_lt hk hs.1
      have e1:Nat.blt s (kpN P s)=false:=by rw [nblt];exact decide_eq_false (by omega)
      rw [e1]
      simp only [cond_false,hPs]
      have bq: ∀{a b:Nat},a≠b→Nat.beq a b=false:=fun {a b} h=>by
        cases hb:Nat.beq a b with
        |false=>rfl
        |true=>exact absurd (Nat.eq_of_beq_eq_true hb) h
      refine ⟨by omega,fun hn=>?_,fun hn=>?_⟩
      · have hps:P s=false:=notT hn
        have hn1:kpN P (s+1)=kpN P s+1:=by rw [kpN,hps];rfl
        refine ⟨by omega,wr _ (by omega) (by omega),wr _ (by omega) (by omega),s+1,by rw [hn1];rfl,rfl,fun i hi=>?_,by omega,by omega⟩
        rw [hn1]
        rcases Nat.lt_trichotomy i (kpN P s) with h3|h3|h3
        · have e:kpT zEn P t (s+1) i=kpT zEn P t s i:=by rw [kpT,bq (by omega:i≠kpN P s)];simp
          rw [bq (by omega:i≠kpN P s),blt_t h3,blt_t (by omega:i<kpN P s+1),e]
          exact ⟨⟨⟨rfl,rfl⟩,rfl⟩,rfl⟩
        · subst h3
          have e:kpT zEn P t (s+1) (kpN P s)=t s:=by rw [kpT,hps,Nat.beq_refl];rfl
          rw [Nat.beq_refl,blt_t (by omega:kpN P s<kpN P s+1),e]
          exact ⟨⟨⟨rfl,rfl⟩,rfl⟩,rfl⟩
        · rw [bq (by omega:i≠kpN P s),blt_f (by omega:kpN P s≤i),blt_f (by omega:kpN P s+1≤i)]
          exact ⟨⟨⟨rfl,rfl⟩,rfl⟩,rfl⟩
      · have hps:P s=true:=notF hn
        have hn1:kpN P (s+1)=kpN P s:=by rw [kpN,hps];rfl
        refine ⟨wr _ (by omega) (by omega),s+1,by rw [hn1],rfl,fun i hi=>?_,by omega,by omega⟩
        have e:kpT zEn P t (s+1) i=kpT zEn P t s i:=by rw [kpT,hps];rfl
        rw [hn1,e]
        exact ⟨⟨⟨rfl,rfl⟩,rfl⟩,rfl⟩
    · obtain rfl:s=n:=by have:=ge_of_dec h;omega
      have hks:=kpN_lt hk hs.1
      refine ⟨by omega,by omega,by omega,rfl,fun i hi=>?_⟩
      rcases Nat.lt_or_ge i (kpN P s) with h3|h3
      · rw [ble_f h3,blt_t h3]
        exact ⟨⟨⟨rfl,rfl⟩,rfl⟩,rfl⟩
      · rw [ble_t h3,blt_f h3,blt_t (by omega:i<kpN P s+(s -kpN P s))]
        exact ⟨⟨⟨rfl,rfl⟩,rfl⟩,rfl⟩
  · have hN:kpN P n=n:=kpN_pre fun j hj=>f1 j (by omega)
    have hi:idxB n P= -1:=by unfold idxB;rw [nblt,decide_eq_false (by omega)];rfl
    rw [hi,hN]
    refine ⟨fun _=>⟨rfl,fun i hi=>ent4 ?_⟩,fun h=>by simp at h⟩
    rw [nblt,decide_eq_true hi,kpT_pre (fun j hj=>f1 j (by omega)) hi];rfl
end Go.Proofs.YtdjilaofmdhikaaGreatDoor
set_option linter.unusedVariables false
set_option linter.unusedSimpArgs false
set_option maxRecDepth 100000
namespace Go.Proofs.YtdjilaofmdhikaaGreatDoor
open Go.RowKit Go.Sy
def cpN (f:Nat→Nat) (i j:Nat):Nat:=bif Nat.blt j i then f j else 0
theorem cpN_lt {f:Nat→Nat} {i j:Nat} (h:j<i):cpN f i j=f j:=by unfold cpN;rw [blt_t h];rfl
theorem cpN_ge {f:Nat→Nat} {i j:Nat} (h:i≤j):cpN f i j=0:=by unfold cpN;rw [blt_f h];rfl
theorem cpN_step {f:Nat→Nat} {i j:Nat}:(bif j.beq i then f i else cpN f i j)=cpN f (i+1) j:=by
  rcases Nat.lt_trichotomy j i with h|h|h
  · rw [beq_ne (by omega),cpN_lt h,cpN_lt (by omega:j<i+1)];rfl
  · subst h;rw [Nat.beq_refl,cpN_lt (Nat.lt_succ_self _)];rfl
  · rw [beq_ne (by omega),cpN_ge (by omega),cpN_ge (by omega:i+1≤j)];rfl
theorem beq_at {α:Type} {f:Nat→α} {i j:Nat}:(bif j.beq i then f i else f j)=f j:=by
  rcases Decidable.em (j=i) with h|h
  · subst h;cases j.beq j<;>rfl
  · rw [beq_ne h];rfl
theorem ent4b {c:Bool} {f:Nat→Ent4} {i j:Nat} (h:c=j.beq i):(((bif c then (f i).sp else (f j).sp)=(f j).sp∧(bif c then (f i).pg else (f j).pg)=(f j).pg)∧(bif c then (f i).fr else (f j).fr)=(f j).fr)∧(bif c then (f i).wr else (f j).wr)=(f j).wr:=by
  subst h
  exact ⟨⟨⟨beq_at (f:=fun x=>(f x).sp),beq_at (f:=fun x=>(f x).pg)⟩,beq_at (f:=fun x=>(f x).fr)⟩,beq_at (f:=fun x=>(f x).wr)⟩
def an_cpA (a b:Nat) (n:Nat) (ln:Nat→Nat) (l:Nat→Nat→Int):Ann where
  σ:=Nat
  rt:= [(a,1)]
  sh i:= [(a,.slc 0 0 none 0 n),(b,.v (.int .i64 i))]
  mh i:= [(0,.row 1 n fun j _=> .il 1 (cpN ln i j) (iF (l j)))]
  inv i:=i≤n
  μ i:=n -i
  init:=0
def an_cpE (a b:Nat) (n:Nat) (ln:Nat→Nat) (l:Nat→Nat→Ent4):Ann where
  σ:=Nat
  rt:= [(a,1)]
  sh i:= [(a,.slc 0 0 none 0 n),(b,.v (.int .i64 i))]
  mh i:= [(0,.row 1 n fun j _=> .il 4 (cpN ln i j) (rF fun k=>enL (l j k)))]
  inv i:=i≤n
  μ i:=n -i
  init:=0
def an_cpW (W:Wd):Ann where
  σ:=Nat
  rt:= [(1,0),(2,0),(3,0)]
  sh i:= [(1,pt0 0),(2,pt0 1),(3,pt0 2),(4,.v (.int .i64 i))]
  mh i:= [(11,.row 1 W.nTlbs fun j _=> .il 4 (cpN W.tlbsN i j) (rF fun k=>enL (W.tlbs j k)))]
  inv i:=i≤W.nTlbs
  μ i:=W.nTlbs -i
  init:=0
structure Lg (W:Wd):Prop where
  ram:W.nRam≤1000
  kinds:W.nKinds≤1000
  slots:W.nSlots≤1000
  tasks:W.nTasks≤1000
  lines:W.nLines≤1000
  bits:W.nBits≤1000
  cores:W.nCores≤1000
  ready:W.nReady≤1000
  tlbs:W.nTlbs≤1000
  doms:W.nDoms≤1000
  linesN: ∀i,i<W.nLines→W.linesN i≤1000
  readyN: ∀i,i<W.nReady→W.readyN i≤1000
  tlbsN: ∀i,i<W.nTlbs→W.tlbsN i≤1000
structure X_cloneI where
  (n:Nat) (l:Nat→Int)
def s_cloneI:Sy.Spec:=⟨X_cloneI,fun ⟨n,l⟩=> [.sl true 1 n (fun i_ _=> .v (.int .i64 (l i_)))],fun _=> [],fun ⟨n,_⟩=>n≤100000,fun ⟨n,_⟩=> .slc 0 0 none 0 n,fun ⟨n,l⟩=> [.row 1 n (iF l)],
  fun args mem=>match args with| [a0]=>some ⟨slN a0,fun i=>intD (slF a0 i 0)⟩|_=>none⟩
def c_cloneI:Con:=⟨[],s_cloneI.g,none⟩
def V_cloneI:X_cloneI→Prop:=fun ⟨n,l⟩=> ∀a0:Bool,(a0=true→n=0)→(a0=true→(0=0∧0=n)∧(0=n∧(∀b0:Nat,b0<n→True∧SV.junk=SV.v (Value.int IntKind.i64 (l b0))))∧True)∧(a0=false→True∧(n*8≤140737488355328∧(∀c0:Nat,true=true))∧(0=0∧n=n)∧(n=n∧(∀d0:Nat,d0<n→True∧l d0=l d0))∧True)
theorem ok_cloneI:FnOK Tryz.prog glN 146 c_cloneI:=ok_of .nil false Tryz.call146 Tryz.func146 (fun _=> []) (V:=V_cloneI) (fun _=>by kernel_rfl) fun ⟨n,l⟩ hp=>by
  dsimp only [s_cloneI] at hp
  dsimp only [V_cloneI,tn,w64]
  simp only [std,eq_self,implies_true,Bool.cond_self]
  intro b hb
  refine ⟨fun h=>?_,fun _=>?_⟩
  · have:=hb h
    subst this
    exact ⟨rfl,rfl,fun i hi=>absurd hi (by omega)⟩
  · omega
structure X_cloneS where
  (n:Nat) (l:Nat→Slt)
def s_cloneS:Sy.Spec:=⟨X_cloneS,fun ⟨n,l⟩=> [.sl true 7 n (rF fun i=>slL (l i))],fun _=> [],fun ⟨n,_⟩=>n≤100000,fun ⟨n,_⟩=> .slc 0 0 none 0 n,fun ⟨n,l⟩=> [.row 7 n (rF fun i=>slL (l i))],
  fun args mem=>match args with| [a0]=>some ⟨slN a0,fun i=>slBD (fun j=>slF a0 i j)⟩|_=>none⟩
def c_cloneS:Con:=⟨[],s_cloneS.g,none⟩
def V_cloneS:X_cloneS→Prop:=fun ⟨n,l⟩=> ∀a0:Bool,(a0=true→n=0)→(a0=true→(0=0∧0=n)∧(0=n∧(∀b0:Nat,let c0:=l b0;b0<n→((((((True∧SV.junk=SV.v (Value.int IntKind.i64 c0.kind))∧SV.junk=SV.v (Value.int IntKind.i64 c0.base))∧SV.junk=SV.v (Value.int IntKind.i64 c0.len))∧SV.junk=SV.v (Value.int IntKind.i64 c0.mark))∧SV.junk=SV.v (Value.int IntKind.i64 c0.rights))∧SV.junk=SV.v (Value.int IntKind.i64 c0.badge))∧SV.junk=SV.v (Value.int IntKind.i64 c0.from_)))∧True)∧(a0=false→True∧(n*56≤140737488355328∧(∀d0:Nat,true=true))∧(0=0∧n=n)∧(n=n∧(∀e0:Nat,let g0:=l e0;e0<n→((((((True∧g0.kind=g0.kind)∧g0.base=g0.base)∧g0.len=g0.len)∧g0.mark=g0.mark)∧g0.rights=g0.rights)∧g0.badge=g0.badge)∧g0.from_=g0.from_))∧True)
theorem ok_cloneS:FnOK Tryz.prog glN 163 c_cloneS:=ok_of .nil false Tryz.call163 Tryz.func163 (fun _=> []) (V:=V_cloneS) (fun _=>by kernel_rfl) fun ⟨n,l⟩ hp=>by
  dsimp only [s_cloneS] at hp
  dsimp only [V_cloneS,tn,w64]
  simp only [std,eq_self,implies_true,Bool.cond_self]
  intro b hb
  refine ⟨fun h=>?_,fun _=>?_⟩
  · have:=hb h
    subst this
    exact ⟨rfl,rfl,fun i hi=>absurd hi (by omega)⟩
  · omega
structure X_cloneR where
  (n:Nat) (l:Nat→Run)
def s_cloneR:Sy.Spec:=⟨X_cloneR,fun ⟨n,l⟩=> [.sl true 20 n (rF fun i=>runL (l i))],fun _=> [],fun ⟨n,_⟩=>n≤100000,fun ⟨n,_⟩=> .slc 0 0 none 0 n,fun ⟨n,l⟩=> [.row 20 n (rF fun i=>runL (l i))],
  fun args mem=>match args with| [a0]=>some ⟨slN a0,fun i=>runBD (fun j=>slF a0 i j)⟩|_=>none⟩
def c_cloneR:Con:=⟨[],s_cloneR.g,none⟩
def V_cloneR:X_cloneR→Prop:=fun ⟨n,l⟩=> ∀a0:Bool,(a0=true→n=0)→(a0=true→(0=0∧0=n)∧(0=n∧(∀b0:Nat,let c0:=l b0;b0<n→(((((((((((((((((((True∧SV.junk=SV.v (Value.int IntKind.i64 c0.r0))∧SV.junk=SV.v (Value.int IntKind.i64 c0.r1))∧SV.junk=SV.v (Value.int IntKind.i64 c0.r2))∧SV.junk=SV.v (Value.int IntKind.i64 c0.r3))∧SV.junk=SV.v (Value.int IntKind.i64 c0.r4))∧SV.junk=SV.v (Value.int IntKind.i64 c0.r5))∧SV.junk=SV.v (Value.int IntKind.i64 c0.r6))∧SV.junk=SV.v (Value.int IntKind.i64 c0.r7))∧SV.junk=SV.v (Value.int IntKind.i64 c0.pc))∧SV.junk=SV.v (Value.int IntKind.i64 c0.st))∧SV.junk=SV.v (Value.int IntKind.i64 c0.prio))∧SV.junk=SV.v (Value.int IntKind.i64 c0.node))∧SV.junk=SV.v (Value.int IntKind.i64 c0.space))∧SV.junk=SV.v (Value.int IntKind.i64 c0.helper))∧SV.junk=SV.v (Value.int IntKind.i64 c0.loc))∧SV.junk=SV.v (Value.int IntKind.i64 c0.word))∧SV.junk=SV.v (Value.int IntKind.i64 c0.badge))∧SV.junk=SV.v (Value.int IntKind.i64 c0.owes))∧SV.junk=SV.v (Value.int IntKind.i64 c0.core))∧SV.junk=SV.v (Value.int IntKind.i64 c0.dom)))∧True)∧(a0=false→True∧(n*160≤140737488355328∧(∀d0:Nat,true=true))∧(0=0∧n=n)∧(n=n∧(∀e0:Nat,let g0:=l e0;e0<n→(((((((((((((((((((True∧g0.r0=g0.r0)∧g0.r1=g0.r1)∧g0.r2=g0.r2)∧g0.r3=g0.r3)∧g0.r4=g0.r4)∧g0.r5=g0.r5)∧g0.r6=g0.r6)∧g0.r7=g0.r7)∧g0.pc=g0.pc)∧g0.st=g0.st)∧g0.prio=g0.prio)∧g0.node=g0.node)∧g0.space=g0.space)∧g0.helper=g0.helper)∧g0.loc=g0.loc)∧g0.word=g0.word)∧g0.badge=g0.badge)∧g0.owes=g0.owes)∧g0.core=g0.core)∧g0.dom=g0.dom))∧True)
theorem ok_cloneR:FnOK Tryz.prog glN 164 c_cloneR:=ok_of .nil false Tryz.call164 Tryz.func164 (fun _=> []) (V:=V_cloneR) (fun _=>by kernel_rfl) fun ⟨n,l⟩ hp=>by
  dsimp only [s_cloneR] at hp
  dsimp only [V_cloneR,tn,w64]
  simp only [std,eq_self,implies_true,Bool.cond_self]
  intro b hb
  refine ⟨fun h=>?_,fun _=>?_⟩
  · have:=hb h
    subst this
    exact ⟨rfl,rfl,fun i hi=>absurd hi (by omega)⟩
  · omega
structure X_deepI where
  (n:Nat) (ln:Nat→Nat) (l:Nat→Nat→Int)
def s_deepI:Sy.Spec:=⟨X_deepI,fun ⟨n,ln,l⟩=> [.sl true 1 n (fun i _=> .sl true 1 (ln i) (iF (l i)))],fun _=> [],fun ⟨n,ln,_⟩=>n≤1000∧ ∀i,i<n→ln i≤1000,fun ⟨n,_,_⟩=> .slc 0 0 none 0 n,fun ⟨n,ln,l⟩=> [.row 1 n fun i _=> .il 1 (ln i) (iF (l i))],
  fun args mem=>match args with| [a0]=>some ⟨slN a0,fun i=>slN (slF a0 i 0),fun i k=>intD (slF (slF a0 i 0) k 0)⟩|_=>none⟩
def c_deepI:Con:=⟨[],s_deepI.g,none⟩
def V_deepI:X_deepI→Prop:=fun ⟨n,ln,l⟩=>let a0:=(n:Int);let b0:=Int.toNat a0=n;let c0:=0=0∧n=n;a0≤9223372036854775807→(0≤a0∧a0≤a0∧((24:Nat):Int)*a0≤140737488355328)∧(a0≤9223372036854775807→(0=0∧b0)∧0=((0:Nat):Int)∧((b0∧(∀d0:Nat,d0<n→True∧0=cpN ln 0 d0∧(∀e0:Nat,e0<cpN ln 0 d0→True∧SV.junk=SV.v (Value.int IntKind.i64 (l d0 e0)))))∧True)∧0≤n∧(∀g0:Nat,let h0:=(g0:Int);let k0:=decide (h0<a0);let l0:=0≤h0∧h0<a0;let o0:=Int.toNat h0;let q0:=ln o0;let r0:Int:=h0+1;let u0:=0+o0;g0≤n→(k0=true→l0∧(((q0=q0∧(∀v0:Nat,v0<q0→True∧l o0 v0=l o0 v0))∧True)∧True∧s_cloneI.match_1 (fun w0:X_cloneI=>Prop) (X_cloneI.mk q0 (l o0)) (fun x0:Nat=>fun y0:∀z0:Nat,Int=>x0≤100000))∧l0∧(∀a1:Nat,Nat.beq 1 1=true)∧w64 r0=r0∧(∃b1:Nat,c0∧r0=(b1:Int)∧((n=n∧(∀c1:Nat,c1<n→True∧cond (Nat.beq c1 u0) q0 (cpN ln g0 c1)=cpN ln b1 c1∧(∀d1:Nat,d1<cpN ln b1 c1→True∧cond (Nat.beq c1 u0) (l o0 d1) (l c1 d1)=l c1 d1)))∧True)∧b1≤n∧n-b1<n-g0))∧(k0=false→c0∧(n=n∧(∀e1:Nat,e1<n→True∧cpN ln g0 e1=ln e1∧(∀g1:Nat,g1<ln e1→True∧l e1 g1=l e1 g1)))∧True)))
theorem ok_deepI:FnOK Tryz.prog glN 165 c_deepI:=ok_of (.cons ok_cloneI .nil) false Tryz.call165 Tryz.func165 (fun ⟨n,ln,l⟩=> [.inv (an_cpA 3 11 n ln l)]) (V:=V_deepI) (fun _=>by kernel_rfl) fun ⟨n,ln,l⟩ hp=>by
  dsimp only [s_deepI] at hp
  dsimp only [V_deepI,tn,w64]
  simp only [std,stb,eq_self,implies_true,Bool.cond_self]
  refine fun _=>⟨by omega,fun _=>⟨fun j hj=>⟨(cpN_ge (Nat.zero_le _)).symm,fun k hk=>by rw [cpN_ge (Nat.zero_le _)] at hk;exact absurd hk (Nat.not_lt_zero _)⟩,fun s hs=>⟨fun h=>?_,fun h=>?_⟩⟩⟩
  · have hlt:=lt_of_dec h
    have:=hp.2 s hlt
    exact ⟨by omega,by omega,by omega,fun _=>rfl,wr_in (by omega) (by omega),s+1,by omega,fun j hj=>⟨cpN_step,fun k hk=>beq_at (f:=fun x=>l x k)⟩,by omega,by omega⟩
  · have hge:=ge_of_dec h
    exact fun j hj=>cpN_lt (by omega)
structure X_deepE where
  (n:Nat) (ln:Nat→Nat) (l:Nat→Nat→Ent4)
def s_deepE:Sy.Spec:=⟨X_deepE,fun ⟨n,ln,l⟩=> [.sl true 1 n (fun i _=> .sl true 4 (ln i) (rF fun k=>enL (l i k)))],fun _=> [],fun ⟨n,ln,_⟩=>n≤1000∧ ∀i,i<n→ln i≤1000,fun ⟨n,_,_⟩=> .slc 0 0 none 0 n,fun ⟨n,ln,l⟩=> [.row 1 n fun i _=> .il 4 (ln i) (rF fun k=>enL (l i k))],
  fun args mem=>match args with| [a0]=>some ⟨slN a0,fun i=>slN (slF a0 i 0),fun i k=>enBD (fun j=>slF (slF a0 i 0) k j)⟩|_=>none⟩
def c_deepE:Con:=⟨[],s_deepE.g,none⟩
def V_deepE:X_deepE→Prop:=fun ⟨n,ln,l⟩=>let a0:=(n:Int);let b0:=Int.toNat a0=n;let c0:=0=0∧n=n;a0≤9223372036854775807→(0≤a0∧a0≤a0∧((24:Nat):Int)*a0≤140737488355328)∧(a0≤9223372036854775807→(0=0∧b0)∧0=((0:Nat):Int)∧((b0∧(∀d0:Nat,d0<n→True∧0=cpN ln 0 d0∧(∀e0:Nat,let g0:=l d0 e0;e0<cpN ln 0 d0→(((True∧SV.junk=SV.v (Value.int IntKind.i64 g0.sp))∧SV.junk=SV.v (Value.int IntKind.i64 g0.pg))∧SV.junk=SV.v (Value.int IntKind.i64 g0.fr))∧SV.junk=SV.v (Value.bool g0.wr))))∧True)∧0≤n∧(∀h0:Nat,let k0:=(h0:Int);let l0:=decide (k0<a0);let o0:=0≤k0∧k0<a0;let q0:=Int.toNat k0;let r0:=ln q0;let u0:Int:=k0+1;let v0:=0+q0;h0≤n→(l0=true→o0∧(((r0=r0∧(∀w0:Nat,let x0:=l q0 w0;w0<r0→(((True∧x0.sp=x0.sp)∧x0.pg=x0.pg)∧x0.fr=x0.fr)∧x0.wr=x0.wr))∧True)∧True∧s_cloneE.match_1 (fun y0:X_cloneE=>Prop) (X_cloneE.mk r0 (l q0)) (fun z0:Nat=>fun a1:∀b1:Nat,Ent4=>z0≤100000))∧o0∧(∀c1:Nat,Nat.beq 4 4=true)∧w64 u0=u0∧(∃d1:Nat,c0∧u0=(d1:Int)∧((n=n∧(∀e1:Nat,let g1:=Nat.beq e1 v0;e1<n→True∧cond g1 r0 (cpN ln h0 e1)=cpN ln d1 e1∧(∀h1:Nat,let k1:=l q0 h1;let l1:=l e1 h1;h1<cpN ln d1 e1→(((True∧cond g1 k1.sp l1.sp=l1.sp)∧cond g1 k1.pg l1.pg=l1.pg)∧cond g1 k1.fr l1.fr=l1.fr)∧cond g1 k1.wr l1.wr=l1.wr)))∧True)∧d1≤n∧n-d1<n-h0))∧(l0=false→c0∧(n=n∧(∀o1:Nat,o1<n→True∧cpN ln h0 o1=ln o1∧(∀q1:Nat,let r1:=l o1 q1;q1<ln o1→(((True∧r1.sp=r1.sp)∧r1.pg=r1.pg)∧r1.fr=r1.fr)∧r1.wr=r1.wr)))∧True)))
theorem ok_deepE:FnOK Tryz.prog glN 166 c_deepE:=ok_of (.cons ok_cloneE .nil) false Tryz.call166 Tryz.func166 (fun ⟨n,ln,l⟩=> [.inv (an_cpE 3 11 n ln l)]) (V:=V_deepE) (fun _=>by kernel_rfl) fun ⟨n,ln,l⟩ hp=>by
  dsimp only [s_deepE] at hp
  dsimp only [V_deepE,tn,w64]
  simp only [std,stb,eq_self,implies_true,Bool.cond_self]
  refine fun _=>⟨by omega,fun _=>⟨fun j hj=>⟨(cpN_ge (Nat.zero_le _)).symm,fun k hk=>by rw [cpN_ge (Nat.zero_le _)] at hk;exact absurd hk (Nat.not_lt_zero _)⟩,fun s hs=>⟨fun h=>?_,fun h=>?_⟩⟩⟩
  · have hlt:=lt_of_dec h
    have:=hp.2 s hlt
    exact ⟨by omega,by omega,by omega,fun _=>rfl,wr_in (by omega) (by omega),s+1,by omega,fun j hj=>⟨cpN_step,fun k hk=>ent4b (f:=fun x=>l x k) rfl⟩,by omega,by omega⟩
  · have hge:=ge_of_dec h
    exact fun j hj=>cpN_lt (by omega)
structure X_copyAll where
  (n:Nat) (ln:Nat→Nat) (l:Nat→Nat→Int)
def s_copyAll:Sy.Spec:=⟨X_copyAll,fun ⟨n,ln,l⟩=> [.sl true 1 n (fun i _=> .sl true 1 (ln i) (iF (l i)))],fun _=> [],fun ⟨n,ln,_⟩=>n≤1000∧ ∀i,i<n→ln i≤1000,fun ⟨n,_,_⟩=> .slc 0 0 none 0 n,fun ⟨n,ln,l⟩=> [.row 1 n fun i _=> .il 1 (ln i) (iF (l i))],
  fun args mem=>match args with| [a0]=>some ⟨slN a0,fun i=>slN (slF a0 i 0),fun i k=>intD (slF (slF a0 i 0) k 0)⟩|_=>none⟩
def c_copyAll:Con:=⟨[],s_copyAll.g,none⟩
def V_copyAll:X_copyAll→Prop:=fun ⟨n,ln,l⟩=>let a0:=(n:Int);let b0:=Int.toNat a0=n;let c0:=0=0∧n=n;a0≤9223372036854775807→(0≤a0∧a0≤a0∧((24:Nat):Int)*a0≤140737488355328)∧(0=0∧b0)∧0=((0:Nat):Int)∧((b0∧(∀d0:Nat,d0<n→True∧0=cpN ln 0 d0∧(∀e0:Nat,e0<cpN ln 0 d0→True∧SV.junk=SV.v (Value.int IntKind.i64 (l d0 e0)))))∧True)∧0≤n∧(∀g0:Nat,let h0:=(g0:Int);let k0:=decide (h0<a0);let l0:=0≤h0∧h0<a0;let o0:=Int.toNat h0;let q0:=ln o0;let r0:Int:=h0+1;let u0:=0+o0;g0≤n→a0≤9223372036854775807→(k0=true→True∧l0∧(q0*8≤140737488355328∧(∀v0:Nat,true=true))∧l0∧(∀w0:Nat,Nat.beq 1 1=true)∧w64 r0=r0∧(∃x0:Nat,c0∧r0=(x0:Int)∧((n=n∧(∀y0:Nat,y0<n→True∧cond (Nat.beq y0 u0) q0 (cpN ln g0 y0)=cpN ln x0 y0∧(∀z0:Nat,z0<cpN ln x0 y0→True∧cond (Nat.beq y0 u0) (l o0 z0) (l y0 z0)=l y0 z0)))∧True)∧x0≤n∧n-x0<n-g0))∧(k0=false→c0∧(n=n∧(∀a1:Nat,a1<n→True∧cpN ln g0 a1=ln a1∧(∀b1:Nat,b1<ln a1→True∧l a1 b1=l a1 b1)))∧True))
theorem ok_copyAll:FnOK Tryz.prog glN 130 c_copyAll:=ok_of .nil false Tryz.call130 Tryz.func130 (fun ⟨n,ln,l⟩=> [.inv (an_cpA 3 4 n ln l)]) (V:=V_copyAll) (fun _=>by kernel_rfl) fun ⟨n,ln,l⟩ hp=>by
  dsimp only [s_copyAll] at hp
  dsimp only [V_copyAll,tn,w64]
  simp only [std,stb,eq_self,implies_true,Bool.cond_self]
  refine fun _=>⟨by omega,⟨fun j hj=>⟨(cpN_ge (Nat.zero_le _)).symm,fun k hk=>by rw [cpN_ge (Nat.zero_le _)] at hk;exact absurd hk (Nat.not_lt_zero _)⟩,fun s hs _=>⟨fun h=>?_,fun h=>?_⟩⟩⟩
  · have hlt:=lt_of_dec h
    have:=hp.2 s hlt
    exact ⟨by omega,by omega,by omega,fun _=>rfl,wr_in (by omega) (by omega),s+1,by omega,fun j hj=>⟨cpN_step,fun k hk=>beq_at (f:=fun x=>l x k)⟩,by omega,by omega⟩
  · have hge:=ge_of_dec h
    exact fun j hj=>cpN_lt (by omega)
structure X_copyW where
  (W:Wd)
def s_copyW:Sy.Spec:=⟨X_copyW,fun ⟨W⟩=> [wSV W],fun _=> [],fun ⟨W⟩=>Lg W,fun ⟨W⟩=>wAG 0 W,fun ⟨W⟩=>wRows W,
  fun args mem=>match args with| [a0]=>some ⟨wSVD a0⟩|_=>none⟩
def c_copyW:Con:=⟨[],s_copyW.g,none⟩
def V_copyW:X_copyW→Prop:=fun ⟨W⟩=>let a0:=tn 10 True;let b0:=W.nRam;let c0:=true=true;let d0:=W.nKinds;let e0:=W.nSlots;let g0:=W.nTasks;let h0:=W.nLines;let k0:=h0=h0;let l0:=k0∧(∀o0:Nat,let q0:=W.linesN o0;o0<h0→True∧q0=q0∧(∀u0:Nat,u0<q0→True∧W.lines o0 u0=W.lines o0 u0));let v0:=W.nBits;let w0:=W.nCores;let x0:=W.nReady;let y0:=x0=x0;let z0:=y0∧(∀a1:Nat,let b1:=W.readyN a1;a1<x0→True∧b1=b1∧(∀c1:Nat,c1<b1→True∧W.ready a1 c1=W.ready a1 c1));let d1:=W.nTlbs;let e1:=(d1:Int);let g1:=e1≤9223372036854775807;let h1:=SV.ptr 0 0 none 0 0=SV.ptr 0 0 none 0 0;let k1:=SV.ptr (0+1) 0 none 0 0=SV.ptr 1 0 none 0 0;let l1:=SV.ptr (0+1+1) 0 none 0 0=SV.ptr 2 0 none 0 0;let o1:=b0=b0;let q1:=o1∧(∀u1:Nat,u1<b0→True∧W.ram u1=W.ram u1);let v1:=d0=d0;let w1:=v1∧(∀x1:Nat,x1<d0→True∧W.kinds x1=W.kinds x1);let y1:=e0=e0;let z1:=y1∧(∀a2:Nat,let b2:=W.slots a2;let c2:=b2.kind;let d2:=b2.base;let e2:=b2.len;let g2:=b2.mark;let h2:=b2.rights;let k2:=b2.badge;let l2:=b2.from_;a2<e0→((((((True∧c2=c2)∧d2=d2)∧e2=e2)∧g2=g2)∧h2=h2)∧k2=k2)∧l2=l2);let o2:=g0=g0;let q2:=o2∧(∀u2:Nat,let v2:=W.tasks u2;let w2:=v2.prio;let x2:=v2.node;let y2:=v2.space;let z2:=v2.helper;let a3:=v2.loc;let b3:=v2.word;let c3:=v2.badge;let d3:=v2.owes;let e3:=v2.core;let g3:=v2.dom;u2<g0→(((((((((((((((((((True∧v2.r0=v2.r0)∧v2.r1=v2.r1)∧v2.r2=v2.r2)∧v2.r3=v2.r3)∧v2.r4=v2.r4)∧v2.r5=v2.r5)∧v2.r6=v2.r6)∧v2.r7=v2.r7)∧v2.pc=v2.pc)∧v2.st=v2.st)∧w2=w2)∧x2=x2)∧y2=y2)∧z2=z2)∧a3=a3)∧b3=b3)∧c3=c3)∧d3=d3)∧e3=e3)∧g3=g3);let h3:=v0=v0;
    let k3:=h3∧(∀l3:Nat,l3<v0→True∧W.bits l3=W.bits l3);let o3:=w0=w0;let q3:=o3∧(∀u3:Nat,u3<w0→True∧W.cores u3=W.cores u3);let v3:=d1=d1;let w3:=W.nDoms;let x3:=w3=w3;let y3:=x3∧(∀z3:Nat,z3<w3→True∧W.doms z3=W.doms z3);let a4:=W.time=W.time;let b4:=((((((((((True∧q1)∧w1)∧z1)∧q2)∧l0)∧k3)∧q3)∧z0)∧v3∧(∀c4:Nat,let d4:=W.tlbsN c4;c4<d1→True∧d4=d4∧(∀e4:Nat,let g4:=W.tlbs c4 e4;let h4:=g4.sp;let k4:=g4.pg;let l4:=g4.fr;let o4:=g4.wr;e4<d4→(((True∧h4=h4)∧k4=k4)∧l4=l4)∧o4=o4)))∧y3)∧a4;let q4:=Value.slice none 0 0=Value.slice none 0 0;let u4:=((((((((((True∧q4)∧q4)∧q4)∧q4)∧q4)∧q4)∧q4)∧q4)∧q4)∧q4)∧(0:Int)=0;let v4:=0=0;let w4:=Int.toNat e1;let x4:=((((((((((True∧v4∧o1)∧v4∧v1)∧v4∧y1)∧v4∧o2)∧v4∧k0)∧v4∧h3)∧v4∧o3)∧v4∧y0)∧v4∧w4=w4)∧y3)∧a4;let y4:=w4=d1;let z4:=W.tlbsN;let a5:=0=0;tn 3 (a0∧True∧(b0*8≤140737488355328∧(∀b5:Nat,c0))∧tn 2 ((d0*8≤140737488355328∧(∀c5:Nat,c0))∧tn 2 ((e0*56≤140737488355328∧(∀d5:Nat,c0))∧tn 2 ((g0*160≤140737488355328∧(∀e5:Nat,c0))∧True∧((l0∧True)∧True∧h0≤1000∧(∀g5:Nat,g5<h0→W.linesN g5≤1000))∧tn 2 ((v0*8≤140737488355328∧(∀h5:Nat,c0))∧tn 2 ((w0*8≤140737488355328∧(∀k5:Nat,c0))∧True∧((z0∧True)∧True∧x0≤1000∧(∀l5:Nat,l5<x0→W.readyN l5≤1000))∧True∧(g1→(0≤e1∧e1≤e1∧((24:Nat):Int)*e1≤140737488355328)∧True∧h1∧k1∧l1∧0=((0:Nat):Int)∧(b4∧u4∧x4∧q1∧w1∧z1∧q2∧l0∧k3∧q3∧z0∧(y4∧(∀o5:Nat,o5<d1→True∧0=cpN z4 0 o5∧(∀q5:Nat,let u5:=W.tlbs o5 q5;q5<cpN z4 0 o5→(((True∧SV.junk=SV.v (Value.int IntKind.i64 u5.sp))∧SV.junk=SV.v (Value.int IntKind.i64 u5.pg))∧
    SV.junk=SV.v (Value.int IntKind.i64 u5.fr))∧SV.junk=SV.v (Value.bool u5.wr))))∧True)∧0≤d1∧(∀v5:Nat,let w5:=(v5:Int);let x5:=decide (w5<e1);let y5:=Int.toNat w5;let z5:=z4 y5;let a6:Int:=w5+1;let b6:=0+y5;v5≤d1→g1→(x5=true→tn 7 ((0≤w5∧w5<e1)∧True∧(z5*32≤140737488355328∧(∀c6:Nat,c0))∧(0≤w5∧w5<(w4:Int))∧(∀d6:Nat,Nat.beq 4 4=true)∧w64 a6=a6∧(∃e6:Nat,h1∧k1∧l1∧a6=(e6:Int)∧(b4∧u4∧x4∧q1∧w1∧z1∧q2∧l0∧k3∧q3∧z0∧(v3∧(∀g6:Nat,let h6:=Nat.beq g6 b6;g6<d1→True∧cond h6 z5 (cpN z4 v5 g6)=cpN z4 e6 g6∧(∀k6:Nat,let l6:=W.tlbs y5 k6;let o6:=W.tlbs g6 k6;let q6:=o6.sp;let u6:=o6.pg;let v6:=o6.fr;let w6:=o6.wr;k6<cpN z4 e6 g6→(((True∧cond h6 l6.sp q6=q6)∧cond h6 l6.pg u6=u6)∧cond h6 l6.fr v6=v6)∧cond h6 l6.wr w6=w6)))∧True)∧e6≤d1∧d1-e6<d1-v5)))∧(x5=false→True∧(w3*8≤140737488355328∧(∀x6:Nat,c0))∧True∧a0∧(((((((((((True∧a5∧o1)∧a5∧v1)∧a5∧y1)∧a5∧o2)∧a5∧k0)∧a5∧h3)∧a5∧o3)∧a5∧y0)∧a5∧y4)∧a5∧x3)∧a4)∧q1∧w1∧z1∧q2∧l0∧k3∧q3∧z0∧(v3∧(∀y6:Nat,y6<d1→True∧cpN z4 v5 y6=z4 y6∧(∀z6:Nat,let a7:=W.tlbs y6 z6;let b7:=a7.sp;let c7:=a7.pg;let d7:=a7.fr;let e7:=a7.wr;z6<z4 y6→(((True∧b7=b7)∧c7=c7)∧d7=d7)∧e7=e7)))∧y3∧True)))))))))
set_option maxHeartbeats 1000000 in
theorem ok_copyW:FnOK Tryz.prog glN 69 c_copyW:=ok_of (.cons ok_copyAll .nil) false Tryz.call69 Tryz.func69 (fun ⟨W⟩=> [.inv (an_cpW W)]) (V:=V_copyW) (fun _=>by kernel_rfl) fun ⟨W⟩ hp=>by
  dsimp only [s_copyW] at hp
  dsimp only [V_copyW,tn,w64]
  simp only [std,stb,eq_self,implies_true,Bool.cond_self]
  obtain ⟨h1,h2,h3,h4,h5,h6,h7,h8,h9,h10,h11,h12,h13⟩:=hp
  refine ⟨by omega,by omega,by omega,by omega,⟨h5,h11⟩,by omega,by omega,⟨h8,h12⟩,fun _=>⟨by omega,fun j hj=>⟨(cpN_ge (Nat.zero_le _)).symm,fun k hk=>by rw [cpN_ge (Nat.zero_le _)] at hk;exact absurd hk (Nat.not_lt_zero _)⟩,fun s hs _=>⟨fun h=>?_,fun h=>?_⟩⟩⟩
  · have hlt:=lt_of_dec h
    have:=h13 s hlt
    exact ⟨by omega,by omega,by omega,fun _=>rfl,wr_in (by omega) (by omega),s+1,by omega,fun j hj=>⟨cpN_step,fun k hk=>ent4b (f:=fun x=>W.tlbs x k) rfl⟩,by omega,by omega⟩
  · have hge:=ge_of_dec h
    exact ⟨by omega,fun j hj=>cpN_lt (by omega)⟩
structure X_cloneW where
  (W:Wd)
def s_cloneW:Sy.Spec:=⟨X_cloneW,fun ⟨W⟩=> [wSV W],fun _=> [],fun ⟨W⟩=>Lg W,fun ⟨W⟩=>wAG 0 W,fun ⟨W⟩=>wRows W,
  fun args mem=>match args with| [a0]=>some ⟨wSVD a0⟩|_=>none⟩
def c_cloneW:Con:=⟨[],s_cloneW.g,none⟩
def V_cloneW:X_cloneW→Prop:=fun ⟨W⟩=>let a0:=W.nRam;let b0:=a0=a0;let c0:=b0∧(∀d0:Nat,d0<a0→True∧W.ram d0=W.ram d0);let e0:=W.nKinds;let g0:=e0=e0;let h0:=g0∧(∀k0:Nat,k0<e0→True∧W.kinds k0=W.kinds k0);let l0:=W.nSlots;let o0:=l0=l0;let q0:=o0∧(∀u0:Nat,let v0:=W.slots u0;let w0:=v0.kind;let x0:=v0.base;let y0:=v0.len;let z0:=v0.mark;let a1:=v0.rights;let b1:=v0.badge;let c1:=v0.from_;u0<l0→((((((True∧w0=w0)∧x0=x0)∧y0=y0)∧z0=z0)∧a1=a1)∧b1=b1)∧c1=c1);let d1:=W.nTasks;let e1:=d1=d1;let g1:=e1∧(∀h1:Nat,let k1:=W.tasks h1;let l1:=k1.prio;let o1:=k1.node;let q1:=k1.space;let u1:=k1.helper;let v1:=k1.loc;let w1:=k1.word;let x1:=k1.badge;let y1:=k1.owes;let z1:=k1.core;let a2:=k1.dom;h1<d1→(((((((((((((((((((True∧k1.r0=k1.r0)∧k1.r1=k1.r1)∧k1.r2=k1.r2)∧k1.r3=k1.r3)∧k1.r4=k1.r4)∧k1.r5=k1.r5)∧k1.r6=k1.r6)∧k1.r7=k1.r7)∧k1.pc=k1.pc)∧k1.st=k1.st)∧l1=l1)∧o1=o1)∧q1=q1)∧u1=u1)∧v1=v1)∧w1=w1)∧x1=x1)∧y1=y1)∧z1=z1)∧a2=a2);let b2:=W.nBits;let c2:=b2=b2;let d2:=c2∧(∀e2:Nat,e2<b2→True∧W.bits e2=W.bits e2);let g2:=W.nCores;let h2:=g2=g2;let k2:=h2∧(∀l2:Nat,l2<g2→True∧W.cores l2=W.cores l2);let o2:=W.nDoms;let q2:=o2=o2;let u2:=(q2∧(∀v2:Nat,v2<o2→True∧W.doms v2=W.doms v2))∧True;let w2:=W.nLines;let x2:=w2=w2;let y2:=x2∧(∀z2:Nat,let a3:=W.linesN z2;z2<w2→True∧a3=a3∧(∀b3:Nat,b3<a3→True∧W.lines z2 b3=W.lines z2 b3));let c3:=W.nReady;let d3:=c3=c3;let e3:=d3∧(∀g3:Nat,let h3:=W.readyN g3;g3<c3→True∧h3=h3∧(∀k3:Nat,k3<h3→True∧W.ready g3 k3=W.ready g3 k3));let l3:=W.nTlbs;let o3:=l3=l3;
    let q3:=o3∧(∀u3:Nat,let v3:=W.tlbsN u3;u3<l3→True∧v3=v3∧(∀w3:Nat,let x3:=W.tlbs u3 w3;let y3:=x3.sp;let z3:=x3.pg;let a4:=x3.fr;let b4:=x3.wr;w3<v3→(((True∧y3=y3)∧z3=z3)∧a4=a4)∧b4=b4));let c4:=0=0;tn 4 (((c0∧True)∧True∧s_cloneI.match_1 (fun d4:X_cloneI=>Prop) (X_cloneI.mk a0 W.ram) (fun e4:Nat=>fun g4:∀h4:Nat,Int=>e4≤100000))∧tn 2 (((h0∧True)∧True∧s_cloneI.match_1 (fun k4:X_cloneI=>Prop) (X_cloneI.mk e0 W.kinds) (fun l4:Nat=>fun o4:∀q4:Nat,Int=>l4≤100000))∧tn 2 (((q0∧True)∧True∧s_cloneS.match_1 (fun u4:X_cloneS=>Prop) (X_cloneS.mk l0 W.slots) (fun v4:Nat=>fun w4:∀x4:Nat,Slt=>v4≤100000))∧tn 3 (((g1∧True)∧True∧s_cloneR.match_1 (fun y4:X_cloneR=>Prop) (X_cloneR.mk d1 W.tasks) (fun z4:Nat=>fun a5:∀b5:Nat,Run=>z4≤100000))∧tn 6 (((d2∧True)∧True∧s_cloneI.match_1 (fun c5:X_cloneI=>Prop) (X_cloneI.mk b2 W.bits) (fun d5:Nat=>fun e5:∀g5:Nat,Int=>d5≤100000))∧tn 2 (((k2∧True)∧True∧s_cloneI.match_1 (fun h5:X_cloneI=>Prop) (X_cloneI.mk g2 W.cores) (fun k5:Nat=>fun l5:∀o5:Nat,Int=>k5≤100000))∧tn 3 ((u2∧True∧s_cloneI.match_1 (fun q5:X_cloneI=>Prop) (X_cloneI.mk o2 W.doms) (fun u5:Nat=>fun v5:∀w5:Nat,Int=>u5≤100000))∧tn 5 (((y2∧True)∧True∧w2≤1000∧(∀x5:Nat,x5<w2→W.linesN x5≤1000))∧tn 3 (((e3∧True)∧True∧c3≤1000∧(∀y5:Nat,y5<c3→W.readyN y5≤1000))∧tn 2 (((q3∧True)∧True∧l3≤1000∧(∀z5:Nat,z5<l3→W.tlbsN z5≤1000))∧True∧tn 10 True∧(((((((((((True∧c4∧b0)∧c4∧g0)∧c4∧o0)∧c4∧e1)∧c4∧x2)∧c4∧c2)∧c4∧h2)∧c4∧d3)∧c4∧o3)∧c4∧q2)∧W.time=W.time)∧c0∧h0∧q0∧g1∧y2∧d2∧k2∧e3∧q3∧u2))))))))))
theorem ok_cloneW:FnOK Tryz.prog glN 126 c_cloneW:=ok_of (.cons ok_cloneI (.cons ok_cloneS (.cons ok_cloneR (.cons ok_deepI (.cons ok_deepE .nil))))) false Tryz.call126 Tryz.func126 (fun _=> []) (V:=V_cloneW) (fun _=>by kernel_rfl) fun ⟨W⟩ hp=>by
  dsimp only [s_cloneW] at hp
  dsimp only [V_cloneW,tn,w64]
  simp only [std,stb,eq_self,implies_true,Bool.cond_self]
  obtain ⟨h1,h2,h3,h4,h5,h6,h7,h8,h9,h10,h11,h12,h13⟩:=hp
  exact ⟨by omega,by omega,by omega,by omega,by omega,by omega,by omega,⟨h5,h11⟩,⟨h8,h12⟩,h9,h13⟩
end Go.Proofs.YtdjilaofmdhikaaGreatDoor
set_option linter.unusedVariables false
set_option linter.unusedSimpArgs false
set_option maxRecDepth 100000
namespace Go.Proofs.YtdjilaofmdhikaaGreatDoor
open Go.RowKit Go.Sy
theorem fg1N_s {p:Ent4→Bool} {W:Wd} {s q:Nat}:(bif Nat.beq q s then kpN (fun a=>p (fg1T p W s s a)) (fg1N p W s s) else fg1N p W s q)=fg1N p W (s+1) q:=by
  rw [fg1N_ge (Nat.le_refl s),fg1T_ge (Nat.le_refl s)]
  rcases Nat.lt_trichotomy q s with e|e|e
  · rw [beq_ne (by omega),fg1N_lt e,fg1N_lt (by omega:q<s+1)];rfl
  · subst e;rw [Nat.beq_refl,fg1N_lt (Nat.lt_succ_self _)];rfl
  · rw [beq_ne (by omega),fg1N_ge (by omega:s≤q),fg1N_ge (by omega:s+1≤q)];rfl
theorem fg1T_s {p:Ent4→Bool} {W:Wd} {s q v:Nat} (hv:v<fg1N p W (s+1) q):
    (((bif Nat.beq q s then (bif Nat.blt v (kpN (fun a=>p (fg1T p W s s a)) (fg1N p W s s)) then kpT ⟨0,0,0,false⟩ (fun a=>p (fg1T p W s s a)) (fg1T p W s s) (fg1N p W s s) v else ⟨0,0,0,false⟩:Ent4).sp else (fg1T p W s q v).sp)=(fg1T p W (s+1) q v).sp∧
    (bif Nat.beq q s then (bif Nat.blt v (kpN (fun a=>p (fg1T p W s s a)) (fg1N p W s s)) then kpT ⟨0,0,0,false⟩ (fun a=>p (fg1T p W s s a)) (fg1T p W s s) (fg1N p W s s) v else ⟨0,0,0,false⟩:Ent4).pg else (fg1T p W s q v).pg)=(fg1T p W (s+1) q v).pg)∧
    (bif Nat.beq q s then (bif Nat.blt v (kpN (fun a=>p (fg1T p W s s a)) (fg1N p W s s)) then kpT ⟨0,0,0,false⟩ (fun a=>p (fg1T p W s s a)) (fg1T p W s s) (fg1N p W s s) v else ⟨0,0,0,false⟩:Ent4).fr else (fg1T p W s q v).fr)=(fg1T p W (s+1) q v).fr)∧
    (bif Nat.beq q s then (bif Nat.blt v (kpN (fun a=>p (fg1T p W s s a)) (fg1N p W s s)) then kpT ⟨0,0,0,false⟩ (fun a=>p (fg1T p W s s a)) (fg1T p W s s) (fg1N p W s s) v else ⟨0,0,0,false⟩:Ent4).wr else (fg1T p W s q v).wr)=(fg1T p W (s+1) q v).wr:=by
  rw [fg1N_ge (Nat.le_refl s),fg1T_ge (Nat.le_refl s)]
  rcases Nat.lt_trichotomy q s with e|e|e
  · rw [beq_ne (by omega),fg1T_lt e,fg1T_lt (by omega:q<s+1)];exact ent4 rfl
  · subst e
    rw [fg1N_lt (Nat.lt_succ_self _)] at hv
    have hv:v<kpN (fun a=>p (W.tlbs q a)) (W.tlbsN q):=hv
    rw [Nat.beq_refl,fg1T_lt (Nat.lt_succ_self _),blt_t hv];exact ent4 rfl
  · rw [beq_ne (by omega),fg1T_ge (by omega:s≤q),fg1T_ge (by omega:s+1≤q)];exact ent4 rfl
def unR (W:Wd) (f:Int) (i:Nat):Int:=bif Nat.blt i W.nRam&&((W.kinds (i/16)==3||W.kinds (i/16)==4)&&(W.ram i !=0)&&(W.ram i%1024==f)) then 0 else W.ram i
def un1 (W:Wd) (f:Int) (i q:Nat):Int:=bif Nat.blt q i then unR W f q else W.ram q
def umW (W:Wd) (f:Int):Wd:={W with ram:=unR W f,tlbsN:=fgN (wrB W.nRam (unR W f)) W,tlbs:=fgT (wrB W.nRam (unR W f)) W}
theorem un1_lt {W:Wd} {f:Int} {i q:Nat} (h:q<i):un1 W f i q=unR W f q:=by unfold un1;rw [blt_t h];rfl
theorem un1_ge {W:Wd} {f:Int} {i q:Nat} (h:i≤q):un1 W f i q=W.ram q:=by unfold un1;rw [blt_f h];rfl
theorem unR_is {W:Wd} {f:Int} {i:Nat} (h:isW (W.ram i)):isW (unR W f i):=by
  unfold unR
  cases Nat.blt i W.nRam&&((W.kinds (i/16)==3||W.kinds (i/16)==4)&&(W.ram i !=0)&&(W.ram i%1024==f))
  · exact h
  · exact ⟨Int.le_refl 0,show (0:Int)≤65535 by decide⟩
theorem un1_all {W:Wd} {f:Int}:un1 W f W.nRam=unR W f:=by
  funext i
  rcases Nat.lt_or_ge i W.nRam with h|h
  · exact un1_lt h
  · rw [un1_ge h];unfold unR;rw [blt_f h];rfl
def an_un (W:Wd) (f:Int) (l:List (Nat×SV)) (z:Nat):Ann where
  σ:=Nat
  rt:= []
  sh i:=l++ [(z,.v (.int .i64 i))]
  mh i:= [(1,.row 1 W.nRam (iF (un1 W f i)))]
  inv i:=i≤W.nRam
  μ i:=W.nRam -i
  init:=0
structure X_fgA where
  (W:Wd)
def s_fgA:Sy.Spec:=⟨X_fgA,fun _=> [.ptr 0 0 none 0 0,.fn 231 1 (lsv [.ptr 11 0 none 0 0])],fun ⟨W⟩=>wMem W++ [.cells [.ptr 0 0 none 0 0]],fun ⟨W⟩=>TlR W,fun _=> .tp 0 (lsv []),fun ⟨W⟩=>wMem (fgW (wrB W.nRam W.ram) W)++ [.cells [.ptr 0 0 none 0 0]],
  fun args mem=>match args with| [a0,a1]=>(match isFn 231 a1 with|true=>some ⟨wMJD mem 0⟩|false=>none)|_=>none⟩
def c_fgA:Con:=⟨[true,true],(s_fgA).g,none⟩
def V_fgA:X_fgA→Prop:=fun ⟨W⟩=>let a0:=W.nTlbs;let b0:=(a0:Int);let c0:=SV.ptr 0 0 none 0 0;let d0:=c0=SV.ptr 0 0 none 0 0;let e0:=True∧SV.ptr (0+1+1+1+1+1+1+1+1+1+1+1) 0 none 0 0=SV.ptr 11 0 none 0 0;let g0:=W.nRam;let h0:=wrB g0 W.ram;let k0:=(True∧c0=c0)∧True;let l0:=Ent4.mk 0 0 0 false;b0≤9223372036854775807→d0∧e0∧0=((0:Nat):Int)∧wEq W {W with tlbsN:=fg1N h0 W 0,tlbs:=fg1T h0 W 0} k0∧0≤a0∧(∀o0:Nat,let q0:=(o0:Int);let r0:=decide (q0<b0);let u0:=0≤q0∧q0<b0;let v0:=0+Int.toNat q0;let w0:=fg1N h0 W o0 v0;let x0:=w0=w0;let y0:Int:=q0+1;let z0:=kpN (fun a1:Nat=>wrB g0 (fun b1:Nat=>W.ram (0+b1)) (fg1T h0 W o0 v0 a1)) w0;let c1:=fg1T h0 W o0 v0;o0≤a0→(r0=true→tn 10 (u0∧tn 2 (tn 2 True∧(((0=0∧x0)∧tn 2 (((((((((((True∧g0=g0∧(∀d1:Nat,d1<g0→True∧W.ram (0+d1)=W.ram (0+d1)))∧True)∧True)∧True)∧True)∧True)∧True)∧True)∧True)∧True)∧True)∧True)∧((x0∧(∀e1:Nat,e1<w0→eEq (c1 e1) (c1 e1)))∧True)∧w0≤100000∧(∀g1:Nat,g1<g0→0≤W.ram (0+g1)∧W.ram (0+g1)≤65535)∧(∀h1:Nat,h1<w0→0≤(c1 h1).pg∧(c1 h1).pg≤255))∧u0∧(v0=v0∧(∀k1:Nat,Nat.beq 4 4=true))∧w64 y0=y0∧(∃l1:Nat,d0∧e0∧y0=(l1:Int)∧wEq {W with tlbsN:=fun o1:Nat=>cond (Nat.beq o1 v0) z0 (fg1N h0 W o0 o1),tlbs:=fun q1:Nat=>let r1:=Nat.beq q1 v0;fun u1:Nat=>let v1:=cond (Nat.blt u1 z0) (kpT l0 (fun w1:Nat=>wrB g0 (fun x1:Nat=>W.ram (0+x1)) (c1 w1)) c1 w0 u1) l0;let y1:=fg1T h0 W o0 q1 u1;Ent4.mk (cond r1 v1.sp y1.sp) (cond r1 v1.pg y1.pg) (cond r1 v1.fr y1.fr) (cond r1 v1.wr y1.wr)} {W with tlbsN:=fg1N h0 W l1,tlbs:=fg1T h0 W l1} k0∧l1≤a0∧a0-l1<a0-o0))))∧(r0=false→True∧
    wEq {W with tlbsN:=fg1N h0 W o0,tlbs:=fg1T h0 W o0} {W with tlbsN:=fgN h0 W,tlbs:=fgT h0 W} ((True∧d0)∧True)))
set_option maxHeartbeats 1000000 in
theorem ok_fgA:FnOK Tryz.prog glN 213 c_fgA:=ok_of (.cons ok_delA .nil) false Tryz.call213 Tryz.func213 (fun ⟨W⟩=> [.inv (an_fg (wrB W.nRam W.ram) W [(0,pt0 0),(1,.fn 231 1 (lsv [.ptr 11 0 none 0 0]))] 10)]) (V:=V_fgA) (fun _=>by kernel_rfl) fun ⟨W⟩ hp=>by
  dsimp only [s_fgA] at hp
  dsimp only [V_fgA,tn,w64,wEq,rEq,sEq,eEq]
  simp only [std,stb,eq_self,implies_true,Bool.cond_self]
  try simp only [wd_eta]
  intro _
  have z1:=hp.z.tlbs
  have z2:=hp.z.c1
  refine ⟨fun q _=>⟨(fg1N_ge (Nat.zero_le _)).symm,fun v _=>by rw [fg1T_ge (Nat.zero_le _)];exact ent4 rfl⟩,fun s hs=>⟨fun h=>?_,fun h=>?_⟩⟩
  · have hlt:=lt_of_dec h
    have h1:=hp.tn s (by omega)
    have h2:=hp.pg s (by omega)
    exact ⟨by omega,⟨by rw [fg1N_ge (Nat.le_refl _)];omega,hp.ram,by rw [fg1N_ge (Nat.le_refl _),fg1T_ge (Nat.le_refl _)];exact h2⟩,by omega,fun _=>rfl,wr_in (by omega) (by omega),s+1,by omega,fun q _=>⟨fg1N_s (p:=wrB W.nRam W.ram),fun v hv=>fg1T_s (p:=wrB W.nRam W.ram) hv⟩,by omega,by omega⟩
  · have hge:=ge_of_dec h
    obtain rfl:s=W.nTlbs:=by omega
    exact fun q hq=>⟨fg1N_lt hq,fun v _=>by rw [fg1T_lt hq];exact ent4 rfl⟩
structure X_fgS where
  (f:Int) (W:Wd)
def s_fgS:Sy.Spec:=⟨X_fgS,fun ⟨f,_⟩=> [.ptr 0 0 none 0 0,.fn 214 1 (lsv [.pt true 1 (fun _=> .v (.int .i64 f))])],fun ⟨_,W⟩=>wMem W,fun ⟨_,W⟩=>TlR W,fun _=> .tp 0 (lsv []),fun ⟨f,W⟩=>wMem (fgW (spB f) W),
  fun args mem=>match args with| [a0,a1]=>(match isFn 214 a1 with|true=>some ⟨intD (ptF (fnF a1 0) 0),wMJD mem 0⟩|false=>none)|_=>none⟩
def c_fgS:Con:=⟨[true],(s_fgS).g,none⟩
def V_fgS:X_fgS→Prop:=fun ⟨f,W⟩=>let a0:=W.nTlbs;let b0:=(a0:Int);let c0:=SV.ptr 0 0 none 0 0=SV.ptr 0 0 none 0 0;let d0:=spB f;let e0:=Ent4.mk 0 0 0 false;b0≤9223372036854775807→c0∧0=((0:Nat):Int)∧wEq W {W with tlbsN:=fg1N d0 W 0,tlbs:=fg1T d0 W 0} True∧0≤a0∧(∀g0:Nat,let h0:=(g0:Int);let k0:=decide (h0<b0);let l0:=0≤h0∧h0<b0;let o0:=0+Int.toNat h0;let q0:=fg1N d0 W g0 o0;let r0:=q0=q0;let u0:=fg1T d0 W g0 o0;let v0:Int:=h0+1;let w0:=kpN (fun x0:Nat=>d0 (u0 x0)) q0;g0≤a0→(k0=true→tn 10 (l0∧tn 2 (tn 2 True∧(((0=0∧r0)∧tn 2 (f=f)∧True)∧((r0∧(∀y0:Nat,y0<q0→eEq (u0 y0) (u0 y0)))∧True)∧s_delS.match_1 (fun z0:X_delS=>Prop) (X_delS.mk f q0 u0) (fun a1:Int=>fun b1:Nat=>fun c1:∀d1:Nat,Ent4=>b1≤100000))∧l0∧(o0=o0∧(∀e1:Nat,Nat.beq 4 4=true))∧w64 v0=v0∧(∃g1:Nat,c0∧v0=(g1:Int)∧wEq {W with tlbsN:=fun h1:Nat=>cond (Nat.beq h1 o0) w0 (fg1N d0 W g0 h1),tlbs:=fun k1:Nat=>let l1:=Nat.beq k1 o0;fun o1:Nat=>let q1:=cond (Nat.blt o1 w0) (kpT e0 (fun r1:Nat=>d0 (u0 r1)) u0 q0 o1) e0;let u1:=fg1T d0 W g0 k1 o1;Ent4.mk (cond l1 q1.sp u1.sp) (cond l1 q1.pg u1.pg) (cond l1 q1.fr u1.fr) (cond l1 q1.wr u1.wr)} {W with tlbsN:=fg1N d0 W g1,tlbs:=fg1T d0 W g1} True∧g1≤a0∧a0-g1<a0-g0))))∧(k0=false→True∧wEq {W with tlbsN:=fg1N d0 W g0,tlbs:=fg1T d0 W g0} {W with tlbsN:=fgN d0 W,tlbs:=fgT d0 W} True))
set_option maxHeartbeats 1000000 in
theorem ok_fgS:FnOK Tryz.prog glN 213 c_fgS:=ok_of (.cons ok_delS .nil) false Tryz.call213 Tryz.func213 (fun ⟨f,W⟩=> [.inv (an_fg (spB f) W [(0,pt0 0)] 10)]) (V:=V_fgS) (fun _=>by kernel_rfl) fun ⟨f,W⟩ hp=>by
  dsimp only [s_fgS] at hp
  dsimp only [V_fgS,tn,w64,wEq,rEq,sEq,eEq]
  simp only [std,stb,eq_self,implies_true,Bool.cond_self]
  try simp only [wd_eta]
  intro _
  have z1:=hp.z.tlbs
  have z2:=hp.z.c1
  refine ⟨fun q _=>⟨(fg1N_ge (Nat.zero_le _)).symm,fun v _=>by rw [fg1T_ge (Nat.zero_le _)];exact ent4 rfl⟩,fun s hs=>⟨fun h=>?_,fun h=>?_⟩⟩
  · have hlt:=lt_of_dec h
    have h1:=hp.tn s (by omega)
    have h2:=hp.pg s (by omega)
    exact ⟨by omega,by rw [fg1N_ge (Nat.le_refl _)];omega,by omega,fun _=>rfl,wr_in (by omega) (by omega),s+1,by omega,fun q _=>⟨fg1N_s (p:=spB f),fun v hv=>fg1T_s (p:=spB f) hv⟩,by omega,by omega⟩
  · have hge:=ge_of_dec h
    obtain rfl:s=W.nTlbs:=by omega
    exact fun q hq=>⟨fg1N_lt hq,fun v _=>by rw [fg1T_lt hq];exact ent4 rfl⟩
structure X_agree where
  (W:Wd)
def s_agree:Sy.Spec:=⟨X_agree,fun _=> [.ptr 0 0 none 0 0],fun ⟨W⟩=>wMem W,fun ⟨W⟩=>TlR W,fun _=> .tp 0 (lsv []),fun ⟨W⟩=>wMem (fgW (wrB W.nRam W.ram) W),
  fun args mem=>match args with| [a0]=>some ⟨wMJD mem 0⟩|_=>none⟩
def c_agree:Con:=⟨[true],(s_agree).g,none⟩
def V_agree:X_agree→Prop:=fun ⟨W⟩=>let a0:=SV.ptr 0 0 none 0 0=SV.ptr 0 0 none 0 0;let b0:=wrB W.nRam W.ram;let c0:={W with tlbsN:=fgN b0 W,tlbs:=fgT b0 W};True∧((a0∧(True∧SV.ptr (0+1+1+1+1+1+1+1+1+1+1+1) 0 none 0 0=SV.ptr 11 0 none 0 0)∧True)∧wEq W W ((True∧a0)∧True)∧s_fgA.match_1 (fun d0:X_fgA=>Prop) (X_fgA.mk W) (fun e0:Wd=>TlR e0))∧True∧wEq c0 c0 True
set_option maxHeartbeats 1000000 in
theorem ok_agree:FnOK Tryz.prog glN 227 c_agree:=ok_of (.cons (ok_fgA.or ok_fgS) .nil) false Tryz.call227 Tryz.func227 (fun _=> []) (V:=V_agree) (fun _=>by kernel_rfl) fun ⟨W⟩ hp=>by
  dsimp only [s_agree] at hp
  dsimp only [V_agree,tn,w64,wEq,rEq,sEq,eEq]
  simp only [std,stb,eq_self,implies_true,Bool.cond_self]
  try simp only [wd_eta]
  try simp only [wd_eta]
  exact hp
structure X_unmap where
  (f:Int) (W:Wd)
def s_unmap:Sy.Spec:=⟨X_unmap,fun ⟨f,_⟩=> [.ptr 0 0 none 0 0,.v (.int .i64 f)],fun ⟨_,W⟩=>wMem W,fun ⟨_,W⟩=>TlR W,fun _=> .tp 0 (lsv []),fun ⟨f,W⟩=>wMem (umW W f),
  fun args mem=>match args with| [a0,a1]=>some ⟨intD (a1),wMJD mem 0⟩|_=>none⟩
def c_unmap:Con:=⟨[true],(s_unmap).g,none⟩
def V_unmap:X_unmap→Prop:=fun ⟨f,W⟩=>let a0:=W.nRam;let b0:=(a0:Int);let c0:=SV.ptr 0 0 none 0 0=SV.ptr 0 0 none 0 0;let d0:=0=0∧a0=a0;let e0:=wrB a0 (unR W f);b0≤9223372036854775807→c0∧d0∧0=((0:Nat):Int)∧wEq W {W with ram:=un1 W f 0} True∧0≤a0∧(∀g0:Nat,let h0:=(g0:Int);let k0:=decide (h0<b0);let l0:=0≤h0∧h0<b0;let o0:Int:=h0/16;let q0:=W.kinds (0+Int.toNat o0);let r0:=0+Int.toNat h0;let u0:=un1 W f g0 r0;let v0:=cond (cond (cond (q0==3) true (q0==4)) (u0 !=0) false) (bitsI BinOp.and IntKind.i64 u0 1023==f) false;let w0:Int:=h0+1;let x0:=w64 w0=w0;let y0:=un1 W f g0;let z0:={W with ram:=y0};let a1:=wrB a0 y0;g0≤a0→(k0=true→l0∧(0≤h0∧(0:Int)<16∧w64 o0=o0)∧(0≤o0∧o0<((W.nKinds:Nat):Int))∧(v0=true→l0∧(∀b1:Nat,false=false)∧x0∧(∃c1:Nat,c0∧d0∧w0=(c1:Int)∧wEq {W with ram:=fun d1:Nat=>cond (Nat.beq d1 r0) 0 (y0 d1)} {W with ram:=un1 W f c1} True∧c1≤a0∧a0-c1<a0-g0))∧(v0=false→x0∧(∃e1:Nat,c0∧d0∧w0=(e1:Int)∧wEq z0 {W with ram:=un1 W f e1} True∧e1≤a0∧a0-e1<a0-g0)))∧(k0=false→((c0∧True)∧wEq z0 z0 True∧s_agree.match_1 (fun g1:X_agree=>Prop) (X_agree.mk z0) (fun h1:Wd=>TlR h1))∧True∧wEq {W with ram:=y0,tlbsN:=fgN a1 z0,tlbs:=fgT a1 z0} {W with ram:=unR W f,tlbsN:=fgN e0 W,tlbs:=fgT e0 W} True))
set_option maxHeartbeats 1000000 in
theorem ok_unmap:FnOK Tryz.prog glN 212 c_unmap:=ok_of (.cons ok_agree .nil) false Tryz.call212 Tryz.func212 (fun ⟨f,W⟩=> [.inv (an_un W f [(0,pt0 0),(10,.slc 1 0 none 0 W.nRam)] 12)]) (V:=V_unmap) (fun _=>by kernel_rfl) fun ⟨f,W⟩ hp=>by
  dsimp only [s_unmap] at hp
  dsimp only [V_unmap,tn,w64,wEq,rEq,sEq,eEq]
  simp only [std,stb,eq_self,implies_true,Bool.cond_self]
  try simp only [wd_eta]
  intro _
  have z1:=hp.z.ram
  have z2:=hp.z.k1
  refine ⟨fun q _=>(un1_ge (Nat.zero_le _)).symm,fun s hs=>⟨fun h=>?_,fun h=>?_⟩⟩
  · have hlt:=lt_of_dec h
    have hw:=hp.ram s (by omega)
    have em:bitsI BinOp.and IntKind.i64 (W.ram s) 1023=W.ram s%1024:=by
      rw [mask64 10 (by omega) (by decide)]
      rw [show ((2:Int)^10)=1024 by decide]
    have ek:((s:Int)/16).toNat=s/16:=by omega
    rw [un1_ge (Nat.le_refl _),em,ek]
    refine ⟨by omega,⟨by decide,wr_in (by omega) (by omega)⟩,⟨by omega,by omega⟩,fun h1=>⟨by omega,wr_in (by omega) (by omega),s+1,by omega,fun q _=>?_,by omega,by omega⟩,fun h1=>⟨wr_in (by omega) (by omega),s+1,by omega,fun q _=>?_,by omega,by omega⟩⟩
    · rcases Nat.lt_trichotomy q s with e|e|e
      · rw [beq_ne (by omega),un1_lt e,un1_lt (by omega:q<s+1)];rfl
      · subst e;rw [Nat.beq_refl,un1_lt (Nat.lt_succ_self _)];unfold unR;rw [blt_t (by omega),h1];rfl
      · rw [beq_ne (by omega),un1_ge (by omega:s≤q),un1_ge (by omega:s+1≤q)];rfl
    · rcases Nat.lt_trichotomy q s with e|e|e
      · rw [un1_lt e,un1_lt (by omega:q<s+1)]
      · subst e;rw [un1_ge (Nat.le_refl _),un1_lt (Nat.lt_succ_self _)];unfold unR;rw [blt_t (by omega),h1];rfl
      · rw [un1_ge (by omega:s≤q),un1_ge (by omega:s+1≤q)]
  · have hge:=ge_of_dec h
    obtain rfl:s=W.nRam:=by omega
    rw [un1_all]
    exact ⟨⟨⟨hp.z.k0,hp.z.k1,hp.z.c0,hp.z.c1,hp.z.ram,hp.z.slots,hp.z.tasks,hp.z.lines,hp.z.bits,hp.z.ready,hp.z.tlbs,hp.z.d0,hp.z.d1,hp.z.t0,hp.z.t1⟩,fun i hi=>unR_is (hp.ram i hi),hp.tn,hp.pg⟩,fun _ _=>rfl,fun _ _=>⟨rfl,fun _ _=>ent4 rfl⟩⟩
end Go.Proofs.YtdjilaofmdhikaaGreatDoor
set_option linter.unusedVariables false
set_option linter.unusedSimpArgs false
set_option maxRecDepth 100000
namespace Go.Proofs.YtdjilaofmdhikaaGreatDoor
open Go.RowKit Go.Sy
def an_fi (p:Ent4→Bool) (W:Wd) (c:Int):Ann where
  σ:=Nat
  rt:= [(7,4)]
  sh j:= [(0,pt0 0),(7,.slc 11 0 none 0 (kpN (fun i=>p (W.tlbs c.toNat i)) j)),(8,.v (.int .i64 j))]
  mh j:= [(11,.row 4 (kpN (fun i=>p (W.tlbs c.toNat i)) j) (rF fun a=>enL (kpT zEn (fun i=>p (W.tlbs c.toNat i)) (W.tlbs c.toNat) j a)))]
  inv j:=j≤W.tlbsN c.toNat
  μ j:=W.tlbsN c.toNat -j
  init:=0
structure X_forgetR where
  (k f:Int) (W:Wd)
def s_forgetR:Sy.Spec:=⟨X_forgetR,fun ⟨k,f,_⟩=> [.ptr 0 0 none 0 0,.v (.int .i64 k),.v (.int .i64 f)],fun ⟨_,_,W⟩=>wMem W,fun ⟨_,_,W⟩=>TlR W,fun _=> .tp 0 (lsv []),fun ⟨k,f,W⟩=>wMem (fgW (wrK W.nRam W.ram k f) W),
  fun args mem=>match args with| [a0,a1,a2]=>some ⟨intD (a1),intD (a2),wMJD mem 0⟩|_=>none⟩
def c_forgetR:Con:=⟨[true],(s_forgetR).g,none⟩
def V_forgetR:X_forgetR→Prop:=fun ⟨k,f,W⟩=>let a0:=SV.ptr 0 0 none 0 0;let b0:=W.nRam;let c0:=W.ram;let d0:=wrK b0 c0 k f;let e0:=W.nTlbs;let g0:=(e0:Int);let h0:=SV.ptr 0 0 none 0 0=a0;let k0:=SV.junk=SV.v (Value.int IntKind.i64 0);let l0:=Ent4.mk 0 0 0 false;a0=a0∧0=((0:Nat):Int)∧wEq W {W with tlbsN:=fg1N d0 W 0,tlbs:=fg1T d0 W 0} True∧0≤e0∧(∀o0:Nat,let q0:=(o0:Int);let r0:=decide (q0<g0);let u0:=Int.toNat q0;let v0:=kpN (fun w0:Nat=>d0 (W.tlbs u0 w0)) 0;let x0:=0=v0;let y0:={W with tlbsN:=fg1N d0 W o0,tlbs:=fg1T d0 W o0};let z0:=W.tlbsN u0;let a1:=0≤q0∧q0<g0;let b1:=0+u0;let c1:=((fg1N d0 W o0 b1:Nat):Int);let d1:=((fg1N (wrK W.nRam W.ram k f) W o0 b1:Nat):Int);let e1:=W.tlbs u0;let g1:Int:=q0+1;o0≤e0→g0≤9223372036854775807→(r0=true→h0∧(0=0∧x0)∧0=((0:Nat):Int)∧wEq y0 y0 ((x0∧(∀h1:Nat,h1<v0→(((True∧k0)∧k0)∧k0)∧SV.junk=SV.v (Value.bool false)))∧True)∧0≤z0∧(∀k1:Nat,let l1:=(k1:Int);let o1:=decide (l1<c1);let q1:=fg1T d0 W o0 b1 (0+Int.toNat l1);let r1:=q1.pg;let u1:Int:=16*r1;let v1:=q1.sp;let w1:=q1.fr;let x1:=q1.wr;let y1:=cond (cond (cond (wkE b0 (fun z1:Nat=>c0 (0+z1)) v1 u1==0) (wkF b0 (fun a2:Nat=>c0 (0+a2)) v1 u1==w1) false) (wkW b0 (fun b2:Nat=>c0 (0+b2)) v1 u1==x1) false) (!cond (k==4) (v1==f) false) false;let c2:=kpN (fun d2:Nat=>d0 (e1 d2)) k1;let e2:=c2+1;let g2:Int:=l1+1;let h2:=w64 g2=g2;k1≤z0→a1∧(c1≤9223372036854775807→(o1=true→a1∧(0≤l1∧l1<c1)∧True∧tn 3 True∧tn 8 (w64 u1=u1∧(((b0=b0∧(∀k2:Nat,k2<b0→True∧c0 (0+k2)=c0 (0+k2)))∧v1=v1∧u1=u1∧True)∧True∧(∀l2:Nat,l2<b0→0≤c0 (0+l2)∧c0 (0+l2)≤65535))∧
    tn 5 ((y1=true→True∧(e2*32≤140737488355328∧(∀o2:Nat,true=true))∧h2∧(∃q2:Nat,let r2:=kpN (fun u2:Nat=>d0 (e1 u2)) q2;let v2:=e2=r2;h0∧(0=0∧v2)∧g2=(q2:Int)∧wEq y0 y0 ((v2∧(∀w2:Nat,let x2:=Nat.blt w2 c2;let y2:=kpT l0 (fun z2:Nat=>d0 (e1 z2)) e1 k1 (0+w2);w2<r2→eEq (Ent4.mk (cond x2 y2.sp v1) (cond x2 y2.pg r1) (cond x2 y2.fr w1) (cond x2 y2.wr x1)) (kpT l0 (fun a3:Nat=>d0 (e1 a3)) e1 q2 w2)))∧True)∧q2≤z0∧z0-q2<z0-k1))∧(y1=false→h2∧(∃b3:Nat,let c3:=kpN (fun d3:Nat=>d0 (e1 d3)) b3;let e3:=c2=c3;h0∧(0=0∧e3)∧g2=(b3:Int)∧wEq y0 y0 ((e3∧(∀g3:Nat,g3<c3→eEq (kpT l0 (fun h3:Nat=>d0 (e1 h3)) e1 k1 g3) (kpT l0 (fun k3:Nat=>d0 (e1 k3)) e1 b3 g3)))∧True)∧b3≤z0∧z0-b3<z0-k1)))))∧(o1=false→a1∧(∀l3:Nat,Nat.beq 4 4=true)∧w64 g1=g1∧(∃o3:Nat,h0∧g1=(o3:Int)∧wEq {W with tlbsN:=fun q3:Nat=>cond (Nat.beq q3 b1) c2 (fg1N d0 W o0 q3),tlbs:=fun r3:Nat=>let u3:=Nat.beq r3 b1;fun v3:Nat=>let w3:=kpT l0 (fun x3:Nat=>d0 (e1 x3)) e1 k1 v3;let y3:=fg1T d0 W o0 r3 v3;Ent4.mk (cond u3 w3.sp y3.sp) (cond u3 w3.pg y3.pg) (cond u3 w3.fr y3.fr) (cond u3 w3.wr y3.wr)} {W with tlbsN:=fg1N d0 W o3,tlbs:=fg1T d0 W o3} True∧o3≤e0∧e0-o3<e0-o0)))))∧(r0=false→True∧wEq y0 {W with tlbsN:=fgN d0 W,tlbs:=fgT d0 W} True))
set_option maxHeartbeats 1000000 in
theorem ok_forgetR:FnOK Tryz.prog glN 162 c_forgetR:=ok_of (.cons ok_walked .nil) false Tryz.call162 Tryz.func162 (fun ⟨k,f,W⟩=> [.inv (an_fg (wrK W.nRam W.ram k f) W [(0,pt0 0)] 6),.invF false fun fr=>an_fi (wrK W.nRam W.ram k f) W (intD (fr 6))]) (V:=V_forgetR) (fun _=>by kernel_rfl) fun ⟨k,f,W⟩ hp=>by
  dsimp only [s_forgetR] at hp
  dsimp only [V_forgetR,tn,w64,wEq,rEq,sEq,eEq]
  simp only [std,stb,eq_self,implies_true,Bool.cond_self]
  try simp only [wd_eta]
  have z1:=hp.z.tlbs
  have z2:=hp.z.c1
  refine ⟨fun q _=>⟨(fg1N_ge (Nat.zero_le _)).symm,fun v _=>by rw [fg1T_ge (Nat.zero_le _)];exact ent4 rfl⟩,fun s hs _=>⟨fun h=>?_,fun h=>?_⟩⟩
  · have hlt:=lt_of_dec h
    have h1:=hp.tn s (by omega)
    have h2:=hp.pg s (by omega)
    have hcc: ∀j,((wkE W.nRam W.ram (W.tlbs s j).sp (16*(W.tlbs s j).pg)==0)&&(wkF W.nRam W.ram (W.tlbs s j).sp (16*(W.tlbs s j).pg)==(W.tlbs s j).fr)&&(wkW W.nRam W.ram (W.tlbs s j).sp (16*(W.tlbs s j).pg)==(W.tlbs s j).wr)&&!(k==4&&(W.tlbs s j).sp==f))=!wrK W.nRam W.ram k f (W.tlbs s j):=by
      intro j
      unfold wrK wrB
      cases wkE W.nRam W.ram (W.tlbs s j).sp (16*(W.tlbs s j).pg)==0<;>cases wkF W.nRam W.ram (W.tlbs s j).sp (16*(W.tlbs s j).pg)==(W.tlbs s j).fr<;>cases wkW W.nRam W.ram (W.tlbs s j).sp (16*(W.tlbs s j).pg)==(W.tlbs s j).wr<;>cases k==4<;>cases (W.tlbs s j).sp==f<;>rfl
    have hst: ∀q v,v<fg1N (wrK W.nRam W.ram k f) W (s+1) q→_:=fun q v hv=>fg1T_s (p:=wrK W.nRam W.ram k f) (W:=W) (s:=s) (q:=q) (v:=v) hv
    have hsn: ∀q,_:=fun q=>fg1N_s (p:=wrK W.nRam W.ram k f) (W:=W) (s:=s) (q:=q)
    simp only [fg1N_ge (Nat.le_refl s),fg1T_ge (Nat.le_refl s)] at hst hsn⊢
    obtain ⟨P,hP⟩: ∃P:Nat→Bool,P=fun i=>wrK W.nRam W.ram k f (W.tlbs s i):=⟨_,rfl⟩
    simp only [←hP] at hst hsn⊢
    refine ⟨rfl,⟨rfl,fun i hi=>absurd hi (by simp [kpN])⟩,fun j hj=>⟨by omega,fun _=>⟨fun h=>?_,fun h=>?_⟩⟩⟩
    · have hlt2:=lt_of_dec h
      have hks:=kpN_le P j
      have hpg:=h2 j (by omega)
      refine ⟨by omega,by omega,by rw [IntKind.wrap_i64];omega,hp.ram,fun hn=>?_,fun hn=>?_⟩
      · have hps:P j=false:=by
          rw [hP]
          exact notT ((hcc j).symm.trans hn)
        have hn1:kpN P (j+1)=kpN P j+1:=by rw [kpN,hps];rfl
        refine ⟨by omega,wr_in (by omega) (by omega),j+1,hn1.symm,by omega,⟨hn1.symm,fun i hi=>?_⟩,by omega,by omega⟩
        rw [hn1] at hi
        rcases Nat.lt_or_ge i (kpN P j) with h3|h3
        · have e:kpT ⟨0,0,0,false⟩ P (W.tlbs s) (j+1) i=kpT ⟨0,0,0,false⟩ P (W.tlbs s) j i:=by rw [kpT,beq_ne (by omega:i≠kpN P j)];simp
          rw [blt_t h3,e]
          exact ent4 rfl
        · obtain rfl:i=kpN P j:=by omega
          have e:kpT ⟨0,0,0,false⟩ P (W.tlbs s) (j+1) (kpN P j)=W.tlbs s j:=by rw [kpT,hps,Nat.beq_refl];rfl
          rw [blt_f (Nat.le_refl _),e]
          exact ent4 rfl
      · have hps:P j=true:=by
          rw [hP]
          exact notF ((hcc j).symm.trans hn)
        have hn1:kpN P (j+1)=kpN P j:=by rw [kpN,hps];rfl
        refine ⟨wr_in (by omega) (by omega),j+1,hn1.symm,by omega,⟨hn1.symm,fun i hi=>?_⟩,by omega,by omega⟩
        have e:kpT ⟨0,0,0,false⟩ P (W.tlbs s) (j+1) i=kpT ⟨0,0,0,false⟩ P (W.tlbs s) j i:=by rw [kpT,hps];rfl
        rw [e]
        exact ent4 rfl
    · obtain rfl:j=W.tlbsN s:=by have:=ge_of_dec h;omega
      refine ⟨by omega,fun _=>rfl,wr_in (by omega) (by omega),s+1,by omega,fun q _=>⟨hsn q,fun v hv=>?_⟩,by omega,by omega⟩
      have hq:=hst q v hv
      rcases Decidable.em (q=s) with e|e
      · subst e
        have e1:=hsn q
        rw [Nat.beq_refl,cond_true] at e1
        rw [←e1] at hv
        rw [Nat.beq_refl,blt_t hv] at hq
        rw [Nat.beq_refl]
        exact hq
      · rw [beq_ne e] at hq⊢
        exact hq
  · have hge:=ge_of_dec h
    obtain rfl:s=W.nTlbs:=by omega
    exact fun q hq=>⟨fg1N_lt hq,fun v _=>by rw [fg1T_lt hq];exact ent4 rfl⟩
end Go.Proofs.YtdjilaofmdhikaaGreatDoor
