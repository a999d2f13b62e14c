/- The program's look at a world: keys, tables, turns. -/
import Derived.Test.YtdjilaofmdhikaaGreatDoorYK
import Derived.Test.YtdjilaofmdhikaaGreatDoorYL
set_option linter.unusedVariables false
set_option linter.unusedSimpArgs false
set_option linter.unusedVariables false
set_option linter.unusedSimpArgs false
set_option maxRecDepth 100000
namespace Go.Proofs.YtdjilaofmdhikaaGreatDoor
open Go.RowKit Go.Sy
def an_k1 (W:Wd) (i:Nat):Ann where
  σ:=Nat
  rt:= []
  sh k:= [(108,.v (.int .i64 k)),(7,.v (.int .i64 (upK W i k)))]
  mh _:= []
  inv k:=k≤W.nSlots∧ ∀j,j≤k→inS W (upK W i j)=true
  μ k:=W.nSlots -k
  init:=0
def an_m2 (W:Wd) (n:Nat) (l:Nat→Ent4):Ann where
  σ:=Nat
  rt:= []
  sh i:= [(15,.v (.int .i64 i))]
  mh _:= []
  inv i:=i≤n∧ ∀j,j<i→tlT W l j=true
  μ i:=n -i
  init:=0
def an_l1 (W:Wd) (f:Nat):Ann where
  σ:=Nat
  rt:= []
  sh i:= [(95,.v (.int .i64 i))]
  mh _:= []
  inv i:=i≤W.linesN f∧ ∀j,j<i→lnTest W f (W.lines f j)=true
  μ i:=W.linesN f -i
  init:=0
def an_rf (W:Wd) (n:Nat) (l:Nat→Int) (i:Int):Ann where
  σ:=Nat
  rt:= []
  sh k:= [(8,.v (.int .i64 k))]
  mh _:= []
  inv k:=k≤n∧ ∀j,j<k→(!rdB W (l j) (i/4) (i%4))=false
  μ k:=n -k
  init:=0
theorem eqN {b:Bool} (h:b=true→False):true=!b:=by cases b<;>simp_all
theorem kofN {W:Wd} {f k:Int} (hk:k≠ -1):(decide (f<0)||decide ((W.nKinds:Int)≤f)||W.kinds f.toNat !=k)=!(kof W f==k):=by
  rw [←kof_int hk,show decide (f<0)=!decide (0≤f) by rw [←decide_not];exact decide_eq_decide.2 (by omega),show decide ((W.nKinds:Int)≤f)=!decide (f<(W.nKinds:Int)) by rw [←decide_not];exact decide_eq_decide.2 (by omega)]
  simp only [bne,Bool.not_and]
theorem kofN0 {W:Wd} {f k:Int} (hf:0≤f) (hk:k≠ -1):(decide ((W.nKinds:Int)≤f)||W.kinds f.toNat !=k)=!(kof W f==k):=by
  rw [←kofN hk,show decide (f<0)=false from decide_eq_false (by omega)];rfl
theorem key_zero {s:Slt} (h:(s.kind==0)=true):(s.kind==0&&(s.base==0&&(s.len==0&&(s.mark==0&&(s.rights==0&&(s.badge==0&&true))))))=(slNo s==0):=by
  unfold slNo keyNo
  rw [eq_of_beq h]
  simp only [bne]
  cases s.base==0<;>cases s.len==0<;>cases s.mark==0<;>cases s.rights==0<;>cases s.badge==0<;>rfl
theorem upK_succ {W:Wd} {u:Int}: ∀k,upK W (upS W u) k=upK W u (k+1)
  |0=>rfl
  |k+1=>by show upS W (upK W (upS W u) k)=_;rw [upK_succ k];rfl
def sN (W:Wd) (u:Int) (k:Nat):Nat:=bif inS W (upK W u k) then (upK W u k).toNat else W.nSlots
theorem up_stay {W:Wd} {u:Int} (h: ∀j,j≤W.nSlots→inS W (upK W u j)=true): ∀j,inS W (upK W u j)=true:=by
  have key: ∀k,sN W u k<W.nSlots↔inS W (upK W u k)=true:=fun k=>by
    unfold sN
    cases hq:inS W (upK W u k) with
    |true=>have:=inS_iff.1 hq;simp only [cond_true,iff_true];omega
    |false=>simp
  have:=stays_in W.nSlots (fun v=>bif inS W (upS W (v:Int)) then (upS W (v:Int)).toNat else W.nSlots) (sN W u) (fun k hk=>by
    have hin:=(key k).1 hk
    have h2:=inS_iff.1 hin
    have e:((sN W u k:Nat):Int)=upK W u k:=by unfold sN;rw [hin];simp only [cond_true];omega
    show sN W u (k+1)=bif inS W (upS W ((sN W u k:Nat):Int)) then (upS W ((sN W u k:Nat):Int)).toNat else W.nSlots
    rw [e];rfl) (fun k hk=>(key k).2 (h k hk))
  exact fun j=>(key j).1 (this j)
theorem slB_len {S:Slt} (h0:slNo S=0) (hk:S.kind≠0):1≤S.len:=by
  have h0:keyNo S.kind S.base S.len S.mark S.rights S.badge=0:=h0
  unfold keyNo keyBad1 keyBad2 farB at h0
  simp only [cond_eq_ite,bne,Bool.or_eq_true,Bool.and_eq_true,Bool.not_eq_true',decide_eq_true_eq,beq_iff_eq,beq_eq_false_iff_ne] at h0
  repeat' split at h0
  all_goals first|(cases h0;done)|omega
structure X_keys1 where
  (i:Int) (W:Wd)
def s_keys1:Sy.Spec:=⟨X_keys1,fun ⟨i,W⟩=> [.v (.int .i64 i),.ag 7 (lsv (slL (W.slots i.toNat))),.pt true 1 (fun _=>wPT W)],fun _=> [],fun ⟨i,W⟩=>Szd W∧0≤i∧i<W.nSlots,fun ⟨i,W⟩=> .v (.bool (!slB W i.toNat)),fun _=> [],
  fun args mem=>match args with| [a0,a1,a2]=>some ⟨intD (a0),wPTD (ptF a2 0)⟩|_=>none⟩
def c_keys1:Con:=⟨[],s_keys1.g,none⟩
def V_keys1:X_keys1→Prop:=fun ⟨i,W⟩=>let a0:=W.slots (Int.toNat i);let b0:=a0.kind;let c0:=b0==0;let d0:=a0.base;let e0:=a0.len;let g0:=a0.mark;let h0:=a0.rights;let k0:=a0.badge;let l0:=a0.from_;let o0:=!slB W (Int.toNat i);let q0:Int:=i/16;let r0:=((W.nKinds:Nat):Int);let u0:=W.kinds (Int.toNat q0) !=5;let v0:=(((((True∧b0=b0)∧d0=d0)∧e0=e0)∧g0=g0)∧h0=h0)∧k0=k0;let w0:=keyNo b0 d0 e0 g0 h0 k0;let x0:=cond u0 true (w0 !=0);let y0:Int:=d0+e0;let z0:=b0 !=1;let a1:=cond x0 true (decide (r0<y0));let b1:=cond a1 true (cond z0 (W.kinds (Int.toNat d0) !=b0) false);let c1:=true=o0∧True;let d1:=l0==(-1);let e1:=false=o0∧True;let g1:=W.nSlots;let h1:=(g1:Int);let k1:=cond (decide (l0<0)) true (decide (h1≤l0));let l1:=k1=false;let o1:=W.slots (Int.toNat l0);let q1:=o1.kind;let r1:=o1.base;let u1:=o1.len;let v1:=o1.mark;let w1:=o1.rights;let x1:=o1.badge;let y1:=cond k1 true (!madeB (Slt.mk b0 d0 e0 g0 h0 k0 0) (Slt.mk q1 r1 u1 v1 w1 x1 0));let z1:=((Int.toNat i:Nat):Int);tn 2 (tn 5 True∧(c0=true→cond (!(c0&&(d0==0&&(e0==0&&(g0==0&&(h0==0&&(k0==0&&true))))))) true (l0 !=(-1))=o0∧True)∧(c0=false→tn 6 ((0≤i∧(0:Int)<16∧w64 q0=q0)∧(0≤q0∧q0<r0)∧tn 4 ((u0=false→(v0∧True)∧True∧True)∧tn 7 ((x0=false→w64 y0=y0)∧tn 20 ((z0=true→a1=false→0≤d0∧d0<r0)∧tn 3 ((b1=true→c1)∧(b1=false→(d1=true→e1)∧(d1=false→tn 23 ((l1→0≤l0∧l0<h1)∧tn 2 ((l1→(v0∧((((((True∧q1=q1)∧r1=r1)∧u1=u1)∧v1=v1)∧w1=w1)∧x1=x1)∧True)∧True∧w0=0)∧(y1=true→c1)∧(y1=false→h1≤9223372036854775807→0=((0:Nat):Int)∧i=upK W z1 0∧True∧(0≤g1∧(∀a2:Nat,a2≤0→inS W (upK W z1 a2)=true))∧
    (∀b2:Nat,let c2:=decide ((b2:Int)<h1);let d2:=upK W z1 b2;let e2:=(W.slots (Int.toNat d2)).from_;let g2:=cond (decide (e2<0)) true (decide (h1≤e2));let h2:Int:=(b2:Int)+1;b2≤g1∧(∀k2:Nat,k2≤b2→inS W (upK W z1 k2)=true)→(c2=true→(0≤d2∧d2<h1)∧(g2=true→e1)∧(g2=false→w64 h2=h2∧(∃l2:Nat,h2=(l2:Int)∧e2=upK W z1 l2∧True∧(l2≤g1∧(∀o2:Nat,o2≤l2→inS W (upK W z1 o2)=true))∧g1-l2<g1-b2)))∧(c2=false→c1))))))))))))))
theorem ok_keys1:FnOK Tryz.prog glN 185 c_keys1:=ok_of (.cons ok_wordCheck (.cons ok_wMade .nil)) false Tryz.call185 Tryz.func185 (fun ⟨i,W⟩=> [.inv (an_k1 W i.toNat)]) (V:=V_keys1) (fun _=>by kernel_rfl) fun ⟨i,W⟩ hp=>by
  dsimp only [s_keys1] at hp
  dsimp only [V_keys1,tn,w64]
  obtain ⟨hz,i0,i1⟩:=hp
  obtain ⟨I,rfl⟩: ∃I:Nat,i=I:=⟨i.toNat,by omega⟩
  simp only [std,stb,eq_self,implies_true,Bool.cond_self]
  have e16:((I:Int)/16).toNat=I/16:=by omega
  rw [e16,show slB W I=slBs W I (W.slots I) from rfl]
  simp only [keyNo_slNo]
  have hz1:=hz.slots
  have hz2:=hz.k1
  have hz3:=hz.k0
  have hI:inS W (I:Int)=true:=inS_iff.2 ⟨by omega,by omega⟩
  have hup:upS W (I:Int)=(W.slots I).from_:=by rw [upS_in hI,Int.toNat_natCast]
  obtain ⟨S,hS⟩: ∃S,S=W.slots I:=⟨_,rfl⟩
  simp only [←hS] at hup⊢
  refine ⟨fun h=>?_,fun h=>⟨⟨by decide,by rw [IntKind.wrap_i64];omega⟩,by omega,fun h1=>?_,fun h1 h2=>?_,fun h1=>?_,fun h1=>?_⟩⟩
  · rw [key_zero h];unfold slBs;rw [h]
    cases slNo S==0<;>cases hq:S.from_== -1<;>simp [bne,hq]
  · simp only [Bool.or_eq_false_iff,bne_eq_false_iff_eq] at h1
    have:=slNo_range h1.2
    rw [IntKind.wrap_i64];omega
  · simp only [Bool.or_eq_false_iff,bne_eq_false_iff_eq,decide_eq_false_iff_not] at h2
    have:=slNo_range h2.1.2
    have hlen:=slB_len h2.1.2 (by simpa using h)
    omega
  · refine eqN fun ht=>?_
    rw [slBs_pos h] at ht
    simp only [Bool.and_eq_true,Bool.or_eq_true,beq_iff_eq,decide_eq_true_eq,bne_iff_ne,ne_eq] at ht h1
    omega
  rw [Bool.or_eq_false_iff] at h1
  obtain ⟨h1,h2⟩:=h1
  have T:W.kinds (I/16)=5∧slNo S=0∧S.base+S.len≤W.nKinds:=by
    simp only [Bool.or_eq_false_iff,bne_eq_false_iff_eq,decide_eq_false_iff_not] at h1
    exact ⟨h1.1.1,h1.1.2,by omega⟩
  obtain ⟨T1,T2,T3⟩:=T
  have T4:(S.kind==1||W.kinds S.base.toNat==S.kind)=true:=by
    revert h2
    simp only [bne]
    cases S.kind==1<;>cases W.kinds S.base.toNat==S.kind<;>simp
  have core:slBs W I S=(S.from_== -1||(inS W S.from_&&madeB S (W.slots S.from_.toNat)&&!inS W (upK W S.from_ W.nSlots))):=by
    rw [slBs_pos h,T4,show (W.kinds (I/16)==5)=true from beq_iff_eq.2 T1,show (slNo S==0)=true from beq_iff_eq.2 T2,show decide (S.base+S.len≤W.nKinds)=true from decide_eq_true T3]
    simp
  rw [core]
  refine ⟨fun h3=>by rw [h3];rfl,fun h3=>?_⟩
  rw [h3,notIn]
  obtain ⟨p,hp⟩: ∃p,p=W.slots S.from_.toNat:=⟨_,rfl⟩
  simp only [←hp]
  rw [show madeB ⟨S.kind,S.base,S.len,S.mark,S.rights,S.badge,0⟩ ⟨p.kind,p.base,p.len,p.mark,p.rights,p.badge,0⟩=madeB S p from rfl]
  refine ⟨fun h4=>?_,fun _=>T2,fun h4=>?_,fun h4 _=>?_⟩
  · exact inS_iff.1 (notF h4)
  · revert h4;cases inS W S.from_<;>cases madeB S p<;>simp
  have hin:inS W S.from_=true:=by revert h4;cases inS W S.from_<;>simp
  have hmd:madeB S p=true:=by revert h4;cases madeB S p<;>simp
  rw [hin,hmd]
  have e1: ∀k,upK W S.from_ k=upK W (I:Int) (k+1):=fun k=>by rw [←hup];exact upK_succ k
  rw [e1]
  refine ⟨rfl,fun j hj=>?_,fun s hs=>⟨fun h5=>?_,fun h5=>?_⟩⟩
  · obtain rfl:j=0:=by omega
    exact hI
  · have hlt:=lt_of_dec h5
    have hi:=hs.2 s (Nat.le_refl _)
    have hst:(W.slots (upK W (I:Int) s).toNat).from_=upK W (I:Int) (s+1):=(upS_in hi).symm
    simp only [hst,notIn]
    refine ⟨inS_iff.1 hi,fun h6=>?_,fun h6=>⟨by rw [IntKind.wrap_i64];omega,exS ⟨rfl,⟨by omega,fun j hj=>?_⟩,by omega⟩⟩⟩
    · have h7:=notT h6
      rw [upK_out h7 (show s+1≤W.nSlots+1 by omega),h7];rfl
    · rcases Nat.lt_or_ge j (s+1) with h8|h8
      · exact hs.2 j (by omega)
      · obtain rfl:j=s+1:=by omega
        exact notF h6
  · have hge:=ge_of_dec h5
    rw [up_stay (u:=(I:Int)) (fun j hj=>hs.2 j (by omega)) (W.nSlots+1)];rfl
structure X_lines1 where
  (i:Int) (W:Wd)
def s_lines1:Sy.Spec:=⟨X_lines1,fun ⟨i,W⟩=> [.v (.int .i64 i),.sl true 1 (W.linesN i.toNat) (iF (W.lines i.toNat)),.pt true 1 (fun _=>wPT W)],fun _=> [],fun ⟨i,W⟩=>Szd W∧smB W∧0≤i∧i<W.nKinds,fun ⟨i,W⟩=> .v (.bool (!lnB W i.toNat)),fun _=> [],
  fun args mem=>match args with| [a0,a1,a2]=>some ⟨intD (a0),wPTD (ptF a2 0)⟩|_=>none⟩
def c_lines1:Con:=⟨[],s_lines1.g,none⟩
def V_lines1:X_lines1→Prop:=fun ⟨i,W⟩=>let a0:=((W.nKinds:Nat):Int);let b0:=0≤i∧i<a0;let c0:=Int.toNat i;let d0:=W.kinds c0;let e0:=d0 !=7;let g0:=d0 !=8;let h0:=W.linesN c0;let k0:=(h0:Int);let l0:=decide (0<k0);let o0:=cond (cond e0 g0 false) l0 false;let q0:=o0=false;let r0:=0≤i∧i<((W.nBits:Nat):Int);let u0:=W.bits c0;let v0:=u0 !=0;let w0:=cond o0 true (cond g0 v0 false);let x0:=w0=false;let y0:=cond w0 true (farB u0 65535);let z0:=y0=false;let a1:=cond (d0==8) l0 false;let b1:=cond y0 true (cond a1 v0 false);let c1:=!lnB W c0;let d1:=true=c1∧True;let e1:=((W.nTasks:Nat):Int);let g1:=W.lines c0 (Int.toNat 0);let h1:=(W.tasks (Int.toNat g1)).st==4;b0∧(e0=true→b0)∧(q0→b0)∧(g0=true→q0→r0)∧(x0→r0)∧(x0→(u0=u0∧(65535:Int)=65535∧True)∧True∧True)∧(z0→b0)∧(a1=true→z0→r0)∧(b1=true→d1)∧(b1=false→k0≤9223372036854775807→0=((0:Nat):Int)∧True∧(0≤h0∧(∀k1:Nat,k1<0→lnTest W c0 (W.lines c0 k1)=true))∧(∀l1:Nat,let o1:=(l1:Int);let q1:=decide (o1<k0);let r1:=W.lines c0 (Int.toNat o1);let u1:=cond (decide (r1<0)) true (decide (a0≤r1));let v1:=0≤r1;let w1:=Int.toNat r1;let x1:=cond u1 true (W.kinds w1 !=6);let y1:=v1∧r1<e1;let z1:=W.tasks w1;let a2:=cond x1 true (z1.loc !=i);let b2:=a2=false;let c2:=cond a2 true ((z1.st==4) !=h1);let d2:Int:=o1+1;l1≤h0∧(∀e2:Nat,e2<l1→lnTest W c0 (W.lines c0 e2)=true)→(q1=true→(0≤o1∧o1<k0)∧tn 19 ((u1=false→v1∧r1<a0)∧tn 10 ((x1=false→y1)∧tn 12 ((b2→y1)∧tn 9 ((b2→(0:Int)≤0∧0<k0)∧True∧(b2→0≤g1∧g1<e1)∧tn 3 ((c2=true→d1)∧(c2=false→w64 d2=d2∧(∃g2:Nat,d2=(g2:Int)∧True∧(g2≤h0∧(∀h2:Nat,h2<g2→
    lnTest W c0 (W.lines c0 h2)=true))∧h0-g2<h0-l1))))))))∧(q1=false→false=c1∧True)))
theorem ok_lines1:FnOK Tryz.prog glN 196 c_lines1:=ok_of (.cons ok_wOut .nil) false Tryz.call196 Tryz.func196 (fun ⟨i,W⟩=> [.inv (an_l1 W i.toNat)]) (V:=V_lines1) (fun _=>by kernel_rfl) fun ⟨i,W⟩ hp=>by
  dsimp only [s_lines1] at hp
  dsimp only [V_lines1,tn,w64]
  obtain ⟨hz,hm,f0,f1⟩:=hp
  obtain ⟨F,rfl⟩: ∃F:Nat,i=F:=⟨i.toNat,by omega⟩
  simp only [std,stb,eq_self,implies_true,Bool.cond_self]
  have hz1:=hz.tasks
  have hz2:=hz.k1
  have hz3:=hz.lines
  have hz4:=hz.bits
  have hL:=hm.1 F (by omega)
  rw [show decide ((0:Int)<(W.linesN F:Int))=decide (0<W.linesN F) from decide_eq_decide.2 (by omega)]
  have eA:(W.kinds F !=7&&W.kinds F !=8&&decide (0<W.linesN F)||W.kinds F !=8&&W.bits F !=0||farB (W.bits F) 65535||W.kinds F==8&&decide (0<W.linesN F)&&W.bits F !=0)=!(!(decide (0<W.linesN F)&&W.kinds F !=7&&W.kinds F !=8)&&!(W.bits F !=0&&(W.kinds F !=8||decide (0<W.linesN F)))&&!farB (W.bits F) 65535):=by
    simp only [bne]
    cases W.kinds F==7<;>cases W.kinds F==8<;>cases decide (0<W.linesN F)<;>cases W.bits F==0<;>cases farB (W.bits F) 65535<;>rfl
  rw [eA]
  refine ⟨by omega,fun _=>by omega,fun _=>by omega,fun _ _=>by omega,fun _=>by omega,fun _=>by omega,fun _ _=>by omega,fun h=>?_,fun h _ s hs=>?_⟩
  · unfold lnB;rw [notT h];rfl
  have core:lnB W F=allB (W.linesN F) fun i=>lnTest W F (W.lines F i):=by unfold lnB;rw [notF h];rfl
  rw [core]
  refine ⟨fun h1=>?_,fun h1=>?_⟩
  · have hlt:=lt_of_dec h1
    rw [kofN (k:=6) (by decide)]
    have hr: ∀t,(kof W t==6)=true→0≤t∧t<W.nTasks:=fun t h=>by rw [hz1];exact kof_in (by rw [eq_of_beq h];decide)
    have h00:(kof W (W.lines F s)==6)=true→0≤W.lines F 0∧W.lines F 0<W.nTasks:=fun h6=>by
      rcases Nat.eq_zero_or_pos s with h|h
      · subst h;exact hr _ h6
      · have:=hs.2 0 h
        unfold lnTest at this
        simp only [Bool.and_eq_true] at this
        exact hr _ this.1.1
    have ht:lnTest W F (W.lines F s)=!(!(kof W (W.lines F s)==6)||(W.tasks (W.lines F s).toNat).loc !=F||(((W.tasks (W.lines F s).toNat).st==4) !=((W.tasks (W.lines F 0).toNat).st==4))):=by
      unfold lnTest wtB;simp only [bne,Bool.not_or,Bool.not_not]
    have o1: ∀{a b:Bool},(!a||b)=false→a=true:=fun {a b} h=>by revert h;cases a<;>cases b<;>simp
    refine ⟨by omega,fun h2=>?_,fun h2=>hr _ (notF h2),fun h2=>hr _ (o1 h2),fun h2=>⟨by decide,by omega⟩,fun h2=>h00 (o1 h2),fun h2=>?_,fun h2=>⟨by rw [IntKind.wrap_i64];omega,exS ⟨⟨by omega,snocB hs.2 ?_⟩,by omega⟩⟩⟩
    · simp only [Bool.or_eq_false_iff,decide_eq_false_iff_not] at h2;omega
    · rw [allB_false (p:=fun i=>lnTest W F (W.lines F i)) hlt (by show lnTest W F (W.lines F s)=false;rw [ht];exact congrArg (!·) h2)];rfl
    · rw [ht];exact congrArg (!·) h2
  · have hge:=ge_of_dec h1
    obtain rfl:s=W.linesN F:=by omega
    rw [allB_all hs.2];rfl
structure X_turns2 where
  (i x:Int) (W:Wd)
def s_turns2:Sy.Spec:=⟨X_turns2,fun ⟨i,x,W⟩=> [.v (.int .i64 i),.v (.int .i64 x),.pt true 1 (fun _=> .fn 197 1 (lsv [.pt true 1 (fun _=>wPT W)]))],fun _=> [],fun ⟨_,_,W⟩=>Szd W,fun ⟨i,x,W⟩=> .v (.bool (x != -1&&!rdB W x i (-1))),fun _=> [],
  fun args mem=>match args with| [a0,a1,a2]=>some ⟨intD (a0),intD (a1),wPTD (ptF (fnF (ptF a2 0) 0) 0)⟩|_=>none⟩
def c_turns2:Con:=⟨[],s_turns2.g,none⟩
def V_turns2:X_turns2→Prop:=fun ⟨i,x,W⟩=>let a0:=W.nKinds;let b0:=W.nSlots;let c0:=W.nTasks;let d0:=W.nLines;let e0:=W.nCores;let g0:=W.nReady;let h0:=!rdB W x i (-1);((x !=(-1))=true→(x=x∧i=i∧((-1):Int)=(-1)∧(True∧((((((((((True∧W.nRam=W.nRam∧(∀k0:Nat,k0<W.nRam→True∧W.ram k0=W.ram k0))∧a0=a0∧(∀l0:Nat,l0<a0→True∧W.kinds l0=W.kinds l0))∧b0=b0∧(∀o0:Nat,let q0:=W.slots o0;let u0:=q0.kind;let v0:=q0.base;let w0:=q0.len;let x0:=q0.mark;let y0:=q0.rights;let z0:=q0.badge;let a1:=q0.from_;o0<b0→((((((True∧u0=u0)∧v0=v0)∧w0=w0)∧x0=x0)∧y0=y0)∧z0=z0)∧a1=a1))∧c0=c0∧(∀b1:Nat,let c1:=W.tasks b1;let d1:=c1.prio;let e1:=c1.node;let g1:=c1.space;let h1:=c1.helper;let k1:=c1.loc;let l1:=c1.word;let o1:=c1.badge;let q1:=c1.owes;let u1:=c1.core;let v1:=c1.dom;b1<c0→(((((((((((((((((((True∧c1.r0=c1.r0)∧c1.r1=c1.r1)∧c1.r2=c1.r2)∧c1.r3=c1.r3)∧c1.r4=c1.r4)∧c1.r5=c1.r5)∧c1.r6=c1.r6)∧c1.r7=c1.r7)∧c1.pc=c1.pc)∧c1.st=c1.st)∧d1=d1)∧e1=e1)∧g1=g1)∧h1=h1)∧k1=k1)∧l1=l1)∧o1=o1)∧q1=q1)∧u1=u1)∧v1=v1))∧d0=d0∧(∀w1:Nat,let x1:=W.linesN w1;w1<d0→True∧x1=x1∧(∀y1:Nat,y1<x1→True∧W.lines w1 y1=W.lines w1 y1)))∧W.nBits=W.nBits∧(∀z1:Nat,z1<W.nBits→True∧W.bits z1=W.bits z1))∧e0=e0∧(∀a2:Nat,a2<e0→True∧W.cores a2=W.cores a2))∧g0=g0∧(∀b2:Nat,let c2:=W.readyN b2;b2<g0→True∧c2=c2∧(∀d2:Nat,d2<c2→True∧W.ready b2 d2=W.ready b2 d2)))∧W.nTlbs=W.nTlbs∧(∀e2:Nat,let g2:=W.tlbsN e2;e2<W.nTlbs→True∧g2=g2∧(∀h2:Nat,let k2:=W.tlbs e2 h2;let l2:=k2.sp;let o2:=k2.pg;let q2:=k2.fr;let u2:=k2.wr;h2<g2→(((True∧l2=l2)∧o2=o2)∧q2=q2)∧u2=u2)))∧W.nDoms=W.nDoms∧(∀v2:Nat,v2<W.nDoms→True∧
    W.doms v2=W.doms v2))∧W.time=W.time)∧True)∧True∧s_wRuns.match_1 (fun w2:X_wRuns=>Prop) (X_wRuns.mk x i (-1) W) (fun x2:Int=>fun y2:Int=>fun z2:Int=>fun a3:Wd=>Szd a3))∧cond (x !=(-1)) h0 false=(x !=(-1)&&h0)∧True
theorem ok_turns2:FnOK Tryz.prog glN 198 c_turns2:=ok_of (.cons ok_wRuns .nil) false Tryz.call198 Tryz.func198 (fun _=> []) (V:=V_turns2) (fun _=>by kernel_rfl) fun ⟨i,x,W⟩ hp=>by
  dsimp only [s_turns2] at hp
  dsimp only [V_turns2,tn,w64]
  simp only [std,stb,eq_self,implies_true,Bool.cond_self]
  exact fun _=>hp
structure X_turns31 where
  (t:Int) (W:Wd) (i:Int)
def s_turns31:Sy.Spec:=⟨X_turns31,fun ⟨t,W,i⟩=> [.v (.int .i64 t),.pt true 1 (fun _=> .fn 197 1 (lsv [.pt true 1 (fun _=>wPT W)])),.pt true 1 (fun _=> .v (.int .i64 i))],fun _=> [],fun ⟨_,W,i⟩=>Szd W∧0≤i∧i≤100000,fun ⟨t,W,i⟩=> .v (.bool (!rdB W t (i/4) (i%4))),fun _=> [],
  fun args mem=>match args with| [a0,a1,a2]=>some ⟨intD (a0),wPTD (ptF (fnF (ptF a1 0) 0) 0),intD (ptF a2 0)⟩|_=>none⟩
def c_turns31:Con:=⟨[],s_turns31.g,none⟩
def V_turns31:X_turns31→Prop:=fun ⟨t,W,i⟩=>let a0:Int:=i/4;let b0:Int:=i%4;let c0:=W.nKinds;let d0:=W.nSlots;let e0:=W.nTasks;let g0:=W.nLines;let h0:=W.nCores;let k0:=W.nReady;let l0:=!rdB W t a0 b0;(0≤i∧(0:Int)<4∧w64 a0=a0)∧(0≤i∧(0:Int)<4)∧((t=t∧a0=a0∧b0=b0∧(True∧((((((((((True∧W.nRam=W.nRam∧(∀o0:Nat,o0<W.nRam→True∧W.ram o0=W.ram o0))∧c0=c0∧(∀q0:Nat,q0<c0→True∧W.kinds q0=W.kinds q0))∧d0=d0∧(∀u0:Nat,let v0:=W.slots u0;let w0:=v0.kind;let x0:=v0.base;let y0:=v0.len;let z0:=v0.mark;let a1:=v0.rights;let b1:=v0.badge;let c1:=v0.from_;u0<d0→((((((True∧w0=w0)∧x0=x0)∧y0=y0)∧z0=z0)∧a1=a1)∧b1=b1)∧c1=c1))∧e0=e0∧(∀d1:Nat,let e1:=W.tasks d1;let g1:=e1.prio;let h1:=e1.node;let k1:=e1.space;let l1:=e1.helper;let o1:=e1.loc;let q1:=e1.word;let u1:=e1.badge;let v1:=e1.owes;let w1:=e1.core;let x1:=e1.dom;d1<e0→(((((((((((((((((((True∧e1.r0=e1.r0)∧e1.r1=e1.r1)∧e1.r2=e1.r2)∧e1.r3=e1.r3)∧e1.r4=e1.r4)∧e1.r5=e1.r5)∧e1.r6=e1.r6)∧e1.r7=e1.r7)∧e1.pc=e1.pc)∧e1.st=e1.st)∧g1=g1)∧h1=h1)∧k1=k1)∧l1=l1)∧o1=o1)∧q1=q1)∧u1=u1)∧v1=v1)∧w1=w1)∧x1=x1))∧g0=g0∧(∀y1:Nat,let z1:=W.linesN y1;y1<g0→True∧z1=z1∧(∀a2:Nat,a2<z1→True∧W.lines y1 a2=W.lines y1 a2)))∧W.nBits=W.nBits∧(∀b2:Nat,b2<W.nBits→True∧W.bits b2=W.bits b2))∧h0=h0∧(∀c2:Nat,c2<h0→True∧W.cores c2=W.cores c2))∧k0=k0∧(∀d2:Nat,let e2:=W.readyN d2;d2<k0→True∧e2=e2∧(∀g2:Nat,g2<e2→True∧W.ready d2 g2=W.ready d2 g2)))∧W.nTlbs=W.nTlbs∧(∀h2:Nat,let k2:=W.tlbsN h2;h2<W.nTlbs→True∧k2=k2∧(∀l2:Nat,let o2:=W.tlbs h2 l2;let q2:=o2.sp;let u2:=o2.pg;let v2:=o2.fr;let w2:=o2.wr;l2<k2→(((True∧q2=q2)∧u2=u2)∧v2=v2)∧
    w2=w2)))∧W.nDoms=W.nDoms∧(∀x2:Nat,x2<W.nDoms→True∧W.doms x2=W.doms x2))∧W.time=W.time)∧True)∧True∧s_wRuns.match_1 (fun y2:X_wRuns=>Prop) (X_wRuns.mk t a0 b0 W) (fun z2:Int=>fun a3:Int=>fun b3:Int=>fun c3:Wd=>Szd c3))∧l0=l0∧True
theorem ok_turns31:FnOK Tryz.prog glN 201 c_turns31:=ok_of (.cons ok_wRuns .nil) false Tryz.call201 Tryz.func201 (fun _=> []) (V:=V_turns31) (fun _=>by kernel_rfl) fun ⟨t,W,i⟩ hp=>by
  dsimp only [s_turns31] at hp
  dsimp only [V_turns31,tn,w64]
  simp only [std,stb,eq_self,implies_true,Bool.cond_self]
  exact ⟨⟨hp.2.1,by decide,by rw [IntKind.wrap_i64];omega⟩,⟨hp.2.1,by decide⟩,hp.1⟩
structure X_idxR where
  (n:Nat) (l:Nat→Int) (W:Wd) (i:Int)
def s_idxR:Sy.Spec:=⟨X_idxR,fun ⟨n,l,W,i⟩=> [.sl true 1 n (fun i_ _=> .v (.int .i64 (l i_))),.fn 201 2 (lsv [.pt true 1 (fun _=> .fn 197 1 (lsv [.pt true 1 (fun _=>wPT W)])),.pt true 1 (fun _=> .v (.int .i64 i))])],fun _=> [],fun ⟨n,_,W,i⟩=>Szd W∧0≤i∧i≤100000∧n≤100000,fun ⟨n,l,W,i⟩=> .v (.int .i64 (idxB n fun k=>!rdB W (l k) (i/4) (i%4))),fun _=> [],
  fun args mem=>match args with| [a0,a1]=>some ⟨slN a0,fun i=>intD (slF a0 i 0),wPTD (ptF (fnF (ptF (fnF a1 0) 0) 0) 0),intD (ptF (fnF a1 1) 0)⟩|_=>none⟩
def c_idxR:Con:=⟨[],s_idxR.g,none⟩
def V_idxR:X_idxR→Prop:=fun ⟨n,l,W,i⟩=>let a0:=(n:Int);let b0:Int:=i/4;let c0:Int:=i%4;let d0:=W.nKinds;let e0:=W.nSlots;let g0:=W.nTasks;let h0:=W.nLines;let k0:=W.nCores;let l0:=W.nReady;let o0:=idxB n (fun q0:Nat=>!rdB W (l q0) b0 c0);a0≤9223372036854775807→0=((0:Nat):Int)∧True∧(0≤n∧(∀u0:Nat,u0<0→(!rdB W (l u0) b0 c0)=false))∧(∀v0:Nat,let w0:=(v0:Int);let x0:=decide (w0<a0);let y0:Int:=l (Int.toNat w0);let z0:=!rdB W y0 b0 c0;let a1:Int:=w0+1;v0≤n∧(∀b1:Nat,b1<v0→(!rdB W (l b1) b0 c0)=false)→(x0=true→(0≤w0∧w0<a0)∧((y0=y0∧tn 3 (((((((((((True∧W.nRam=W.nRam∧(∀c1:Nat,c1<W.nRam→True∧W.ram c1=W.ram c1))∧d0=d0∧(∀d1:Nat,d1<d0→True∧W.kinds d1=W.kinds d1))∧e0=e0∧(∀e1:Nat,let g1:=W.slots e1;let h1:=g1.kind;let k1:=g1.base;let l1:=g1.len;let o1:=g1.mark;let q1:=g1.rights;let u1:=g1.badge;let v1:=g1.from_;e1<e0→((((((True∧h1=h1)∧k1=k1)∧l1=l1)∧o1=o1)∧q1=q1)∧u1=u1)∧v1=v1))∧g0=g0∧(∀w1:Nat,let x1:=W.tasks w1;let y1:=x1.prio;let z1:=x1.node;let a2:=x1.space;let b2:=x1.helper;let c2:=x1.loc;let d2:=x1.word;let e2:=x1.badge;let g2:=x1.owes;let h2:=x1.core;let k2:=x1.dom;w1<g0→(((((((((((((((((((True∧x1.r0=x1.r0)∧x1.r1=x1.r1)∧x1.r2=x1.r2)∧x1.r3=x1.r3)∧x1.r4=x1.r4)∧x1.r5=x1.r5)∧x1.r6=x1.r6)∧x1.r7=x1.r7)∧x1.pc=x1.pc)∧x1.st=x1.st)∧y1=y1)∧z1=z1)∧a2=a2)∧b2=b2)∧c2=c2)∧d2=d2)∧e2=e2)∧g2=g2)∧h2=h2)∧k2=k2))∧h0=h0∧(∀l2:Nat,let o2:=W.linesN l2;l2<h0→True∧o2=o2∧(∀q2:Nat,q2<o2→True∧W.lines l2 q2=W.lines l2 q2)))∧W.nBits=W.nBits∧(∀u2:Nat,u2<W.nBits→True∧W.bits u2=W.bits u2))∧k0=k0∧(∀v2:Nat,v2<k0→True∧W.cores v2=W.cores v2))∧l0=l0∧(∀w2:Nat,
    let x2:=W.readyN w2;w2<l0→True∧x2=x2∧(∀y2:Nat,y2<x2→True∧W.ready w2 y2=W.ready w2 y2)))∧W.nTlbs=W.nTlbs∧(∀z2:Nat,let a3:=W.tlbsN z2;z2<W.nTlbs→True∧a3=a3∧(∀b3:Nat,let c3:=W.tlbs z2 b3;let d3:=c3.sp;let e3:=c3.pg;let g3:=c3.fr;let h3:=c3.wr;b3<a3→(((True∧d3=d3)∧e3=e3)∧g3=g3)∧h3=h3)))∧W.nDoms=W.nDoms∧(∀k3:Nat,k3<W.nDoms→True∧W.doms k3=W.doms k3))∧W.time=W.time)∧(True∧i=i)∧True)∧True∧Szd W∧0≤i∧i≤100000)∧(z0=true→w0=o0∧True)∧(z0=false→w64 a1=a1∧(∃l3:Nat,a1=(l3:Int)∧True∧(l3≤n∧(∀o3:Nat,o3<l3→(!rdB W (l o3) b0 c0)=false))∧n-l3<n-v0)))∧(x0=false→(-1)=o0∧True))
theorem ok_idxR:FnOK Tryz.prog glN 207 c_idxR:=ok_of (.cons ok_turns31 .nil) false Tryz.call207 Tryz.func207 (fun ⟨n,l,W,i⟩=> [.inv (an_rf W n l i)]) (V:=V_idxR) (fun _=>by kernel_rfl) fun ⟨n,l,W,i⟩ hp=>by
  dsimp only [s_idxR] at hp
  dsimp only [V_idxR,tn,w64]
  simp only [std,stb,eq_self,implies_true,Bool.cond_self]
  refine fun hn s hs=>⟨fun h=>?_,fun h=>?_⟩
  · have hlt:=lt_of_dec h
    exact ⟨by omega,⟨hp.1,hp.2.1,hp.2.2.1⟩,fun h=>(idxB_at (p:=fun k=>!rdB W (l k) (i/4) (i%4)) hs.2 h hlt).symm,fun h=>⟨by rw [IntKind.wrap_i64];omega,exS ⟨⟨by omega,snocF (p:=fun k=>!rdB W (l k) (i/4) (i%4)) hs.2 h⟩,by omega⟩⟩⟩
  · have hge:=ge_of_dec h
    obtain rfl:s=n:=by omega
    exact (idxB_none (p:=fun k=>!rdB W (l k) (i/4) (i%4)) hs.2).symm
structure X_cntR where
  (n:Nat) (l:Nat→Int) (W:Wd) (i:Int)
def s_cntR:Sy.Spec:=⟨X_cntR,fun ⟨n,l,W,i⟩=> [.sl true 1 n (fun i_ _=> .v (.int .i64 (l i_))),.fn 201 2 (lsv [.pt true 1 (fun _=> .fn 197 1 (lsv [.pt true 1 (fun _=>wPT W)])),.pt true 1 (fun _=> .v (.int .i64 i))])],fun _=> [],fun ⟨n,_,W,i⟩=>Szd W∧0≤i∧i≤100000∧n≤100000,fun ⟨n,l,W,i⟩=> .v (.bool (anyB n fun k=>!rdB W (l k) (i/4) (i%4))),fun _=> [],
  fun args mem=>match args with| [a0,a1]=>some ⟨slN a0,fun i=>intD (slF a0 i 0),wPTD (ptF (fnF (ptF (fnF a1 0) 0) 0) 0),intD (ptF (fnF a1 1) 0)⟩|_=>none⟩
def c_cntR:Con:=⟨[],s_cntR.g,none⟩
def V_cntR:X_cntR→Prop:=fun ⟨n,l,W,i⟩=>let a0:=W.nKinds;let b0:=W.nSlots;let c0:=W.nTasks;let d0:=W.nLines;let e0:=W.nCores;let g0:=W.nReady;(((n=n∧(∀h0:Nat,h0<n→True∧l h0=l h0))∧(tn 4 (((((((((((True∧W.nRam=W.nRam∧(∀k0:Nat,k0<W.nRam→True∧W.ram k0=W.ram k0))∧a0=a0∧(∀l0:Nat,l0<a0→True∧W.kinds l0=W.kinds l0))∧b0=b0∧(∀o0:Nat,let q0:=W.slots o0;let u0:=q0.kind;let v0:=q0.base;let w0:=q0.len;let x0:=q0.mark;let y0:=q0.rights;let z0:=q0.badge;let a1:=q0.from_;o0<b0→((((((True∧u0=u0)∧v0=v0)∧w0=w0)∧x0=x0)∧y0=y0)∧z0=z0)∧a1=a1))∧c0=c0∧(∀b1:Nat,let c1:=W.tasks b1;let d1:=c1.prio;let e1:=c1.node;let g1:=c1.space;let h1:=c1.helper;let k1:=c1.loc;let l1:=c1.word;let o1:=c1.badge;let q1:=c1.owes;let u1:=c1.core;let v1:=c1.dom;b1<c0→(((((((((((((((((((True∧c1.r0=c1.r0)∧c1.r1=c1.r1)∧c1.r2=c1.r2)∧c1.r3=c1.r3)∧c1.r4=c1.r4)∧c1.r5=c1.r5)∧c1.r6=c1.r6)∧c1.r7=c1.r7)∧c1.pc=c1.pc)∧c1.st=c1.st)∧d1=d1)∧e1=e1)∧g1=g1)∧h1=h1)∧k1=k1)∧l1=l1)∧o1=o1)∧q1=q1)∧u1=u1)∧v1=v1))∧d0=d0∧(∀w1:Nat,let x1:=W.linesN w1;w1<d0→True∧x1=x1∧(∀y1:Nat,y1<x1→True∧W.lines w1 y1=W.lines w1 y1)))∧W.nBits=W.nBits∧(∀z1:Nat,z1<W.nBits→True∧W.bits z1=W.bits z1))∧e0=e0∧(∀a2:Nat,a2<e0→True∧W.cores a2=W.cores a2))∧g0=g0∧(∀b2:Nat,let c2:=W.readyN b2;b2<g0→True∧c2=c2∧(∀d2:Nat,d2<c2→True∧W.ready b2 d2=W.ready b2 d2)))∧W.nTlbs=W.nTlbs∧(∀e2:Nat,let g2:=W.tlbsN e2;e2<W.nTlbs→True∧g2=g2∧(∀h2:Nat,let k2:=W.tlbs e2 h2;let l2:=k2.sp;let o2:=k2.pg;let q2:=k2.fr;let u2:=k2.wr;h2<g2→(((True∧l2=l2)∧o2=o2)∧q2=q2)∧u2=u2)))∧W.nDoms=W.nDoms∧(∀v2:Nat,v2<W.nDoms→True∧W.doms v2=W.doms v2))∧
    W.time=W.time)∧True∧i=i)∧True)∧True∧Szd W∧0≤i∧i≤100000∧n≤100000)∧decide (0≤idxB n (fun w2:Nat=>!rdB W (l w2) (i/4) (i%4)))=anyB n (fun x2:Nat=>!rdB W (l x2) (i/4) (i%4))∧True
theorem ok_cntR:FnOK Tryz.prog glN 200 c_cntR:=ok_of (.cons ok_idxR .nil) false Tryz.call200 Tryz.func200 (fun _=> []) (V:=V_cntR) (fun _=>by kernel_rfl) fun ⟨n,l,W,i⟩ hp=>by
  dsimp only [s_cntR] at hp
  dsimp only [V_cntR,tn,w64]
  simp only [std,stb,eq_self,implies_true,Bool.cond_self]
  refine ⟨hp,?_⟩
  cases hq:anyB n fun k=>!rdB W (l k) (i/4) (i%4) with
  |false=>rw [idxB_none (anyB_false.1 hq)];rfl
  |true=>
   obtain ⟨j,hj,h⟩:=anyB_iff.1 hq
   have:=fstB_lt (p:=fun k=>!rdB W (l k) (i/4) (i%4)) hj h
   unfold idxB
   rw [blt_t this]
   exact decide_eq_true (Int.natCast_nonneg _)
structure X_turns3 where
  (i:Int) (W:Wd)
def s_turns3:Sy.Spec:=⟨X_turns3,fun ⟨i,W⟩=> [.v (.int .i64 i),.sl true 1 (W.readyN i.toNat) (iF (W.ready i.toNat)),.pt true 1 (fun _=> .fn 197 1 (lsv [.pt true 1 (fun _=>wPT W)]))],fun _=> [],fun ⟨i,W⟩=>Szd W∧smB W∧0≤i∧i<W.nReady,fun ⟨i,W⟩=> .v (.bool (!rlB W i.toNat)),fun _=> [],
  fun args mem=>match args with| [a0,a1,a2]=>some ⟨intD (a0),wPTD (ptF (fnF (ptF a2 0) 0) 0)⟩|_=>none⟩
def c_turns3:Con:=⟨[],s_turns3.g,none⟩
def V_turns3:X_turns3→Prop:=fun ⟨i,W⟩=>let a0:=Int.toNat i;let b0:=W.readyN a0;let c0:=W.nKinds;let d0:=W.nSlots;let e0:=W.nTasks;let g0:=W.nLines;let h0:=W.nCores;let k0:=W.nReady;True∧(((b0=b0∧(∀l0:Nat,l0<b0→True∧W.ready a0 l0=W.ready a0 l0))∧(tn 4 (((((((((((True∧W.nRam=W.nRam∧(∀o0:Nat,o0<W.nRam→True∧W.ram o0=W.ram o0))∧c0=c0∧(∀q0:Nat,q0<c0→True∧W.kinds q0=W.kinds q0))∧d0=d0∧(∀u0:Nat,let v0:=W.slots u0;let w0:=v0.kind;let x0:=v0.base;let y0:=v0.len;let z0:=v0.mark;let a1:=v0.rights;let b1:=v0.badge;let c1:=v0.from_;u0<d0→((((((True∧w0=w0)∧x0=x0)∧y0=y0)∧z0=z0)∧a1=a1)∧b1=b1)∧c1=c1))∧e0=e0∧(∀d1:Nat,let e1:=W.tasks d1;let g1:=e1.prio;let h1:=e1.node;let k1:=e1.space;let l1:=e1.helper;let o1:=e1.loc;let q1:=e1.word;let u1:=e1.badge;let v1:=e1.owes;let w1:=e1.core;let x1:=e1.dom;d1<e0→(((((((((((((((((((True∧e1.r0=e1.r0)∧e1.r1=e1.r1)∧e1.r2=e1.r2)∧e1.r3=e1.r3)∧e1.r4=e1.r4)∧e1.r5=e1.r5)∧e1.r6=e1.r6)∧e1.r7=e1.r7)∧e1.pc=e1.pc)∧e1.st=e1.st)∧g1=g1)∧h1=h1)∧k1=k1)∧l1=l1)∧o1=o1)∧q1=q1)∧u1=u1)∧v1=v1)∧w1=w1)∧x1=x1))∧g0=g0∧(∀y1:Nat,let z1:=W.linesN y1;y1<g0→True∧z1=z1∧(∀a2:Nat,a2<z1→True∧W.lines y1 a2=W.lines y1 a2)))∧W.nBits=W.nBits∧(∀b2:Nat,b2<W.nBits→True∧W.bits b2=W.bits b2))∧h0=h0∧(∀c2:Nat,c2<h0→True∧W.cores c2=W.cores c2))∧k0=k0∧(∀d2:Nat,let e2:=W.readyN d2;d2<k0→True∧e2=e2∧(∀g2:Nat,g2<e2→True∧W.ready d2 g2=W.ready d2 g2)))∧W.nTlbs=W.nTlbs∧(∀h2:Nat,let k2:=W.tlbsN h2;h2<W.nTlbs→True∧k2=k2∧(∀l2:Nat,let o2:=W.tlbs h2 l2;let q2:=o2.sp;let u2:=o2.pg;let v2:=o2.fr;let w2:=o2.wr;l2<k2→(((True∧q2=q2)∧u2=u2)∧v2=v2)∧w2=w2)))∧
    W.nDoms=W.nDoms∧(∀x2:Nat,x2<W.nDoms→True∧W.doms x2=W.doms x2))∧W.time=W.time)∧True∧i=i)∧True)∧True∧Szd W∧0≤i∧i≤100000∧b0≤100000)∧anyB b0 (fun y2:Nat=>!rdB W (W.ready a0 y2) (i/4) (i%4))=(!rlB W a0)∧True
theorem ok_turns3:FnOK Tryz.prog glN 199 c_turns3:=ok_of (.cons ok_cntR .nil) false Tryz.call199 Tryz.func199 (fun _=> []) (V:=V_turns3) (fun _=>by kernel_rfl) fun ⟨i,W⟩ hp=>by
  dsimp only [s_turns3] at hp
  dsimp only [V_turns3,tn,w64]
  obtain ⟨hz,hm,i0,i1⟩:=hp
  obtain ⟨I,rfl⟩: ∃I:Nat,i=I:=⟨i.toNat,by omega⟩
  simp only [std,stb,eq_self,implies_true,Bool.cond_self]
  have hz1:=hz.ready
  have hz2:=hz.c1
  have:=hm.2.1 I (by omega)
  refine ⟨⟨hz,by omega,by omega⟩,?_⟩
  rw [show ((I:Int)/4)=((I/4:Nat):Int) by omega,show ((I:Int)%4)=((I%4:Nat):Int) by omega]
  unfold anyB rlB
  simp only [Bool.not_not]
structure X_maps1 where
  (i:Int) (W:Wd)
def s_maps1:Sy.Spec:=⟨X_maps1,fun ⟨i,W⟩=> [.v (.int .i64 i),.v (.int .i64 (W.ram i.toNat)),.pt true 1 (fun _=>wPT W)],fun _=> [],fun ⟨i,W⟩=>Szd W∧0≤i∧i<W.nRam∧isW (W.ram i.toNat),fun ⟨i,W⟩=> .v (.bool (!enB W i.toNat)),fun _=> [],
  fun args mem=>match args with| [a0,a1,a2]=>some ⟨intD (a0),wPTD (ptF a2 0)⟩|_=>none⟩
def c_maps1:Con:=⟨[],s_maps1.g,none⟩
def V_maps1:X_maps1→Prop:=fun ⟨i,W⟩=>let a0:Int:=i/16;let b0:=((W.nKinds:Nat):Int);let c0:=W.kinds (Int.toNat a0);let d0:=W.ram (Int.toNat i);let e0:=cond (cond (c0 !=3) (c0 !=4) false) true (d0==0);let g0:=!enB W (Int.toNat i);let h0:=c0==4;let k0:=bitsI BinOp.and IntKind.i64 d0 1023;let l0:=decide (b0≤k0);let o0:=cond (bitsI BinOp.andNot IntKind.i64 d0 1023 !=32768) true l0;let q0:=0≤k0∧k0<b0;let r0:=W.kinds (Int.toNat k0);let u0:=cond (bitsI BinOp.andNot IntKind.i64 d0 17407 !=32768) true l0;(0≤i∧(0:Int)<16∧w64 a0=a0)∧(0≤a0∧a0<b0)∧(e0=true→false=g0∧True)∧(e0=false→(h0=true→(o0=false→q0)∧cond o0 true (r0 !=3)=g0∧True)∧(h0=false→(u0=false→q0)∧cond u0 true (r0 !=2)=g0∧True))
theorem ok_maps1:FnOK Tryz.prog glN 202 c_maps1:=ok_of .nil false Tryz.call202 Tryz.func202 (fun _=> []) (V:=V_maps1) (fun _=>by kernel_rfl) fun ⟨i,W⟩ hp=>by
  dsimp only [s_maps1] at hp
  dsimp only [V_maps1,tn,w64]
  obtain ⟨hz,i0,i1,hw⟩:=hp
  obtain ⟨I,rfl⟩: ∃I:Nat,i=I:=⟨i.toNat,by omega⟩
  simp only [std,stb,eq_self,implies_true,Bool.cond_self]
  have e16:((I:Int)/16).toNat=I/16:=by omega
  rw [e16]
  rw [Int.toNat_natCast] at hw
  unfold isW at hw
  have hz1:=hz.ram
  have hz2:=hz.k1
  have hmk:bitsI .and .i64 (W.ram I) 1023=W.ram I%1024:=mask64 10 (x:=W.ram I) (by omega) (by decide)
  simp only [andNot1023 hw.1 hw.2,andNot17407 hw.1 hw.2,hmk]
  have hy:0≤W.ram I%1024:=by omega
  have eN:enB W I=(W.kinds (I/16) !=3&&W.kinds (I/16) !=4||W.ram I==0||(bif W.kinds (I/16)==4 then W.ram I -W.ram I%1024==32768&&kof W (W.ram I%1024)==3 else (W.ram I -W.ram I%1024==32768||W.ram I -W.ram I%1024==49152)&&kof W (W.ram I%1024)==2)):=by
    simp only [enB];rw [Bool.or_comm (W.ram I==0)]
  refine ⟨⟨by decide,by rw [IntKind.wrap_i64];omega⟩,by omega,fun h=>by rw [eN,h];rfl,fun h=>⟨fun h1=>⟨fun h2=>?_,?_⟩,fun h1=>⟨fun h2=>?_,?_⟩⟩⟩
  · simp only [Bool.or_eq_false_iff,decide_eq_false_iff_not] at h2;omega
  · rw [eN,h,h1,Bool.or_assoc,kofN0 hy (by decide)];simp only [bne,cond_true,Bool.false_or,Bool.not_and]
  · simp only [Bool.or_eq_false_iff,decide_eq_false_iff_not] at h2;omega
  · rw [eN,h,h1,Bool.or_assoc,kofN0 hy (by decide)]
    have ez:((W.ram I -W.ram I%1024 -(W.ram I -W.ram I%1024)/16384%2*16384) !=32768)=!(W.ram I -W.ram I%1024==32768||W.ram I -W.ram I%1024==49152):=by
      rw [bne];congr 1
      rw [Bool.eq_iff_iff]
      simp only [Bool.or_eq_true,beq_iff_eq]
      omega
    rw [ez];simp only [cond_false,Bool.false_or,Bool.not_and]
end Go.Proofs.YtdjilaofmdhikaaGreatDoor
set_option linter.unusedVariables false
set_option linter.unusedSimpArgs false
set_option maxRecDepth 100000
namespace Go.Proofs.YtdjilaofmdhikaaGreatDoor
open Go.RowKit Go.Sy
theorem anyB_fst (n:Nat) (p:Nat→Bool):Nat.blt (fstB n p) n=anyB n p:=by
  cases hq:anyB n p with
  |true=>obtain ⟨i,hi,h⟩:=anyB_iff.1 hq;exact blt_t (fstB_lt hi h)
  |false=>rw [fstB_none (anyB_false.1 hq)];exact blt_f (Nat.le_refl _)
theorem tlB_false {W:Wd} {n i:Nat} {l:Nat→Ent4} (hi:i<n) (h:tlT W l i=false):tlB W n l=false:=by
  unfold tlB;rw [allB_false (p:=fun i=>tlT W l i) hi h];cases decide (n≤4)<;>rfl
structure X_maps2 where
  (i:Int) (W:Wd)
def s_maps2:Sy.Spec:=⟨X_maps2,fun ⟨i,W⟩=> [.v (.int .i64 i),.sl true 4 (W.tlbsN i.toNat) (rF fun k=>enL (W.tlbs i.toNat k)),.pt true 1 (fun _=>wPT W)],fun _=> [],fun ⟨i,W⟩=>Szd W∧W.tlbsN i.toNat≤1000∧ ∀k,k<W.nRam→isW (W.ram k),fun ⟨i,W⟩=> .v (.bool (!tlB W (W.tlbsN i.toNat) (W.tlbs i.toNat))),fun _=> [],
  fun args mem=>match args with| [a0,a1,a2]=>some ⟨intD (a0),wPTD (ptF a2 0)⟩|_=>none⟩
def c_maps2:Con:=⟨[],s_maps2.g,none⟩
def V_maps2:X_maps2→Prop:=fun ⟨i,W⟩=>let a0:=Int.toNat i;let b0:=W.tlbsN a0;let c0:=(b0:Int);let d0:=c0≤9223372036854775807;let e0:=W.tlbs a0;let g0:=tn 3 True;let h0:=((W.nKinds:Nat):Int);let k0:=!tlB W b0 e0;let l0:=true=k0∧True;let o0:=W.nRam;let q0:=W.ram;let r0:=Int.toNat 0;d0→0=((0:Nat):Int)∧True∧(0≤b0∧(∀u0:Nat,u0<0→tlT W e0 u0=true))∧(∀v0:Nat,let w0:=(v0:Int);let x0:=decide (w0<c0);let y0:=e0 (Int.toNat w0);let z0:=y0.sp;let a1:=cond (decide (z0<0)) true (decide (h0≤z0));let b1:=y0.pg;let c1:=cond (cond (cond a1 true (W.kinds (Int.toNat z0) !=4)) true (decide (b1<0))) true (decide (255<b1));let d1:Int:=16*b1;let e1:=z0=z0;let g1:=cond (cond (wkE o0 q0 z0 d1 !=0) true (wkF o0 q0 z0 d1 !=y0.fr)) true (wkW o0 q0 z0 d1 !=y0.wr);let h1:=Int.toNat w0-r0;let k1:=fdO h1 (fun l1:Nat=>e0 (r0+l1)) z0 b1;let o1:Int:=w0+1;v0≤b0∧(∀q1:Nat,q1<v0→tlT W e0 q1=true)→(x0=true→(0≤w0∧w0<c0)∧True∧g0∧tn 22 ((a1=false→0≤z0∧z0<h0)∧(c1=true→l0)∧(c1=false→tn 9 (w64 d1=d1∧(((o0=o0∧(∀r1:Nat,r1<o0→True∧q0 r1=q0 r1))∧e1∧d1=d1∧True)∧True∧(∀u1:Nat,u1<o0→0≤q0 u1∧q0 u1≤65535))∧tn 5 ((g1=true→l0)∧(g1=false→tn 2 (((0:Int)≤0∧0≤w0∧w0≤c0)∧tn 4 ((((h1=h1∧(∀v1:Nat,let w1:=e0 (r0+v1);v1<h1→(((True∧w1.sp=w1.sp)∧w1.pg=w1.pg)∧w1.fr=w1.fr)∧w1.wr=w1.wr))∧e1∧b1=b1∧True)∧True∧True)∧tn 4 (g0∧(k1=true→l0)∧(k1=false→w64 o1=o1∧(∃x1:Nat,o1=(x1:Int)∧True∧(x1≤b0∧(∀y1:Nat,y1<x1→tlT W e0 y1=true))∧b0-x1<b0-v0)))))))))))∧(x0=false→d0→decide (4<c0)=k0∧True))
theorem ok_maps2:FnOK Tryz.prog glN 204 c_maps2:=ok_of (.cons ok_walk (.cons ok_find .nil)) false Tryz.call204 Tryz.func204 (fun ⟨i,W⟩=> [.inv (an_m2 W (W.tlbsN i.toNat) (W.tlbs i.toNat))]) (V:=V_maps2) (fun _=>by kernel_rfl) fun ⟨i,W⟩ hp=>by
  dsimp only [s_maps2] at hp
  dsimp only [V_maps2,tn,w64]
  obtain ⟨hz,hn,hw⟩:=hp
  obtain ⟨l,hl⟩: ∃l,l=W.tlbs i.toNat:=⟨_,rfl⟩
  obtain ⟨n,hnn⟩: ∃n,n=W.tlbsN i.toNat:=⟨_,rfl⟩
  simp only [std,stb,eq_self,implies_true,Bool.cond_self]
  simp only [←hl,←hnn] at hn⊢
  have wr: ∀z:Int,-100000≤z→z≤100000→IntKind.i64.wrap z=z:=fun z h1 h2=>by rw [IntKind.wrap_i64];omega
  refine fun _ s hs=>⟨fun h=>?_,fun h _=>?_⟩
  · have hlt:=lt_of_dec h
    have eA:(decide ((l s).sp<0)||decide ((W.nKinds:Int)≤(l s).sp)||W.kinds (l s).sp.toNat !=4||decide ((l s).pg<0)||decide (255<(l s).pg))=(!(kof W (l s).sp==4)||farB (l s).pg 255):=by
      rw [kofN (by decide),Bool.or_assoc];rfl
    have eF:fdO (s -Int.toNat 0) (fun a=>l (Int.toNat 0+a)) (l s).sp (l s).pg=anyB s (fun k=>(l k).sp==(l s).sp&&(l k).pg==(l s).pg):=by
      unfold fdO;rw [anyB_fst];simp only [Int.toNat_zero,Nat.sub_zero,Nat.zero_add];rfl
    rw [eA,eF]
    refine ⟨by omega,fun h1=>?_,fun h1=>?_,fun h1=>?_⟩
    · simp only [Bool.or_eq_false_iff,decide_eq_false_iff_not] at h1;omega
    · rw [tlB_false hlt (by revert h1;unfold tlT;cases kof W (l s).sp==4<;>cases farB (l s).pg 255<;>simp)];rfl
    have hf:farB (l s).pg 255=false:=by rw [Bool.or_eq_false_iff] at h1;exact h1.2
    have hpg:0≤(l s).pg∧(l s).pg≤255:=by simp [farB] at hf;omega
    refine ⟨wr _ (by omega) (by omega),hw,fun h2=>?_,fun h2=>⟨⟨by decide,by omega⟩,fun h3=>?_,fun h3=>⟨wr _ (by omega) (by omega),exS ⟨⟨by omega,snocB hs.2 ?_⟩,by omega⟩⟩⟩⟩
    · rw [tlB_false hlt (by revert h2;simp only [bne];unfold tlT;cases wkE W.nRam W.ram (l s).sp (16*(l s).pg)==0<;>cases wkF W.nRam W.ram (l s).sp (16*(l s).pg)==(l s).fr<;>cases wkW W.nRam W.ram (l s).sp (16*(l s).pg)==(l s).wr<;>simp)];rfl
    · rw [tlB_false hlt (by unfold tlT;rw [h3];simp)];rfl
    · revert h1 h2
      simp only [bne];unfold tlT
      rw [h3]
      cases kof W (l s).sp==4<;>cases farB (l s).pg 255<;>cases wkE W.nRam W.ram (l s).sp (16*(l s).pg)==0<;>cases wkF W.nRam W.ram (l s).sp (16*(l s).pg)==(l s).fr<;>cases wkW W.nRam W.ram (l s).sp (16*(l s).pg)==(l s).wr<;>simp
  · have hge:=ge_of_dec h
    unfold tlB
    rw [allB_all fun j hj=>hs.2 j (by omega),Bool.and_true,←decide_not]
    exact decide_eq_decide.2 (by omega)
end Go.Proofs.YtdjilaofmdhikaaGreatDoor
set_option linter.unusedVariables false
set_option linter.unusedSimpArgs false
set_option maxRecDepth 100000
namespace Go.Proofs.YtdjilaofmdhikaaGreatDoor
open Go.RowKit Go.Sy
def an_t1 (W:Wd) (f:Nat):Ann where
  σ:=Nat
  rt:= [(4,0),(37,1)]
  sh i:= [(4,pt0 0),(37,.slc 1 0 none 0 11),(39,.v (.int .i64 i))]
  mh _:= []
  inv i:=i≤11∧ ∀j,j<i→farB (sel [(W.tasks f).r0,(W.tasks f).r1,(W.tasks f).r2,(W.tasks f).r3,(W.tasks f).r4,(W.tasks f).r5,(W.tasks f).r6,(W.tasks f).r7,(W.tasks f).pc,(W.tasks f).word,(W.tasks f).badge] j) 65535=false
  μ i:=11 -i
  init:=0
def an_t2 (W:Wd) (f:Nat):Ann where
  σ:=Nat
  rt:= [(4,0)]
  sh i:= [(4,pt0 0),(126,.v (.int .i64 i)),(8,.v (.int .i64 (cntB i fun k=>(W.tasks k).owes==f:Nat)))]
  mh _:= []
  inv i:=i≤W.nTasks
  μ i:=W.nTasks -i
  init:=0
structure Bo2 where
  b:Bool
def cut_t25 (W:Wd) (f:Nat):Cut where
  σ:=Bo2
  rt:= [(4,0)]
  sh s:= [(4,pt0 0),(11,.v (.int .i64 (stands W f:Nat))),(12,.v (.int .i64 (turnsN W f:Nat))),(13,.v (.int .i64 0)),(14,.v (.int .i64 0)),(171,.v (.int .i64 (W.tasks f).st)),(172,.v (.bool s.b))]
  mem _:= [.cells (runL (W.tasks f))]
  inv s:=s.b=((W.tasks f).st==2||(W.tasks f).st==3||(W.tasks f).st==4||(W.tasks f).st==6)
  dec fr _:=⟨boolD (fr 172)⟩
theorem castN0 (a:Nat):(((a:Nat):Int) !=0)=!(a==0):=by rw [bne,castE0]
theorem castN1 (a:Nat):(((a:Nat):Int) !=1)=!(a==1):=by rw [bne,castE1]
theorem locN {W:Wd} {f k:Int} (hk:k≠ -1):(decide (f<0)||!okF W f k)=!(kof W f==k):=by
  unfold okF
  rcases Int.lt_or_le f 0 with h|h
  · rw [decide_eq_true h,kof_out (.inl h),show ((-1:Int)==k)=false from beq_eq_false_iff_ne.2 fun e=>hk e.symm];rfl
  · rw [decide_eq_false (show¬f<0 by omega),show (f== -1)=false from beq_eq_false_iff_ne.2 (by omega)];rfl
theorem owed_ne {W:Wd} {f c:Nat} (hc:owed W f=c):(decide (1<(c:Int))||(((c:Int)==1) !=((W.tasks f).st==5)))=!owedOK W f:=by
  unfold owedOK
  rw [hc,castE1]
  rcases Nat.lt_or_ge 1 c with h|h
  · rw [decide_eq_true (show (1:Int)<c by omega),decide_eq_false (show¬c≤1 by omega)];rfl
  · rw [decide_eq_false (show¬(1:Int)<c by omega),decide_eq_true (show c≤1 by omega)]
    cases c==1<;>cases (W.tasks f).st==5<;>rfl
theorem sel11 {t:Run} {s:Nat}:(bif s.blt 8 then [t.r0,t.r1,t.r2,t.r3,t.r4,t.r5,t.r6,t.r7].getD s 0 else [t.pc,t.word,t.badge].getD (s -8) 0)= [t.r0,t.r1,t.r2,t.r3,t.r4,t.r5,t.r6,t.r7,t.pc,t.word,t.badge].getD s 0:=by
  rcases Nat.lt_or_ge s 8 with h|h
  · rw [blt_t h]
    have:s=0∨s=1∨s=2∨s=3∨s=4∨s=5∨s=6∨s=7:=by omega
    rcases this with rfl|rfl|rfl|rfl|rfl|rfl|rfl|rfl<;>rfl
  · rw [blt_f h]
    obtain ⟨k,rfl⟩: ∃k,s=8+k:=⟨s -8,by omega⟩
    rw [show 8+k -8=k by omega,Nat.add_comm];rfl
theorem all11 {W:Wd} {f:Nat} (h: ∀j,j<11→farB (sel [(W.tasks f).r0,(W.tasks f).r1,(W.tasks f).r2,(W.tasks f).r3,(W.tasks f).r4,(W.tasks f).r5,(W.tasks f).r6,(W.tasks f).r7,(W.tasks f).pc,(W.tasks f).word,(W.tasks f).badge] j) 65535=false):regFar (W.tasks f)=false∧farB (W.tasks f).pc 65535=false∧farB (W.tasks f).word 65535=false∧farB (W.tasks f).badge 65535=false:=by
  refine ⟨reg_of fun j hj=>?_,h 8 (by omega),h 9 (by omega),h 10 (by omega)⟩
  have:=h j (by omega)
  have hj':j=0∨j=1∨j=2∨j=3∨j=4∨j=5∨j=6∨j=7:=by omega
  rcases hj' with rfl|rfl|rfl|rfl|rfl|rfl|rfl|rfl<;>exact this
theorem not11 {W:Wd} {f s:Nat} (hs:s<11) (h:farB ([(W.tasks f).r0,(W.tasks f).r1,(W.tasks f).r2,(W.tasks f).r3,(W.tasks f).r4,(W.tasks f).r5,(W.tasks f).r6,(W.tasks f).r7,(W.tasks f).pc,(W.tasks f).word,(W.tasks f).badge].getD s 0) 65535=true):(!regFar (W.tasks f)&&!numFar W (W.tasks f))=false:=by
  cases h1:regFar (W.tasks f) with
  |true=>rfl
  |false=>
   cases h2:numFar W (W.tasks f) with
   |true=>rfl
   |false=>
    exfalso
    have hr:=reg_to h1
    unfold numFar at h2
    simp only [Bool.or_eq_false_iff] at h2
    have:s<8∨s=8∨s=9∨s=10:=by omega
    rcases this with h3|rfl|rfl|rfl
    · have h4:=hr s h3
      have hj':s=0∨s=1∨s=2∨s=3∨s=4∨s=5∨s=6∨s=7:=by omega
      rcases hj' with rfl|rfl|rfl|rfl|rfl|rfl|rfl|rfl<;>exact Bool.false_ne_true (h4.symm.trans h)
    · exact Bool.false_ne_true (h2.1.1.1.1.1.1.symm.trans h)
    · exact Bool.false_ne_true (h2.1.1.1.1.1.2.symm.trans h)
    · exact Bool.false_ne_true (h2.1.1.1.1.2.symm.trans h)
structure X_wBlankF where
  (unit_:Unit)
def s_wBlankF:Sy.Spec:=⟨X_wBlankF,fun _=> [],fun _=> [],fun _=>True,fun _=> .ag 20 (lsv (runL Run.blank)),fun _=> [],
  fun args mem=>match args with| []=>some ⟨()⟩|_=>none⟩
def c_wBlankF:Con:=⟨[],s_wBlankF.g,none⟩
def V_wBlankF:X_wBlankF→Prop:=fun _=>let a0:=(0:Int)=0;let b0:=((-1):Int)=(-1);True∧tn 19 True∧((((((((((((((((((((True∧a0)∧a0)∧a0)∧a0)∧a0)∧a0)∧a0)∧a0)∧a0)∧a0)∧a0)∧b0)∧b0)∧b0)∧b0)∧a0)∧a0)∧b0)∧a0)∧a0)∧True
theorem ok_wBlankF:FnOK Tryz.prog glN 191 c_wBlankF:=ok_of .nil false Tryz.call191 Tryz.func191 (fun _=> []) (V:=V_wBlankF) (fun _=>by kernel_rfl) fun _ hp=>by
  dsimp only [V_wBlankF,tn,w64]
  simp only [std,eq_self,implies_true,Bool.cond_self]
structure X_frames1 where
  (i k:Int) (nc:Nat) (cl:Nat→Int) (nk:Nat) (ky:Nat→Int) (nu:Nat) (us:Nat→Bool)
def s_frames1:Sy.Spec:=⟨X_frames1,fun ⟨i,k,nc,cl,nk,ky,nu,us⟩=> [.v (.int .i64 i),.v (.int .i64 k),.pt true 1 (fun _=> .sl true 1 nc (iF cl)),.pt true 1 (fun _=> .sl true 1 nk (iF ky)),.pt true 1 (fun _=> .sl true 1 nu (fun i _=> .v (.bool (us i))))],fun _=> [],fun ⟨i,_,nc,_,nk,_,nu,_⟩=>0≤i∧i<nc∧i<nk∧i<nu,fun ⟨i,k,_,cl,_,ky,_,us⟩=> .v (.bool (decide (1<cl i.toNat)||(k !=0&&(ky i.toNat==0||(cl i.toNat==1&&!us i.toNat))))),fun _=> [],
  fun args mem=>match args with| [a0,a1,a2,a3,a4]=>some ⟨intD (a0),intD (a1),slN (ptF a2 0),fun i=>intD (slF (ptF a2 0) i 0),slN (ptF a3 0),fun i=>intD (slF (ptF a3 0) i 0),slN (ptF a4 0),fun i=>boolD (slF (ptF a4 0) i 0)⟩|_=>none⟩
def c_frames1:Con:=⟨[],s_frames1.g,none⟩
def V_frames1:X_frames1→Prop:=fun ⟨i,k,nc,cl,nk,ky,nu,us⟩=>let a0:=0≤i∧i<(nc:Int);let b0:=(k !=0)=true;let c0:=decide (1<cl (Int.toNat i));let d0:=c0=false;let e0:=ky (Int.toNat i)==0;let g0:=e0=false;let h0:=cl (Int.toNat i)==1;let k0:=!us (Int.toNat i);a0∧(b0→d0→0≤i∧i<(nk:Int))∧(g0→b0→d0→a0)∧(h0=true→g0→b0→d0→0≤i∧i<(nu:Int))∧cond c0 true (cond (k !=0) (cond e0 true (cond h0 k0 false)) false)=(c0||k !=0&&(e0||h0&&k0))∧True
theorem ok_frames1:FnOK Tryz.prog glN 188 c_frames1:=ok_of .nil false Tryz.call188 Tryz.func188 (fun _=> []) (V:=V_frames1) (fun _=>by kernel_rfl) fun ⟨i,k,nc,cl,nk,ky,nu,us⟩ hp=>by
  dsimp only [s_frames1] at hp
  dsimp only [V_frames1,tn,w64]
  simp only [std,stb,eq_self,implies_true,Bool.cond_self]
  refine ⟨?_,fun _ _=>?_,fun _ _ _=>?_,fun _ _ _ _=>?_⟩<;>omega
structure X_tasks1 where
  (i:Int) (W:Wd)
def s_tasks1:Sy.Spec:=⟨X_tasks1,fun ⟨i,W⟩=> [.v (.int .i64 i),.ag 20 (lsv (runL (W.tasks i.toNat))),.pt true 1 (fun _=>wPT W)],fun _=> [],fun ⟨i,W⟩=>Szd W∧smB W∧0≤i∧i<W.nKinds,fun ⟨i,W⟩=> .v (.bool (!tkB W i.toNat)),fun _=> [],
  fun args mem=>match args with| [a0,a1,a2]=>some ⟨intD (a0),wPTD (ptF a2 0)⟩|_=>none⟩
def c_tasks1:Con:=⟨[],s_tasks1.g,none⟩
def V_tasks1:X_tasks1→Prop:=fun ⟨i,W⟩=>let a0:=W.nKinds;let b0:=Int.toNat i;let c0:=W.kinds b0 !=6;let d0:=True∧True;let e0:=True∧d0;let g0:=W.tasks b0;let h0:=g0.r0;let k0:=g0.r1;let l0:=g0.r2;let o0:=g0.r3;let q0:=g0.r4;let u0:=g0.r5;let v0:=g0.r6;let w0:=g0.r7;let x0:=g0.pc;let y0:=g0.st;let z0:=g0.prio;let a1:=g0.node;let b1:=g0.space;let c1:=g0.helper;let d1:=g0.loc;let e1:=g0.word;let g1:=g0.badge;let h1:=g0.owes;let k1:=g0.core;let l1:=g0.dom;let o1:=!tkB W b0;let q1:=((11:Nat):Int);let u1:=SV.ptr 0 0 none 0 0=SV.ptr 0 0 none 0 0;let v1:=y0=y0;let w1:=z0=z0;let x1:=a1=a1;let y1:=b1=b1;let z1:=c1=c1;let a2:=d1=d1;let b2:=h1=h1;let c2:=k1=k1;let d2:=l1=l1;let e2:=(((((((((((((((((((True∧h0=h0)∧k0=k0)∧l0=l0)∧o0=o0)∧q0=q0)∧u0=u0)∧v0=v0)∧w0=w0)∧x0=x0)∧v1)∧w1)∧x1)∧y1)∧z1)∧a2)∧e1=e1)∧g1=g1)∧b2)∧c2)∧d2;let g2:=[h0,k0,l0,o0,q0,u0,v0,w0];let h2:=[x0,e1,g1];let k2:=e2∧(8+3=8+3∧(∀l2:Nat,let o2:Int:=cond (Nat.blt l2 8) (List.getD g2 l2 0) (List.getD h2 (0+(l2-8)) 0);l2<8+3→True∧o2=o2))∧True;let q2:=(h0::k0::l0::o0::q0::u0::v0::w0::h2);let u2:=true=o1∧True;let v2:=(6:Int)=6∧True;let w2:=farB y0 6;let x2:=(3:Int)=3∧True;let y2:=cond w2 true (farB z0 3);let z2:=y2=false;let a3:=W.nCores;let b3:Int:=(a3:Int)-1;let c3:=cond y2 true (farB k1 b3);let d3:=cond c3 true (farB l1 3);let e3:=W.nSlots;let g3:=W.nTasks;let h3:=W.nLines;let k3:=h3=h3∧(∀l3:Nat,let o3:=W.linesN l3;l3<h3→True∧o3=o3∧(∀q3:Nat,q3<o3→True∧W.lines l3 q3=W.lines l3 q3));let u3:=a3=a3∧(∀v3:Nat,v3<a3→True∧W.cores v3=W.cores v3);let w3:=W.nReady;
    let x3:=w3=w3∧(∀y3:Nat,let z3:=W.readyN y3;y3<w3→True∧z3=z3∧(∀a4:Nat,a4<z3→True∧W.ready y3 a4=W.ready y3 a4));let b4:=((((((((((True∧W.nRam=W.nRam∧(∀c4:Nat,c4<W.nRam→True∧W.ram c4=W.ram c4))∧a0=a0∧(∀d4:Nat,d4<a0→True∧W.kinds d4=W.kinds d4))∧e3=e3∧(∀e4:Nat,let g4:=W.slots e4;let h4:=g4.kind;let k4:=g4.base;let l4:=g4.len;let o4:=g4.mark;let q4:=g4.rights;let u4:=g4.badge;let v4:=g4.from_;e4<e3→((((((True∧h4=h4)∧k4=k4)∧l4=l4)∧o4=o4)∧q4=q4)∧u4=u4)∧v4=v4))∧g3=g3∧(∀w4:Nat,let x4:=W.tasks w4;let y4:=x4.prio;let z4:=x4.node;let a5:=x4.space;let b5:=x4.helper;let c5:=x4.loc;let d5:=x4.word;let e5:=x4.badge;let g5:=x4.owes;let h5:=x4.core;let k5:=x4.dom;w4<g3→(((((((((((((((((((True∧x4.r0=x4.r0)∧x4.r1=x4.r1)∧x4.r2=x4.r2)∧x4.r3=x4.r3)∧x4.r4=x4.r4)∧x4.r5=x4.r5)∧x4.r6=x4.r6)∧x4.r7=x4.r7)∧x4.pc=x4.pc)∧x4.st=x4.st)∧y4=y4)∧z4=z4)∧a5=a5)∧b5=b5)∧c5=c5)∧d5=d5)∧e5=e5)∧g5=g5)∧h5=h5)∧k5=k5))∧k3)∧W.nBits=W.nBits∧(∀l5:Nat,l5<W.nBits→True∧W.bits l5=W.bits l5))∧u3)∧x3)∧W.nTlbs=W.nTlbs∧(∀o5:Nat,let q5:=W.tlbsN o5;o5<W.nTlbs→True∧q5=q5∧(∀u5:Nat,let v5:=W.tlbs o5 u5;let w5:=v5.sp;let x5:=v5.pg;let y5:=v5.fr;let z5:=v5.wr;u5<q5→(((True∧w5=w5)∧x5=x5)∧y5=y5)∧z5=z5)))∧W.nDoms=W.nDoms∧(∀a6:Nat,a6<W.nDoms→True∧W.doms a6=W.doms a6))∧W.time=W.time;let b6:=cond d3 true (!okF W a1 5);let c6:=cond b6 true (!okF W b1 4);let d6:=(7:Int)=7∧True;let e6:=True∧((7:Int)=(-1)→False);let g6:=cond c6 true (!okF W c1 7);let h6:=cond g6 true (!okF W h1 6);let k6:=decide (0≤h1);let l6:=(g3:Int);let o6:=y0==4;
    let q6:=cond k6 (cond ((W.tasks (Int.toNat h1)).st !=5) true o6) false;let u6:=(b0:Int);let v6:=e2∧True;let w6:=y0==5;let x6:=i=i∧True;let y6:Int:=((cntLL w3 W.readyN W.ready i:Nat):Int)+((cntLL 1 (fun z6:Nat=>a3) (fun a7:Nat=>W.cores) i:Nat):Int);let b7:=y0==2;let c7:=((stands W b0:Nat):Int);let d7:=((cntLL h3 W.linesN W.lines i:Nat):Int)=c7;let e7:=((turnsN W b0:Nat):Int);let g7:=y6=e7;let h7:=(0:Int)=0;let k7:=y0==3;let l7:=y0==6;let o7:=b7||k7||o6||l7;let q7:=decide (d1<0);let u7:=q7=false;let v7:=cond q7 true (!okF W d1 8);let w7:=v7=false;let x7:=0≤d1∧d1<(h3:Int);let y7:=Int.toNat d1;let z7:=W.linesN y7;let a8:=W.lines y7;let b8:=((z7=z7∧(∀c8:Nat,c8<z7→True∧a8 c8=a8 c8))∧x6)∧True∧s_containsI.match_1 (fun d8:X_containsI=>Prop) (X_containsI.mk z7 a8 i) (fun e8:Nat=>fun g8:∀h8:Nat,Int=>fun k8:Int=>e8≤100000);let l8:=!inB' z7 a8 i;let o8:=cond v7 true l8;let q8:=d1 !=(-1);let r8:=e7 !=0;let u8:=cond (cond (cond ((1:Int)==0) q8 false) true (c7 !=1)) true r8=o1∧True;let v8:=cond q7 true (!okF W d1 7);let w8:=v8=false;let x8:=cond v8 true l8;let y8:=y0==1;let z8:=cond (cond ((0:Int)==0) q8 false) true (c7 !=0);True∧(0≤i∧i<(a0:Int))∧(c0=true→True∧e0∧(!(h0==0&&(k0==0&&(l0==0&&(o0==0&&(q0==0&&(u0==0&&(v0==0&&(w0==0&&true)))))))&&(x0==0&&(y0==0&&(z0==0&&(a1==(-1)&&(b1==(-1)&&(c1==(-1)&&(d1==(-1)&&(e1==0&&(g1==0&&(h1==(-1)&&(k1==0&&(l1==0&&true))))))))))))))=o1∧True)∧(c0=false→tn 10 (((8+3)*8≤140737488355328∧(∀a9:Nat,true=true))∧(q1≤9223372036854775807→u1∧(0=0∧11=11)∧
    0=((0:Nat):Int)∧k2∧(0≤11∧(∀b9:Nat,b9<0→farB (List.getD q2 b9 0) 65535=false))∧(∀c9:Nat,let d9:=(c9:Int);let e9:=decide (d9<q1);let g9:=0+Int.toNat d9;let h9:Int:=cond (Nat.blt g9 8) (List.getD g2 g9 0) (List.getD h2 (0+(g9-8)) 0);let k9:=farB h9 65535;let l9:Int:=d9+1;c9≤11∧(∀o9:Nat,o9<c9→farB (List.getD q2 o9 0) 65535=false)→(e9=true→(0≤d9∧d9<q1)∧((h9=h9∧(65535:Int)=65535∧True)∧d0)∧(k9=true→u2)∧(k9=false→w64 l9=l9∧(∃q9:Nat,u1∧(0=0∧11=11)∧l9=(q9:Int)∧k2∧(q9≤11∧(∀r9:Nat,r9<q9→farB (List.getD q2 r9 0) 65535=false))∧11-q9<11-c9)))∧(e9=false→tn 2 (((v1∧v2)∧d0)∧tn 3 ((w2=false→(w1∧x2)∧d0)∧tn 10 ((z2→w64 b3=b3)∧(z2→(c2∧b3=b3∧True)∧d0)∧tn 4 ((c3=false→(d2∧x2)∧d0)∧tn 5 ((d3=false→(b4∧x1∧(5:Int)=5∧True)∧True∧((5:Int)=(-1)→False))∧tn 6 ((b6=false→(b4∧y1∧(4:Int)=4∧True)∧True∧((4:Int)=(-1)→False))∧tn 6 ((c6=false→(b4∧z1∧d6)∧e6)∧tn 6 ((g6=false→(b4∧b2∧v2)∧True∧((6:Int)=(-1)→False))∧(h6=true→u2)∧(h6=false→tn 11 ((k6=true→0≤h1∧h1<l6)∧(q6=true→u2)∧(q6=false→l6≤9223372036854775807→u1∧0=((0:Nat):Int)∧0=((cntB 0 (fun u9:Nat=>(W.tasks u9).owes==u6):Nat):Int)∧v6∧0≤g3∧(∀v9:Nat,let w9:=(v9:Int);let x9:=decide (w9<l6);let y9:=(W.tasks (Int.toNat w9)).owes==i;let z9:=((cntB v9 (fun a10:Nat=>(W.tasks a10).owes==u6):Nat):Int);let b10:Int:=z9+1;let c10:Int:=w9+1;let d10:=w64 c10=c10;let e10:=cond (decide (1<z9)) true ((z9==1) !=w6);v9≤g3→(x9=true→(0≤w9∧w9<l6)∧True∧tn 17 e0∧(y9=true→w64 b10=b10∧d10∧(∃g10:Nat,u1∧c10=(g10:Int)∧b10=((cntB g10 (fun h10:Nat=>(W.tasks h10).owes==u6):Nat):Int)∧v6∧g10≤g3∧
    g3-g10<g3-v9))∧(y9=false→d10∧(∃k10:Nat,u1∧c10=(k10:Int)∧z9=((cntB k10 (fun l10:Nat=>(W.tasks l10).owes==u6):Nat):Int)∧v6∧k10≤g3∧g3-k10<g3-v9)))∧(x9=false→(e10=true→u2)∧(e10=false→tn 6 (((k3∧x6)∧True∧h3≤1000∧(∀o10:Nat,o10<h3→W.linesN o10≤1000))∧tn 6 (((x3∧x6)∧True∧w3≤1000∧(∀q10:Nat,q10<w3→W.readyN q10≤1000))∧tn 7 ((((1=1∧(∀r10:Nat,r10<1→True∧u3))∧x6)∧True∧1≤1000∧(∀u10:Nat,u10<1→a3≤1000))∧w64 y6=y6∧True∧((b7=true→u1∧d7∧g7∧h7∧h7∧v1∧b7=b7∧v6∧b7=o7)∧(b7=false→(k7=true→u1∧d7∧g7∧h7∧h7∧v1∧k7=k7∧v6∧k7=o7)∧(k7=false→(o6=true→u1∧d7∧g7∧h7∧h7∧v1∧o6=o6∧v6∧o6=o7)∧(o6=false→u1∧d7∧g7∧h7∧h7∧v1∧l7=l7∧v6∧l7=o7))))∧(∀v10:Bo2,v10.b=o7→(v10.b=true→(l7=true→tn 8 ((u7→(b4∧a2∧(8:Int)=8∧True)∧True∧((8:Int)=(-1)→False))∧tn 10 ((w7→x7)∧tn 2 ((w7→b8)∧(o8=true→u2)∧(o8=false→u8)))))∧(l7=false→tn 8 ((u7→(b4∧a2∧d6)∧e6)∧tn 10 ((w8→x7)∧tn 2 ((w8→b8)∧(x8=true→u2)∧(x8=false→u8))))))∧(v10.b=false→(y8=true→cond z8 true (e7 !=1)=o1∧True)∧(y8=false→cond z8 true r8=o1∧True)))))))))))))))))))))))))
set_option maxHeartbeats 1000000 in
theorem ok_tasks1:FnOK Tryz.prog glN 190 c_tasks1:=ok_of (.cons ok_wOut (.cons ok_wBlankF (.cons ok_wCount (.cons ok_containsI (.cons ok_wIs .nil))))) false Tryz.call190 Tryz.func190 (fun ⟨i,W⟩=> [.inv (an_t1 W i.toNat),.inv (an_t2 W i.toNat),.cut 29 (cut_t25 W i.toNat)]) (V:=V_tasks1) (fun _=>by kernel_rfl) fun ⟨i,W⟩ hp=>by
  dsimp only [s_tasks1] at hp
  dsimp only [V_tasks1,tn,w64]
  obtain ⟨hz,hm,f0,f1⟩:=hp
  obtain ⟨F,rfl⟩: ∃F:Nat,i=F:=⟨i.toNat,by omega⟩
  simp only [std,stb,eq_self,implies_true,Bool.cond_self]
  have hz1:=hz.tasks
  have hz2:=hz.k1
  have hz3:=hz.lines
  have hz4:=hz.c1
  have hz5:=hz.c0
  have hz6:=hz.ready
  simp only [sel11]
  refine ⟨by omega,fun h=>?_,fun h=>⟨by decide,fun _ s hs=>⟨fun h1=>?_,fun h1=>?_⟩⟩⟩
  · unfold tkB;rw [h];rfl
  · have core:=tkB_pos h
    have hlt:s<11:=by have:=of_decide_eq_true h1;omega
    refine ⟨by omega,fun h2=>?_,fun h2=>⟨by rw [IntKind.wrap_i64];omega,exS ⟨⟨by omega,snocF (p:=fun j=>farB (sel [(W.tasks F).r0,(W.tasks F).r1,(W.tasks F).r2,(W.tasks F).r3,(W.tasks F).r4,(W.tasks F).r5,(W.tasks F).r6,(W.tasks F).r7,(W.tasks F).pc,(W.tasks F).word,(W.tasks F).badge] j) 65535) hs.2 h2⟩,by omega⟩⟩⟩
    rw [core,not11 hlt h2];rfl
  have core:=tkB_pos h
  have hs8:s=11:=by have:=of_decide_eq_false h1;omega
  obtain ⟨hreg,hpc,hwd,hbg⟩:=all11 (W:=W) (f:=F) fun j hj=>hs.2 j (by omega)
  rw [hreg] at core
  have eN:numFar W (W.tasks F)=(farB (W.tasks F).st 6||farB (W.tasks F).prio 3||farB (W.tasks F).core (W.nCores -1)||farB (W.tasks F).dom 3):=by unfold numFar;rw [hpc,hwd,hbg];rfl
  have eA:(farB (W.tasks F).st 6||farB (W.tasks F).prio 3||farB (W.tasks F).core (W.nCores -1)||farB (W.tasks F).dom 3||!okF W (W.tasks F).node 5||!okF W (W.tasks F).space 4||!okF W (W.tasks F).helper 7||!okF W (W.tasks F).owes 6)=!(!numFar W (W.tasks F)&&refOK W (W.tasks F)):=by
    rw [eN];unfold refOK;simp only [Bool.not_and,Bool.not_or,Bool.not_not,Bool.or_assoc]
  rw [eA]
  refine ⟨fun _=>by rw [IntKind.wrap_i64];omega,fun _=>by decide,fun _=>by decide,fun _=>by decide,fun _=>by decide,fun h2=>?_,fun h2=>?_⟩
  · rw [core]
    revert h2;cases numFar W (W.tasks F)<;>cases refOK W (W.tasks F)<;>simp
  have h3:=notF h2
  rw [Bool.and_eq_true] at h3
  obtain ⟨hnum,href⟩:=h3
  rw [hnum,href] at core
  have hok:okF W (W.tasks F).owes 6=true:=by unfold refOK at href;simp only [Bool.and_eq_true] at href;exact href.2
  have hO:(W.tasks F).owes= -1∨(0≤(W.tasks F).owes∧(W.tasks F).owes<W.nKinds):=by
    rcases Decidable.em ((W.tasks F).owes= -1) with h|h
    · exact .inl h
    · exact .inr (okF_in (by decide) hok (by simpa using h))
  have eB:(decide (0≤(W.tasks F).owes)&&((W.tasks (W.tasks F).owes.toNat).st !=5||(W.tasks F).st==4))=!owesOK W (W.tasks F):=by
    unfold owesOK
    rw [show decide (0≤(W.tasks F).owes)=!((W.tasks F).owes== -1) by
     rcases hO with h|h
     · rw [h];rfl
     · rw [decide_eq_true h.1,show ((W.tasks F).owes== -1)=false from beq_eq_false_iff_ne.2 (by omega)];rfl]
    simp only [bne,Bool.not_and,Bool.not_or,Bool.not_not]
  rw [eB]
  refine ⟨fun h4=>?_,fun h4=>?_,fun h4 _=>?_⟩
  · have:=of_decide_eq_true h4;omega
  · rw [core,notT h4];rfl
  rw [notF h4] at core
  refine ⟨rfl,fun s hs=>⟨fun h5=>?_,fun h5=>?_⟩⟩
  · have hlt:=lt_of_dec h5
    have hb:=cntB_le (fun k=>(W.tasks k).owes==F) s
    refine ⟨by omega,fun h6=>?_,fun h6=>?_⟩
    · exact ⟨by rw [IntKind.wrap_i64];omega,by rw [IntKind.wrap_i64];omega,exS ⟨by simp [cntB,h6],by omega,by omega⟩⟩
    · exact ⟨by rw [IntKind.wrap_i64];omega,exS ⟨by simp [cntB,h6],by omega,by omega⟩⟩
  have hge:=ge_of_dec h5
  obtain rfl:s=W.nTasks:=by omega
  rw [show (decide (1<((cntB W.nTasks fun k=>(W.tasks k).owes==F:Nat):Int))||((((cntB W.nTasks fun k=>(W.tasks k).owes==F:Nat):Int)==1) !=((W.tasks F).st==5)))=!owedOK W F from owed_ne (W:=W) (f:=F) rfl]
  refine ⟨fun h6=>?_,fun h6=>?_⟩
  · rw [core,notT h6];rfl
  rw [notF h6] at core
  have core:tkB W F=stOK W F:=by rw [core];rfl
  rw [cnt1]
  have b1:cntLL W.nReady W.readyN W.ready F≤W.nReady*50:=sumN_le fun i hi=>Nat.le_trans (cntB_le _ _) (hm.2.1 i hi)
  have b2:cntL W.nCores W.cores F≤W.nCores:=cntB_le _ _
  have et:((cntLL W.nReady W.readyN W.ready F:Nat):Int)+((cntL W.nCores W.cores F:Nat):Int)=(turnsN W F:Nat):=by unfold turnsN;omega
  rw [et]
  refine ⟨⟨by omega,fun i hi=>Nat.le_trans (hm.1 i hi) (by omega)⟩,⟨by omega,fun i hi=>Nat.le_trans (hm.2.1 i hi) (by omega)⟩,⟨by omega,fun _ _=>by omega⟩,by rw [IntKind.wrap_i64];unfold turnsN;omega,?_,?_⟩
  · refine ⟨fun h=>⟨rfl,rfl,by rw [h];rfl⟩,fun h=>⟨fun h7=>⟨rfl,rfl,by rw [h,h7];rfl⟩,fun h7=>⟨fun h8=>⟨rfl,rfl,by rw [h,h7,h8];rfl⟩,fun h8=>⟨rfl,rfl,by rw [h,h7,h8];rfl⟩⟩⟩⟩
  rintro ⟨b⟩ hb
  have hb:b=((W.tasks F).st==2||(W.tasks F).st==3||(W.tasks F).st==4||(W.tasks F).st==6):=hb
  simp only [castN0,castN1]
  have hs1: ∀k:Int,k≠ -1→stOK W F=standOK W F k→(decide ((W.tasks F).loc<0)=false→k≠ -1)∧((decide ((W.tasks F).loc<0)||!okF W (W.tasks F).loc k)=false→0≤(W.tasks F).loc∧(W.tasks F).loc<W.nLines)∧((decide ((W.tasks F).loc<0)||!okF W (W.tasks F).loc k)=false→W.linesN (W.tasks F).loc.toNat≤100000)∧
   ((decide ((W.tasks F).loc<0)||!okF W (W.tasks F).loc k||!inB' (W.linesN (W.tasks F).loc.toNat) (W.lines (W.tasks F).loc.toNat) F)=true→true=!tkB W F)∧((decide ((W.tasks F).loc<0)||!okF W (W.tasks F).loc k||!inB' (W.linesN (W.tasks F).loc.toNat) (W.lines (W.tasks F).loc.toNat) F)=false→((1:Int)==0&&(W.tasks F).loc != -1||!(stands W F==1)||!(turnsN W F==0))=!tkB W F):=by
    intro k hk he
    rw [locN hk,core,he]
    have hin:(!(kof W (W.tasks F).loc==k))=false→0≤(W.tasks F).loc∧(W.tasks F).loc<W.nLines:=fun h=>by
      rw [hz3];exact kof_in (by rw [eq_of_beq (notF h)];exact hk)
    refine ⟨fun _=>hk,hin,fun h=>?_,fun h=>?_,fun h=>?_⟩
    · have:=hin h;have:=hm.1 (W.tasks F).loc.toNat (by omega);omega
    · unfold standOK;revert h
      cases kof W (W.tasks F).loc==k<;>cases inB' (W.linesN (W.tasks F).loc.toNat) (W.lines (W.tasks F).loc.toNat) F<;>cases stands W F==1<;>cases turnsN W F==0<;>simp
    · unfold standOK;revert h
      cases kof W (W.tasks F).loc==k<;>cases inB' (W.linesN (W.tasks F).loc.toNat) (W.lines (W.tasks F).loc.toNat) F<;>cases stands W F==1<;>cases turnsN W F==0<;>simp
  refine ⟨fun h7=>⟨fun h8=>hs1 8 (by decide) ?_,fun h8=>hs1 7 (by decide) ?_⟩,fun h7=>?_⟩
  · have e6:=eq_of_beq h8
    simp only [stOK];rw [e6];rfl
  · have h7:b=true:=h7
    rw [h7,h8,Bool.or_false] at hb
    simp only [stOK];rw [←hb];rfl
  · have h7:b=false:=h7
    have hb:=hb.symm
    rw [h7] at hb
    rw [Bool.or_eq_false_iff] at hb
    rw [core]
    simp only [stOK];rw [hb.1,hb.2]
    refine ⟨fun h8=>?_,fun h8=>?_⟩
    · rw [h8];simp only [bne]
      cases stands W F==0<;>cases turnsN W F==1<;>cases (W.tasks F).loc== -1<;>rfl
    · rw [h8];simp only [bne]
      cases stands W F==0<;>cases turnsN W F==0<;>cases (W.tasks F).loc== -1<;>rfl
end Go.Proofs.YtdjilaofmdhikaaGreatDoor
set_option linter.unusedVariables false
set_option linter.unusedSimpArgs false
set_option maxRecDepth 100000
namespace Go.Proofs.YtdjilaofmdhikaaGreatDoor
open Go.RowKit Go.Sy
def bE (n:Nat) (p:Nat→Bool) (e:Int):Int:=(fstE n p e (0,-1)).1
def bA (n:Nat) (p:Nat→Bool) (e:Int):Int:=(fstE n p e (0,-1)).2
def an_bad (n:Nat) (p:Nat→Bool):Ann where
  σ:=Nat
  rt:= []
  sh i:= [(11,.v (.int .i64 i))]
  mh _:= []
  inv i:=i≤n∧ ∀j,j<i→p j=false
  μ i:=n -i
  init:=0
structure X_badW1 where
  (n:Nat) (l:Nat→Int) (e:Int)
def s_badW1:Sy.Spec:=⟨X_badW1,fun ⟨n,l,e⟩=> [.sl true 1 n (fun i_ _=> .v (.int .i64 (l i_))),.v (.int .i64 e),.fn 181 0 (fun _=> .junk)],fun _=> [],fun ⟨n,_,e⟩=>e≠0∧n≤100000,fun ⟨n,l,e⟩=> .er 35 116 (bE n (fun i=>farB (l i) 65535) e) (bA n (fun i=>farB (l i) 65535) e),fun _=> [],
  fun args mem=>match args with| [a0,a1,a2]=>(match isFn 181 a2 with|true=>some ⟨slN a0,fun i=>intD (slF a0 i 0),intD (a1)⟩|false=>none)|_=>none⟩
def c_badW1:Con:=⟨[],s_badW1.g,none⟩
def V_badW1:X_badW1→Prop:=fun ⟨n,l,e⟩=>let a0:=(n:Int);let b0:=bE n (fun c0:Nat=>farB (l c0) 65535) e;let d0:=bA n (fun e0:Nat=>farB (l e0) 65535) e;a0≤9223372036854775807→0=((0:Nat):Int)∧True∧(0≤n∧(∀g0:Nat,g0<0→farB (l g0) 65535=false))∧(∀h0:Nat,let k0:=(h0:Int);let l0:=decide (k0<a0);let o0:=k0=k0;let q0:Int:=l (Int.toNat k0);let r0:=farB q0 65535;let u0:Int:=k0+1;h0≤n∧(∀v0:Nat,v0<h0→farB (l v0) 65535=false)→(l0=true→(0≤k0∧k0<a0)∧((o0∧q0=q0∧True)∧True∧True)∧(r0=true→((o0∧e=e∧True)∧True∧0≤k0∧e≠0)∧(e=b0∧k0=d0)∧True)∧(r0=false→w64 u0=u0∧(∃w0:Nat,u0=(w0:Int)∧True∧(w0≤n∧(∀x0:Nat,x0<w0→farB (l x0) 65535=false))∧n-w0<n-h0)))∧(l0=false→(b0=0∧d0=(-1))∧True))
set_option maxHeartbeats 1000000 in
theorem ok_badW1:FnOK Tryz.prog glN 180 c_badW1:=ok_of (.cons ok_wAt (.cons ok_words1 .nil)) false Tryz.call180 Tryz.func180 (fun ⟨n,l,_⟩=> [.inv (an_bad n (fun i=>farB (l i) 65535))]) (V:=V_badW1) (fun _=>by kernel_rfl) fun ⟨n,l,e⟩ hp=>by
  dsimp only [s_badW1] at hp
  dsimp only [V_badW1,tn,w64]
  obtain ⟨he,hp⟩:=hp
  simp only [std,stb,eq_self,implies_true,Bool.cond_self]
  unfold bE bA
  refine fun _ s hs=>⟨fun h=>?_,fun h=>?_⟩
  · have hlt:=lt_of_dec h
    refine ⟨by omega,fun h1=>?_,fun h1=>⟨by rw [IntKind.wrap_i64];omega,exS ⟨⟨by omega,snocF (p:=fun i=>farB (l i) 65535) hs.2 h1⟩,by omega⟩⟩⟩
    rw [fstE_at (p:=fun i=>farB (l i) 65535) hs.2 h1 hlt]
    first|exact ⟨he,rfl,rfl⟩|exact ⟨⟨by omega,he⟩,rfl,rfl⟩
  · have hge:=ge_of_dec h
    rw [fstE_none (p:=fun i=>farB (l i) 65535) fun j hj=>hs.2 j (by omega)]
    exact ⟨rfl,rfl⟩
structure X_badW2 where
  (n:Nat) (l:Nat→Int) (e:Int)
def s_badW2:Sy.Spec:=⟨X_badW2,fun ⟨n,l,e⟩=> [.sl true 1 n (fun i_ _=> .v (.int .i64 (l i_))),.v (.int .i64 e),.fn 182 0 (fun _=> .junk)],fun _=> [],fun ⟨n,_,e⟩=>e≠0∧n≤100000,fun ⟨n,l,e⟩=> .er 35 116 (bE n (fun i=>farB (l i) 8||l i==1) e) (bA n (fun i=>farB (l i) 8||l i==1) e),fun _=> [],
  fun args mem=>match args with| [a0,a1,a2]=>(match isFn 182 a2 with|true=>some ⟨slN a0,fun i=>intD (slF a0 i 0),intD (a1)⟩|false=>none)|_=>none⟩
def c_badW2:Con:=⟨[],s_badW2.g,none⟩
def V_badW2:X_badW2→Prop:=fun ⟨n,l,e⟩=>let a0:=(n:Int);let b0:=bE n (fun c0:Nat=>farB (l c0) 8||l c0==1) e;let d0:=bA n (fun e0:Nat=>farB (l e0) 8||l e0==1) e;a0≤9223372036854775807→0=((0:Nat):Int)∧True∧(0≤n∧(∀g0:Nat,g0<0→(farB (l g0) 8||l g0==1)=false))∧(∀h0:Nat,let k0:=(h0:Int);let l0:=decide (k0<a0);let o0:=k0=k0;let q0:Int:=l (Int.toNat k0);let r0:=farB q0 8||q0==1;let u0:Int:=k0+1;h0≤n∧(∀v0:Nat,v0<h0→(farB (l v0) 8||l v0==1)=false)→(l0=true→(0≤k0∧k0<a0)∧((o0∧q0=q0∧True)∧True∧True)∧(r0=true→((o0∧e=e∧True)∧True∧0≤k0∧e≠0)∧(e=b0∧k0=d0)∧True)∧(r0=false→w64 u0=u0∧(∃w0:Nat,u0=(w0:Int)∧True∧(w0≤n∧(∀x0:Nat,x0<w0→(farB (l x0) 8||l x0==1)=false))∧n-w0<n-h0)))∧(l0=false→(b0=0∧d0=(-1))∧True))
set_option maxHeartbeats 1000000 in
theorem ok_badW2:FnOK Tryz.prog glN 180 c_badW2:=ok_of (.cons ok_wAt (.cons ok_words2 .nil)) false Tryz.call180 Tryz.func180 (fun ⟨n,l,_⟩=> [.inv (an_bad n (fun i=>farB (l i) 8||l i==1))]) (V:=V_badW2) (fun _=>by kernel_rfl) fun ⟨n,l,e⟩ hp=>by
  dsimp only [s_badW2] at hp
  dsimp only [V_badW2,tn,w64]
  obtain ⟨he,hp⟩:=hp
  simp only [std,stb,eq_self,implies_true,Bool.cond_self]
  unfold bE bA
  refine fun _ s hs=>⟨fun h=>?_,fun h=>?_⟩
  · have hlt:=lt_of_dec h
    refine ⟨by omega,fun h1=>?_,fun h1=>⟨by rw [IntKind.wrap_i64];omega,exS ⟨⟨by omega,snocF (p:=fun i=>farB (l i) 8||l i==1) hs.2 h1⟩,by omega⟩⟩⟩
    rw [fstE_at (p:=fun i=>farB (l i) 8||l i==1) hs.2 h1 hlt]
    first|exact ⟨he,rfl,rfl⟩|exact ⟨⟨by omega,he⟩,rfl,rfl⟩
  · have hge:=ge_of_dec h
    rw [fstE_none (p:=fun i=>farB (l i) 8||l i==1) fun j hj=>hs.2 j (by omega)]
    exact ⟨rfl,rfl⟩
structure X_badW3 where
  (n:Nat) (l:Nat→Int) (e:Int)
def s_badW3:Sy.Spec:=⟨X_badW3,fun ⟨n,l,e⟩=> [.sl true 1 n (fun i_ _=> .v (.int .i64 (l i_))),.v (.int .i64 e),.fn 183 0 (fun _=> .junk)],fun _=> [],fun ⟨n,_,e⟩=>e≠0∧n≤100000,fun ⟨n,l,e⟩=> .er 35 116 (bE n (fun i=>farB (l i) 3) e) (bA n (fun i=>farB (l i) 3) e),fun _=> [],
  fun args mem=>match args with| [a0,a1,a2]=>(match isFn 183 a2 with|true=>some ⟨slN a0,fun i=>intD (slF a0 i 0),intD (a1)⟩|false=>none)|_=>none⟩
def c_badW3:Con:=⟨[],s_badW3.g,none⟩
def V_badW3:X_badW3→Prop:=fun ⟨n,l,e⟩=>let a0:=(n:Int);let b0:=bE n (fun c0:Nat=>farB (l c0) 3) e;let d0:=bA n (fun e0:Nat=>farB (l e0) 3) e;a0≤9223372036854775807→0=((0:Nat):Int)∧True∧(0≤n∧(∀g0:Nat,g0<0→farB (l g0) 3=false))∧(∀h0:Nat,let k0:=(h0:Int);let l0:=decide (k0<a0);let o0:=k0=k0;let q0:Int:=l (Int.toNat k0);let r0:=farB q0 3;let u0:Int:=k0+1;h0≤n∧(∀v0:Nat,v0<h0→farB (l v0) 3=false)→(l0=true→(0≤k0∧k0<a0)∧((o0∧q0=q0∧True)∧True∧True)∧(r0=true→((o0∧e=e∧True)∧True∧0≤k0∧e≠0)∧(e=b0∧k0=d0)∧True)∧(r0=false→w64 u0=u0∧(∃w0:Nat,u0=(w0:Int)∧True∧(w0≤n∧(∀x0:Nat,x0<w0→farB (l x0) 3=false))∧n-w0<n-h0)))∧(l0=false→(b0=0∧d0=(-1))∧True))
set_option maxHeartbeats 1000000 in
theorem ok_badW3:FnOK Tryz.prog glN 180 c_badW3:=ok_of (.cons ok_wAt (.cons ok_words3 .nil)) false Tryz.call180 Tryz.func180 (fun ⟨n,l,_⟩=> [.inv (an_bad n (fun i=>farB (l i) 3))]) (V:=V_badW3) (fun _=>by kernel_rfl) fun ⟨n,l,e⟩ hp=>by
  dsimp only [s_badW3] at hp
  dsimp only [V_badW3,tn,w64]
  obtain ⟨he,hp⟩:=hp
  simp only [std,stb,eq_self,implies_true,Bool.cond_self]
  unfold bE bA
  refine fun _ s hs=>⟨fun h=>?_,fun h=>?_⟩
  · have hlt:=lt_of_dec h
    refine ⟨by omega,fun h1=>?_,fun h1=>⟨by rw [IntKind.wrap_i64];omega,exS ⟨⟨by omega,snocF (p:=fun i=>farB (l i) 3) hs.2 h1⟩,by omega⟩⟩⟩
    rw [fstE_at (p:=fun i=>farB (l i) 3) hs.2 h1 hlt]
    first|exact ⟨he,rfl,rfl⟩|exact ⟨⟨by omega,he⟩,rfl,rfl⟩
  · have hge:=ge_of_dec h
    rw [fstE_none (p:=fun i=>farB (l i) 3) fun j hj=>hs.2 j (by omega)]
    exact ⟨rfl,rfl⟩
structure X_badF where
  (n:Nat) (l:Nat→Int) (e:Int) (nc:Nat) (cl:Nat→Int) (nk:Nat) (ky:Nat→Int) (nu:Nat) (us:Nat→Bool)
def s_badF:Sy.Spec:=⟨X_badF,fun ⟨n,l,e,nc,cl,nk,ky,nu,us⟩=> [.sl true 1 n (fun i_ _=> .v (.int .i64 (l i_))),.v (.int .i64 e),.fn 188 3 (lsv [.pt true 1 (fun _=> .sl true 1 nc (iF cl)),.pt true 1 (fun _=> .sl true 1 nk (iF ky)),.pt true 1 (fun _=> .sl true 1 nu (fun i _=> .v (.bool (us i))))])],fun _=> [],fun ⟨n,_,e,nc,_,nk,_,nu,_⟩=>e≠0∧n≤100000∧n≤nc∧n≤nk∧n≤nu,fun ⟨n,l,e,_,cl,_,ky,_,us⟩=> .er 35 116 (bE n (fun i=>decide (1<cl i)||(l i !=0&&(ky i==0||(cl i==1&&!us i)))) e) (bA n (fun i=>decide (1<cl i)||(l i !=0&&(ky i==0||(cl i==1&&!us i)))) e),fun _=> [],
  fun args mem=>match args with| [a0,a1,a2]=>(match isFn 188 a2 with|true=>some ⟨slN a0,fun i=>intD (slF a0 i 0),intD (a1),slN (ptF (fnF a2 0) 0),fun i=>intD (slF (ptF (fnF a2 0) 0) i 0),slN (ptF (fnF a2 1) 0),fun i=>intD (slF (ptF (fnF a2 1) 0) i 0),slN (ptF (fnF a2 2) 0),fun i=>boolD (slF (ptF (fnF a2 2) 0) i 0)⟩|false=>none)|_=>none⟩
def c_badF:Con:=⟨[],s_badF.g,none⟩
def V_badF:X_badF→Prop:=fun ⟨n,l,e,nc,cl,nk,ky,nu,us⟩=>let a0:=(n:Int);let b0:=bE n (fun c0:Nat=>decide (1<cl c0)||l c0 !=0&&(ky c0==0||cl c0==1&&!us c0)) e;let d0:=bA n (fun e0:Nat=>decide (1<cl e0)||l e0 !=0&&(ky e0==0||cl e0==1&&!us e0)) e;a0≤9223372036854775807→0=((0:Nat):Int)∧True∧(0≤n∧(∀g0:Nat,g0<0→(decide (1<cl g0)||l g0 !=0&&(ky g0==0||cl g0==1&&!us g0))=false))∧(∀h0:Nat,let k0:=(h0:Int);let l0:=decide (k0<a0);let o0:=0≤k0;let q0:=k0=k0;let r0:=Int.toNat k0;let u0:Int:=l r0;let v0:Int:=cl r0;let w0:=decide (1<v0)||u0 !=0&&(ky r0==0||v0==1&&!us r0);let x0:Int:=k0+1;h0≤n∧(∀y0:Nat,y0<h0→(decide (1<cl y0)||l y0 !=0&&(ky y0==0||cl y0==1&&!us y0))=false)→(l0=true→(o0∧k0<a0)∧((q0∧u0=u0∧(True∧nc=nc∧(∀z0:Nat,z0<nc→True∧cl z0=cl z0))∧(True∧nk=nk∧(∀a1:Nat,a1<nk→True∧ky a1=ky a1))∧(True∧nu=nu∧(∀b1:Nat,b1<nu→True∧us b1=us b1))∧True)∧True∧o0∧k0<(nc:Int)∧k0<(nk:Int)∧k0<(nu:Int))∧(w0=true→((q0∧e=e∧True)∧True∧o0∧e≠0)∧(e=b0∧k0=d0)∧True)∧(w0=false→w64 x0=x0∧(∃c1:Nat,x0=(c1:Int)∧True∧(c1≤n∧(∀d1:Nat,d1<c1→(decide (1<cl d1)||l d1 !=0&&(ky d1==0||cl d1==1&&!us d1))=false))∧n-c1<n-h0)))∧(l0=false→(b0=0∧d0=(-1))∧True))
set_option maxHeartbeats 1000000 in
theorem ok_badF:FnOK Tryz.prog glN 180 c_badF:=ok_of (.cons ok_wAt (.cons ok_frames1 .nil)) false Tryz.call180 Tryz.func180 (fun ⟨n,l,_,_,cl,_,ky,_,us⟩=> [.inv (an_bad n (fun i=>decide (1<cl i)||(l i !=0&&(ky i==0||(cl i==1&&!us i)))))]) (V:=V_badF) (fun _=>by kernel_rfl) fun ⟨n,l,e,nc,cl,nk,ky,nu,us⟩ hp=>by
  dsimp only [s_badF] at hp
  dsimp only [V_badF,tn,w64]
  obtain ⟨he,hp⟩:=hp
  simp only [std,stb,eq_self,implies_true,Bool.cond_self]
  unfold bE bA
  refine fun _ s hs=>⟨fun h=>?_,fun h=>?_⟩
  · have hlt:=lt_of_dec h
    refine ⟨by omega,⟨by omega,by omega,by omega⟩,fun h1=>?_,fun h1=>⟨by rw [IntKind.wrap_i64];omega,exS ⟨⟨by omega,snocF (p:=fun i=>decide (1<cl i)||(l i !=0&&(ky i==0||(cl i==1&&!us i)))) hs.2 h1⟩,by omega⟩⟩⟩
    rw [fstE_at (p:=fun i=>decide (1<cl i)||(l i !=0&&(ky i==0||(cl i==1&&!us i)))) hs.2 h1 hlt]
    first|exact ⟨he,rfl,rfl⟩|exact ⟨⟨by omega,he⟩,rfl,rfl⟩
  · have hge:=ge_of_dec h
    rw [fstE_none (p:=fun i=>decide (1<cl i)||(l i !=0&&(ky i==0||(cl i==1&&!us i)))) fun j hj=>hs.2 j (by omega)]
    exact ⟨rfl,rfl⟩
structure X_badC where
  (e:Int) (W:Wd)
def s_badC:Sy.Spec:=⟨X_badC,fun ⟨e,W⟩=> [.sl true 1 W.nCores (iF W.cores),.v (.int .i64 e),.fn 198 1 (lsv [.pt true 1 (fun _=> .fn 197 1 (lsv [.pt true 1 (fun _=>wPT W)]))])],fun _=> [],fun ⟨e,W⟩=>e≠0∧Szd W,fun ⟨e,W⟩=> .er 35 116 (bE W.nCores (fun i=>!coB W i) e) (bA W.nCores (fun i=>!coB W i) e),fun _=> [],
  fun args mem=>match args with| [a0,a1,a2]=>(match isFn 198 a2 with|true=>some ⟨intD (a1),wPTD (ptF (fnF (ptF (fnF a2 0) 0) 0) 0)⟩|false=>none)|_=>none⟩
def c_badC:Con:=⟨[],s_badC.g,none⟩
def V_badC:X_badC→Prop:=fun ⟨e,W⟩=>let a0:=W.nCores;let b0:=(a0:Int);let c0:=W.nKinds;let d0:=W.nSlots;let e0:=W.nTasks;let g0:=W.nLines;let h0:=W.nReady;let k0:=bE a0 (fun l0:Nat=>!coB W l0) e;let o0:=bA a0 (fun q0:Nat=>!coB W q0) e;b0≤9223372036854775807→0=((0:Nat):Int)∧True∧(0≤a0∧(∀u0:Nat,u0<0→(!coB W u0)=false))∧(∀v0:Nat,let w0:=(v0:Int);let x0:=decide (w0<b0);let y0:=w0=w0;let z0:=W.cores (Int.toNat w0);let a1:=z0 !=(-1)&&!rdB W z0 w0 (-1);let b1:Int:=w0+1;v0≤a0∧(∀c1:Nat,c1<v0→(!coB W c1)=false)→(x0=true→(0≤w0∧w0<b0)∧((y0∧z0=z0∧tn 3 (((((((((((True∧W.nRam=W.nRam∧(∀d1:Nat,d1<W.nRam→True∧W.ram d1=W.ram d1))∧c0=c0∧(∀e1:Nat,e1<c0→True∧W.kinds e1=W.kinds e1))∧d0=d0∧(∀g1:Nat,let h1:=W.slots g1;let k1:=h1.kind;let l1:=h1.base;let o1:=h1.len;let q1:=h1.mark;let u1:=h1.rights;let v1:=h1.badge;let w1:=h1.from_;g1<d0→((((((True∧k1=k1)∧l1=l1)∧o1=o1)∧q1=q1)∧u1=u1)∧v1=v1)∧w1=w1))∧e0=e0∧(∀x1:Nat,let y1:=W.tasks x1;let z1:=y1.prio;let a2:=y1.node;let b2:=y1.space;let c2:=y1.helper;let d2:=y1.loc;let e2:=y1.word;let g2:=y1.badge;let h2:=y1.owes;let k2:=y1.core;let l2:=y1.dom;x1<e0→(((((((((((((((((((True∧y1.r0=y1.r0)∧y1.r1=y1.r1)∧y1.r2=y1.r2)∧y1.r3=y1.r3)∧y1.r4=y1.r4)∧y1.r5=y1.r5)∧y1.r6=y1.r6)∧y1.r7=y1.r7)∧y1.pc=y1.pc)∧y1.st=y1.st)∧z1=z1)∧a2=a2)∧b2=b2)∧c2=c2)∧d2=d2)∧e2=e2)∧g2=g2)∧h2=h2)∧k2=k2)∧l2=l2))∧g0=g0∧(∀o2:Nat,let q2:=W.linesN o2;o2<g0→True∧q2=q2∧(∀u2:Nat,u2<q2→True∧W.lines o2 u2=W.lines o2 u2)))∧W.nBits=W.nBits∧(∀v2:Nat,v2<W.nBits→True∧W.bits v2=W.bits v2))∧a0=a0∧(∀w2:Nat,w2<a0→True∧W.cores w2=W.cores w2))∧h0=h0∧
    (∀x2:Nat,let y2:=W.readyN x2;x2<h0→True∧y2=y2∧(∀z2:Nat,z2<y2→True∧W.ready x2 z2=W.ready x2 z2)))∧W.nTlbs=W.nTlbs∧(∀a3:Nat,let b3:=W.tlbsN a3;a3<W.nTlbs→True∧b3=b3∧(∀c3:Nat,let d3:=W.tlbs a3 c3;let e3:=d3.sp;let g3:=d3.pg;let h3:=d3.fr;let k3:=d3.wr;c3<b3→(((True∧e3=e3)∧g3=g3)∧h3=h3)∧k3=k3)))∧W.nDoms=W.nDoms∧(∀l3:Nat,l3<W.nDoms→True∧W.doms l3=W.doms l3))∧W.time=W.time)∧True)∧True∧s_turns2.match_1 (fun o3:X_turns2=>Prop) (X_turns2.mk w0 z0 W) (fun q3:Int=>fun u3:Int=>fun v3:Wd=>Szd v3))∧(a1=true→((y0∧e=e∧True)∧True∧0≤w0∧e≠0)∧(e=k0∧w0=o0)∧True)∧(a1=false→w64 b1=b1∧(∃w3:Nat,b1=(w3:Int)∧True∧(w3≤a0∧(∀x3:Nat,x3<w3→(!coB W x3)=false))∧a0-w3<a0-v0)))∧(x0=false→(k0=0∧o0=(-1))∧True))
set_option maxHeartbeats 1000000 in
theorem ok_badC:FnOK Tryz.prog glN 180 c_badC:=ok_of (.cons ok_wAt (.cons ok_turns2 .nil)) false Tryz.call180 Tryz.func180 (fun ⟨_,W⟩=> [.inv (an_bad W.nCores (fun i=>!coB W i))]) (V:=V_badC) (fun _=>by kernel_rfl) fun ⟨e,W⟩ hp=>by
  dsimp only [s_badC] at hp
  dsimp only [V_badC,tn,w64]
  obtain ⟨he,hp⟩:=hp
  simp only [std,stb,eq_self,implies_true,Bool.cond_self]
  have z1:=hp.c1
  simp only [coB_not]
  unfold bE bA
  refine fun _ s hs=>⟨fun h=>?_,fun h=>?_⟩
  · have hlt:=lt_of_dec h
    refine ⟨by omega,hp,fun h1=>?_,fun h1=>⟨by rw [IntKind.wrap_i64];omega,exS ⟨⟨by omega,snocF (p:=fun i=>!coB W i) hs.2 h1⟩,by omega⟩⟩⟩
    rw [fstE_at (p:=fun i=>!coB W i) hs.2 h1 hlt]
    first|exact ⟨he,rfl,rfl⟩|exact ⟨⟨by omega,he⟩,rfl,rfl⟩
  · have hge:=ge_of_dec h
    rw [fstE_none (p:=fun i=>!coB W i) fun j hj=>hs.2 j (by omega)]
    exact ⟨rfl,rfl⟩
structure X_badM where
  (e:Int) (W:Wd)
def s_badM:Sy.Spec:=⟨X_badM,fun ⟨e,W⟩=> [.sl true 1 W.nRam (iF W.ram),.v (.int .i64 e),.fn 202 1 (lsv [.pt true 1 (fun _=>wPT W)])],fun _=> [],fun ⟨e,W⟩=>e≠0∧Szd W∧ ∀i,i<W.nRam→isW (W.ram i),fun ⟨e,W⟩=> .er 35 116 (bE W.nRam (fun i=>!enB W i) e) (bA W.nRam (fun i=>!enB W i) e),fun _=> [],
  fun args mem=>match args with| [a0,a1,a2]=>(match isFn 202 a2 with|true=>some ⟨intD (a1),wPTD (ptF (fnF a2 0) 0)⟩|false=>none)|_=>none⟩
def c_badM:Con:=⟨[],s_badM.g,none⟩
def V_badM:X_badM→Prop:=fun ⟨e,W⟩=>let a0:=W.nRam;let b0:=(a0:Int);let c0:=W.nKinds;let d0:=W.nSlots;let e0:=W.nTasks;let g0:=W.nLines;let h0:=W.nCores;let k0:=W.nReady;let l0:=bE a0 (fun o0:Nat=>!enB W o0) e;let q0:=bA a0 (fun u0:Nat=>!enB W u0) e;b0≤9223372036854775807→0=((0:Nat):Int)∧True∧(0≤a0∧(∀v0:Nat,v0<0→(!enB W v0)=false))∧(∀w0:Nat,let x0:=(w0:Int);let y0:=decide (x0<b0);let z0:=0≤x0;let a1:=x0=x0;let b1:=W.ram (Int.toNat x0);let c1:=!enB W (Int.toNat x0);let d1:Int:=x0+1;w0≤a0∧(∀e1:Nat,e1<w0→(!enB W e1)=false)→(y0=true→(z0∧x0<b0)∧((a1∧b1=b1∧(True∧((((((((((True∧a0=a0∧(∀g1:Nat,g1<a0→True∧W.ram g1=W.ram g1))∧c0=c0∧(∀h1:Nat,h1<c0→True∧W.kinds h1=W.kinds h1))∧d0=d0∧(∀k1:Nat,let l1:=W.slots k1;let o1:=l1.kind;let q1:=l1.base;let u1:=l1.len;let v1:=l1.mark;let w1:=l1.rights;let x1:=l1.badge;let y1:=l1.from_;k1<d0→((((((True∧o1=o1)∧q1=q1)∧u1=u1)∧v1=v1)∧w1=w1)∧x1=x1)∧y1=y1))∧e0=e0∧(∀z1:Nat,let a2:=W.tasks z1;let b2:=a2.prio;let c2:=a2.node;let d2:=a2.space;let e2:=a2.helper;let g2:=a2.loc;let h2:=a2.word;let k2:=a2.badge;let l2:=a2.owes;let o2:=a2.core;let q2:=a2.dom;z1<e0→(((((((((((((((((((True∧a2.r0=a2.r0)∧a2.r1=a2.r1)∧a2.r2=a2.r2)∧a2.r3=a2.r3)∧a2.r4=a2.r4)∧a2.r5=a2.r5)∧a2.r6=a2.r6)∧a2.r7=a2.r7)∧a2.pc=a2.pc)∧a2.st=a2.st)∧b2=b2)∧c2=c2)∧d2=d2)∧e2=e2)∧g2=g2)∧h2=h2)∧k2=k2)∧l2=l2)∧o2=o2)∧q2=q2))∧g0=g0∧(∀u2:Nat,let v2:=W.linesN u2;u2<g0→True∧v2=v2∧(∀w2:Nat,w2<v2→True∧W.lines u2 w2=W.lines u2 w2)))∧W.nBits=W.nBits∧(∀x2:Nat,x2<W.nBits→True∧W.bits x2=W.bits x2))∧h0=h0∧(∀y2:Nat,y2<h0→True∧W.cores y2=W.cores y2))∧
    k0=k0∧(∀z2:Nat,let a3:=W.readyN z2;z2<k0→True∧a3=a3∧(∀b3:Nat,b3<a3→True∧W.ready z2 b3=W.ready z2 b3)))∧W.nTlbs=W.nTlbs∧(∀c3:Nat,let d3:=W.tlbsN c3;c3<W.nTlbs→True∧d3=d3∧(∀e3:Nat,let g3:=W.tlbs c3 e3;let h3:=g3.sp;let k3:=g3.pg;let l3:=g3.fr;let o3:=g3.wr;e3<d3→(((True∧h3=h3)∧k3=k3)∧l3=l3)∧o3=o3)))∧W.nDoms=W.nDoms∧(∀q3:Nat,q3<W.nDoms→True∧W.doms q3=W.doms q3))∧W.time=W.time)∧True)∧True∧Szd W∧z0∧x0<b0∧0≤b1∧b1≤65535)∧(c1=true→((a1∧e=e∧True)∧True∧z0∧e≠0)∧(e=l0∧x0=q0)∧True)∧(c1=false→w64 d1=d1∧(∃u3:Nat,d1=(u3:Int)∧True∧(u3≤a0∧(∀v3:Nat,v3<u3→(!enB W v3)=false))∧a0-u3<a0-w0)))∧(y0=false→(l0=0∧q0=(-1))∧True))
set_option maxHeartbeats 1000000 in
theorem ok_badM:FnOK Tryz.prog glN 180 c_badM:=ok_of (.cons ok_wAt (.cons ok_maps1 .nil)) false Tryz.call180 Tryz.func180 (fun ⟨_,W⟩=> [.inv (an_bad W.nRam (fun i=>!enB W i))]) (V:=V_badM) (fun _=>by kernel_rfl) fun ⟨e,W⟩ hp=>by
  dsimp only [s_badM] at hp
  dsimp only [V_badM,tn,w64]
  obtain ⟨he,hp⟩:=hp
  simp only [std,stb,eq_self,implies_true,Bool.cond_self]
  have z1:=hp.1.ram
  have z2:=hp.1.k1
  unfold bE bA
  refine fun _ s hs=>⟨fun h=>?_,fun h=>?_⟩
  · have hlt:=lt_of_dec h
    refine ⟨by omega,⟨hp.1,by omega,hp.2 s hlt⟩,fun h1=>?_,fun h1=>⟨by rw [IntKind.wrap_i64];omega,exS ⟨⟨by omega,snocF (p:=fun i=>!enB W i) hs.2 h1⟩,by omega⟩⟩⟩
    rw [fstE_at (p:=fun i=>!enB W i) hs.2 h1 hlt]
    first|exact ⟨he,rfl,rfl⟩|exact ⟨⟨by omega,he⟩,rfl,rfl⟩
  · have hge:=ge_of_dec h
    rw [fstE_none (p:=fun i=>!enB W i) fun j hj=>hs.2 j (by omega)]
    exact ⟨rfl,rfl⟩
structure X_badK where
  (e:Int) (W:Wd)
def s_badK:Sy.Spec:=⟨X_badK,fun ⟨e,W⟩=> [.sl true 7 W.nSlots (rF fun i=>slL (W.slots i)),.v (.int .i64 e),.fn 185 1 (lsv [.pt true 1 (fun _=>wPT W)])],fun _=> [],fun ⟨e,W⟩=>e≠0∧Szd W,fun ⟨e,W⟩=> .er 35 116 (bE W.nSlots (fun i=>!slB W i) e) (bA W.nSlots (fun i=>!slB W i) e),fun _=> [],
  fun args mem=>match args with| [a0,a1,a2]=>(match isFn 185 a2 with|true=>some ⟨intD (a1),wPTD (ptF (fnF a2 0) 0)⟩|false=>none)|_=>none⟩
def c_badK:Con:=⟨[],s_badK.g,none⟩
def V_badK:X_badK→Prop:=fun ⟨e,W⟩=>let a0:=W.nSlots;let b0:=(a0:Int);let c0:=W.nKinds;let d0:=W.nTasks;let e0:=W.nLines;let g0:=W.nCores;let h0:=W.nReady;let k0:=bE a0 (fun l0:Nat=>!slB W l0) e;let o0:=bA a0 (fun q0:Nat=>!slB W q0) e;b0≤9223372036854775807→0=((0:Nat):Int)∧True∧(0≤a0∧(∀u0:Nat,u0<0→(!slB W u0)=false))∧(∀v0:Nat,let w0:=(v0:Int);let x0:=decide (w0<b0);let y0:=0≤w0∧w0<b0;let z0:=w0=w0;let a1:=W.slots (Int.toNat w0);let b1:=a1.kind;let c1:=a1.base;let d1:=a1.len;let e1:=a1.mark;let g1:=a1.rights;let h1:=a1.badge;let k1:=a1.from_;let l1:=!slB W (Int.toNat w0);let o1:Int:=w0+1;v0≤a0∧(∀q1:Nat,q1<v0→(!slB W q1)=false)→(x0=true→y0∧True∧tn 6 True∧((z0∧(((((((True∧b1=b1)∧c1=c1)∧d1=d1)∧e1=e1)∧g1=g1)∧h1=h1)∧k1=k1)∧(True∧((((((((((True∧W.nRam=W.nRam∧(∀u1:Nat,u1<W.nRam→True∧W.ram u1=W.ram u1))∧c0=c0∧(∀v1:Nat,v1<c0→True∧W.kinds v1=W.kinds v1))∧a0=a0∧(∀w1:Nat,let x1:=W.slots w1;let y1:=x1.kind;let z1:=x1.base;let a2:=x1.len;let b2:=x1.mark;let c2:=x1.rights;let d2:=x1.badge;let e2:=x1.from_;w1<a0→((((((True∧y1=y1)∧z1=z1)∧a2=a2)∧b2=b2)∧c2=c2)∧d2=d2)∧e2=e2))∧d0=d0∧(∀g2:Nat,let h2:=W.tasks g2;let k2:=h2.prio;let l2:=h2.node;let o2:=h2.space;let q2:=h2.helper;let u2:=h2.loc;let v2:=h2.word;let w2:=h2.badge;let x2:=h2.owes;let y2:=h2.core;let z2:=h2.dom;g2<d0→(((((((((((((((((((True∧h2.r0=h2.r0)∧h2.r1=h2.r1)∧h2.r2=h2.r2)∧h2.r3=h2.r3)∧h2.r4=h2.r4)∧h2.r5=h2.r5)∧h2.r6=h2.r6)∧h2.r7=h2.r7)∧h2.pc=h2.pc)∧h2.st=h2.st)∧k2=k2)∧l2=l2)∧o2=o2)∧q2=q2)∧u2=u2)∧v2=v2)∧w2=w2)∧x2=x2)∧y2=y2)∧z2=z2))∧e0=e0∧(∀a3:Nat,let b3:=W.linesN a3;
    a3<e0→True∧b3=b3∧(∀c3:Nat,c3<b3→True∧W.lines a3 c3=W.lines a3 c3)))∧W.nBits=W.nBits∧(∀d3:Nat,d3<W.nBits→True∧W.bits d3=W.bits d3))∧g0=g0∧(∀e3:Nat,e3<g0→True∧W.cores e3=W.cores e3))∧h0=h0∧(∀g3:Nat,let h3:=W.readyN g3;g3<h0→True∧h3=h3∧(∀k3:Nat,k3<h3→True∧W.ready g3 k3=W.ready g3 k3)))∧W.nTlbs=W.nTlbs∧(∀l3:Nat,let o3:=W.tlbsN l3;l3<W.nTlbs→True∧o3=o3∧(∀q3:Nat,let u3:=W.tlbs l3 q3;let v3:=u3.sp;let w3:=u3.pg;let x3:=u3.fr;let y3:=u3.wr;q3<o3→(((True∧v3=v3)∧w3=w3)∧x3=x3)∧y3=y3)))∧W.nDoms=W.nDoms∧(∀z3:Nat,z3<W.nDoms→True∧W.doms z3=W.doms z3))∧W.time=W.time)∧True)∧True∧Szd W∧y0)∧(l1=true→((z0∧e=e∧True)∧True∧0≤w0∧e≠0)∧(e=k0∧w0=o0)∧True)∧(l1=false→w64 o1=o1∧(∃a4:Nat,o1=(a4:Int)∧True∧(a4≤a0∧(∀b4:Nat,b4<a4→(!slB W b4)=false))∧a0-a4<a0-v0)))∧(x0=false→(k0=0∧o0=(-1))∧True))
set_option maxHeartbeats 1000000 in
theorem ok_badK:FnOK Tryz.prog glN 184 c_badK:=ok_of (.cons ok_wAt (.cons ok_keys1 .nil)) false Tryz.call184 Tryz.func184 (fun ⟨_,W⟩=> [.inv (an_bad W.nSlots (fun i=>!slB W i))]) (V:=V_badK) (fun _=>by kernel_rfl) fun ⟨e,W⟩ hp=>by
  dsimp only [s_badK] at hp
  dsimp only [V_badK,tn,w64]
  obtain ⟨he,hp⟩:=hp
  simp only [std,stb,eq_self,implies_true,Bool.cond_self]
  have z1:=hp.slots
  have z2:=hp.k1
  unfold bE bA
  refine fun _ s hs=>⟨fun h=>?_,fun h=>?_⟩
  · have hlt:=lt_of_dec h
    refine ⟨by omega,⟨hp,by omega⟩,fun h1=>?_,fun h1=>⟨by rw [IntKind.wrap_i64];omega,exS ⟨⟨by omega,snocF (p:=fun i=>!slB W i) hs.2 h1⟩,by omega⟩⟩⟩
    rw [fstE_at (p:=fun i=>!slB W i) hs.2 h1 hlt]
    first|exact ⟨he,rfl,rfl⟩|exact ⟨⟨by omega,he⟩,rfl,rfl⟩
  · have hge:=ge_of_dec h
    rw [fstE_none (p:=fun i=>!slB W i) fun j hj=>hs.2 j (by omega)]
    exact ⟨rfl,rfl⟩
structure X_badT where
  (e:Int) (W:Wd)
def s_badT:Sy.Spec:=⟨X_badT,fun ⟨e,W⟩=> [.sl true 20 W.nTasks (rF fun i=>runL (W.tasks i)),.v (.int .i64 e),.fn 190 1 (lsv [.pt true 1 (fun _=>wPT W)])],fun _=> [],fun ⟨e,W⟩=>e≠0∧Szd W∧smB W,fun ⟨e,W⟩=> .er 35 116 (bE W.nTasks (fun i=>!tkB W i) e) (bA W.nTasks (fun i=>!tkB W i) e),fun _=> [],
  fun args mem=>match args with| [a0,a1,a2]=>(match isFn 190 a2 with|true=>some ⟨intD (a1),wPTD (ptF (fnF a2 0) 0)⟩|false=>none)|_=>none⟩
def c_badT:Con:=⟨[],s_badT.g,none⟩
def V_badT:X_badT→Prop:=fun ⟨e,W⟩=>let a0:=W.nTasks;let b0:=(a0:Int);let c0:=W.nKinds;let d0:=W.nSlots;let e0:=W.nLines;let g0:=W.nCores;let h0:=W.nReady;let k0:=W.nTlbs;let l0:=bE a0 (fun o0:Nat=>!tkB W o0) e;let q0:=bA a0 (fun u0:Nat=>!tkB W u0) e;b0≤9223372036854775807→0=((0:Nat):Int)∧True∧(0≤a0∧(∀v0:Nat,v0<0→(!tkB W v0)=false))∧(∀w0:Nat,let x0:=(w0:Int);let y0:=decide (x0<b0);let z0:=0≤x0;let a1:=x0=x0;let b1:=W.tasks (Int.toNat x0);let c1:=b1.r0;let d1:=b1.r1;let e1:=b1.r2;let g1:=b1.r3;let h1:=b1.r4;let k1:=b1.r5;let l1:=b1.r6;let o1:=b1.r7;let q1:=b1.pc;let u1:=b1.st;let v1:=b1.prio;let w1:=b1.node;let x1:=b1.space;let y1:=b1.helper;let z1:=b1.loc;let a2:=b1.word;let b2:=b1.badge;let c2:=b1.owes;let d2:=b1.core;let e2:=b1.dom;let g2:=!tkB W (Int.toNat x0);let h2:Int:=x0+1;w0≤a0∧(∀k2:Nat,k2<w0→(!tkB W k2)=false)→(y0=true→(z0∧x0<b0)∧True∧tn 19 True∧((a1∧((((((((((((((((((((True∧c1=c1)∧d1=d1)∧e1=e1)∧g1=g1)∧h1=h1)∧k1=k1)∧l1=l1)∧o1=o1)∧q1=q1)∧u1=u1)∧v1=v1)∧w1=w1)∧x1=x1)∧y1=y1)∧z1=z1)∧a2=a2)∧b2=b2)∧c2=c2)∧d2=d2)∧e2=e2)∧(True∧((((((((((True∧W.nRam=W.nRam∧(∀l2:Nat,l2<W.nRam→True∧W.ram l2=W.ram l2))∧c0=c0∧(∀o2:Nat,o2<c0→True∧W.kinds o2=W.kinds o2))∧d0=d0∧(∀q2:Nat,let u2:=W.slots q2;let v2:=u2.kind;let w2:=u2.base;let x2:=u2.len;let y2:=u2.mark;let z2:=u2.rights;let a3:=u2.badge;let b3:=u2.from_;q2<d0→((((((True∧v2=v2)∧w2=w2)∧x2=x2)∧y2=y2)∧z2=z2)∧a3=a3)∧b3=b3))∧a0=a0∧(∀c3:Nat,let d3:=W.tasks c3;let e3:=d3.prio;let g3:=d3.node;let h3:=d3.space;let k3:=d3.helper;let l3:=d3.loc;let o3:=d3.word;let q3:=d3.badge;
    let u3:=d3.owes;let v3:=d3.core;let w3:=d3.dom;c3<a0→(((((((((((((((((((True∧d3.r0=d3.r0)∧d3.r1=d3.r1)∧d3.r2=d3.r2)∧d3.r3=d3.r3)∧d3.r4=d3.r4)∧d3.r5=d3.r5)∧d3.r6=d3.r6)∧d3.r7=d3.r7)∧d3.pc=d3.pc)∧d3.st=d3.st)∧e3=e3)∧g3=g3)∧h3=h3)∧k3=k3)∧l3=l3)∧o3=o3)∧q3=q3)∧u3=u3)∧v3=v3)∧w3=w3))∧e0=e0∧(∀x3:Nat,let y3:=W.linesN x3;x3<e0→True∧y3=y3∧(∀z3:Nat,z3<y3→True∧W.lines x3 z3=W.lines x3 z3)))∧W.nBits=W.nBits∧(∀a4:Nat,a4<W.nBits→True∧W.bits a4=W.bits a4))∧g0=g0∧(∀b4:Nat,b4<g0→True∧W.cores b4=W.cores b4))∧h0=h0∧(∀c4:Nat,let d4:=W.readyN c4;c4<h0→True∧d4=d4∧(∀e4:Nat,e4<d4→True∧W.ready c4 e4=W.ready c4 e4)))∧k0=k0∧(∀g4:Nat,let h4:=W.tlbsN g4;g4<k0→True∧h4=h4∧(∀k4:Nat,let l4:=W.tlbs g4 k4;let o4:=l4.sp;let q4:=l4.pg;let u4:=l4.fr;let v4:=l4.wr;k4<h4→(((True∧o4=o4)∧q4=q4)∧u4=u4)∧v4=v4)))∧W.nDoms=W.nDoms∧(∀w4:Nat,w4<W.nDoms→True∧W.doms w4=W.doms w4))∧W.time=W.time)∧True)∧True∧Szd W∧((∀x4:Nat,x4<e0→W.linesN x4≤50)∧(∀y4:Nat,y4<h0→W.readyN y4≤50)∧(∀z4:Nat,z4<k0→W.tlbsN z4≤50))∧z0∧x0<(c0:Int))∧(g2=true→((a1∧e=e∧True)∧True∧z0∧e≠0)∧(e=l0∧x0=q0)∧True)∧(g2=false→w64 h2=h2∧(∃a5:Nat,h2=(a5:Int)∧True∧(a5≤a0∧(∀b5:Nat,b5<a5→(!tkB W b5)=false))∧a0-a5<a0-w0)))∧(y0=false→(l0=0∧q0=(-1))∧True))
set_option maxHeartbeats 1000000 in
theorem ok_badT:FnOK Tryz.prog glN 189 c_badT:=ok_of (.cons ok_wAt (.cons ok_tasks1 .nil)) false Tryz.call189 Tryz.func189 (fun ⟨_,W⟩=> [.inv (an_bad W.nTasks (fun i=>!tkB W i))]) (V:=V_badT) (fun _=>by kernel_rfl) fun ⟨e,W⟩ hp=>by
  dsimp only [s_badT] at hp
  dsimp only [V_badT,tn,w64]
  obtain ⟨he,hp⟩:=hp
  simp only [std,stb,eq_self,implies_true,Bool.cond_self]
  have z1:=hp.1.tasks
  have z2:=hp.1.k1
  unfold bE bA
  refine fun _ s hs=>⟨fun h=>?_,fun h=>?_⟩
  · have hlt:=lt_of_dec h
    refine ⟨by omega,⟨hp.1,hp.2,by omega⟩,fun h1=>?_,fun h1=>⟨by rw [IntKind.wrap_i64];omega,exS ⟨⟨by omega,snocF (p:=fun i=>!tkB W i) hs.2 h1⟩,by omega⟩⟩⟩
    rw [fstE_at (p:=fun i=>!tkB W i) hs.2 h1 hlt]
    first|exact ⟨he,rfl,rfl⟩|exact ⟨⟨by omega,he⟩,rfl,rfl⟩
  · have hge:=ge_of_dec h
    rw [fstE_none (p:=fun i=>!tkB W i) fun j hj=>hs.2 j (by omega)]
    exact ⟨rfl,rfl⟩
structure X_badL where
  (e:Int) (W:Wd)
def s_badL:Sy.Spec:=⟨X_badL,fun ⟨e,W⟩=> [.sl true 1 W.nLines (fun i _=> .sl true 1 (W.linesN i) (iF (W.lines i))),.v (.int .i64 e),.fn 196 1 (lsv [.pt true 1 (fun _=>wPT W)])],fun _=> [],fun ⟨e,W⟩=>e≠0∧Szd W∧smB W,fun ⟨e,W⟩=> .er 35 116 (bE W.nLines (fun i=>!lnB W i) e) (bA W.nLines (fun i=>!lnB W i) e),fun _=> [],
  fun args mem=>match args with| [a0,a1,a2]=>(match isFn 196 a2 with|true=>some ⟨intD (a1),wPTD (ptF (fnF a2 0) 0)⟩|false=>none)|_=>none⟩
def c_badL:Con:=⟨[],s_badL.g,none⟩
def V_badL:X_badL→Prop:=fun ⟨e,W⟩=>let a0:=W.nLines;let b0:=(a0:Int);let c0:=W.nKinds;let d0:=W.nSlots;let e0:=W.nTasks;let g0:=W.nCores;let h0:=W.nReady;let k0:=W.nTlbs;let l0:=bE a0 (fun o0:Nat=>!lnB W o0) e;let q0:=bA a0 (fun u0:Nat=>!lnB W u0) e;b0≤9223372036854775807→0=((0:Nat):Int)∧True∧(0≤a0∧(∀v0:Nat,v0<0→(!lnB W v0)=false))∧(∀w0:Nat,let x0:=(w0:Int);let y0:=decide (x0<b0);let z0:=0≤x0;let a1:=x0=x0;let b1:=Int.toNat x0;let c1:=W.linesN b1;let d1:=!lnB W b1;let e1:Int:=x0+1;w0≤a0∧(∀g1:Nat,g1<w0→(!lnB W g1)=false)→(y0=true→(z0∧x0<b0)∧((a1∧(c1=c1∧(∀h1:Nat,h1<c1→True∧W.lines b1 h1=W.lines b1 h1))∧(True∧((((((((((True∧W.nRam=W.nRam∧(∀k1:Nat,k1<W.nRam→True∧W.ram k1=W.ram k1))∧c0=c0∧(∀l1:Nat,l1<c0→True∧W.kinds l1=W.kinds l1))∧d0=d0∧(∀o1:Nat,let q1:=W.slots o1;let u1:=q1.kind;let v1:=q1.base;let w1:=q1.len;let x1:=q1.mark;let y1:=q1.rights;let z1:=q1.badge;let a2:=q1.from_;o1<d0→((((((True∧u1=u1)∧v1=v1)∧w1=w1)∧x1=x1)∧y1=y1)∧z1=z1)∧a2=a2))∧e0=e0∧(∀b2:Nat,let c2:=W.tasks b2;let d2:=c2.prio;let e2:=c2.node;let g2:=c2.space;let h2:=c2.helper;let k2:=c2.loc;let l2:=c2.word;let o2:=c2.badge;let q2:=c2.owes;let u2:=c2.core;let v2:=c2.dom;b2<e0→(((((((((((((((((((True∧c2.r0=c2.r0)∧c2.r1=c2.r1)∧c2.r2=c2.r2)∧c2.r3=c2.r3)∧c2.r4=c2.r4)∧c2.r5=c2.r5)∧c2.r6=c2.r6)∧c2.r7=c2.r7)∧c2.pc=c2.pc)∧c2.st=c2.st)∧d2=d2)∧e2=e2)∧g2=g2)∧h2=h2)∧k2=k2)∧l2=l2)∧o2=o2)∧q2=q2)∧u2=u2)∧v2=v2))∧a0=a0∧(∀w2:Nat,let x2:=W.linesN w2;w2<a0→True∧x2=x2∧(∀y2:Nat,y2<x2→True∧W.lines w2 y2=W.lines w2 y2)))∧W.nBits=W.nBits∧(∀z2:Nat,z2<W.nBits→True∧
    W.bits z2=W.bits z2))∧g0=g0∧(∀a3:Nat,a3<g0→True∧W.cores a3=W.cores a3))∧h0=h0∧(∀b3:Nat,let c3:=W.readyN b3;b3<h0→True∧c3=c3∧(∀d3:Nat,d3<c3→True∧W.ready b3 d3=W.ready b3 d3)))∧k0=k0∧(∀e3:Nat,let g3:=W.tlbsN e3;e3<k0→True∧g3=g3∧(∀h3:Nat,let k3:=W.tlbs e3 h3;let l3:=k3.sp;let o3:=k3.pg;let q3:=k3.fr;let u3:=k3.wr;h3<g3→(((True∧l3=l3)∧o3=o3)∧q3=q3)∧u3=u3)))∧W.nDoms=W.nDoms∧(∀v3:Nat,v3<W.nDoms→True∧W.doms v3=W.doms v3))∧W.time=W.time)∧True)∧True∧Szd W∧((∀w3:Nat,w3<a0→W.linesN w3≤50)∧(∀x3:Nat,x3<h0→W.readyN x3≤50)∧(∀y3:Nat,y3<k0→W.tlbsN y3≤50))∧z0∧x0<(c0:Int))∧(d1=true→((a1∧e=e∧True)∧True∧z0∧e≠0)∧(e=l0∧x0=q0)∧True)∧(d1=false→w64 e1=e1∧(∃z3:Nat,e1=(z3:Int)∧True∧(z3≤a0∧(∀a4:Nat,a4<z3→(!lnB W a4)=false))∧a0-z3<a0-w0)))∧(y0=false→(l0=0∧q0=(-1))∧True))
set_option maxHeartbeats 1000000 in
theorem ok_badL:FnOK Tryz.prog glN 195 c_badL:=ok_of (.cons ok_wAt (.cons ok_lines1 .nil)) false Tryz.call195 Tryz.func195 (fun ⟨_,W⟩=> [.inv (an_bad W.nLines (fun i=>!lnB W i))]) (V:=V_badL) (fun _=>by kernel_rfl) fun ⟨e,W⟩ hp=>by
  dsimp only [s_badL] at hp
  dsimp only [V_badL,tn,w64]
  obtain ⟨he,hp⟩:=hp
  simp only [std,stb,eq_self,implies_true,Bool.cond_self]
  have z1:=hp.1.lines
  have z2:=hp.1.k1
  unfold bE bA
  refine fun _ s hs=>⟨fun h=>?_,fun h=>?_⟩
  · have hlt:=lt_of_dec h
    refine ⟨by omega,⟨hp.1,hp.2,by omega⟩,fun h1=>?_,fun h1=>⟨by rw [IntKind.wrap_i64];omega,exS ⟨⟨by omega,snocF (p:=fun i=>!lnB W i) hs.2 h1⟩,by omega⟩⟩⟩
    rw [fstE_at (p:=fun i=>!lnB W i) hs.2 h1 hlt]
    first|exact ⟨he,rfl,rfl⟩|exact ⟨⟨by omega,he⟩,rfl,rfl⟩
  · have hge:=ge_of_dec h
    rw [fstE_none (p:=fun i=>!lnB W i) fun j hj=>hs.2 j (by omega)]
    exact ⟨rfl,rfl⟩
structure X_badR where
  (e:Int) (W:Wd)
def s_badR:Sy.Spec:=⟨X_badR,fun ⟨e,W⟩=> [.sl true 1 W.nReady (fun i _=> .sl true 1 (W.readyN i) (iF (W.ready i))),.v (.int .i64 e),.fn 199 1 (lsv [.pt true 1 (fun _=> .fn 197 1 (lsv [.pt true 1 (fun _=>wPT W)]))])],fun _=> [],fun ⟨e,W⟩=>e≠0∧Szd W∧smB W,fun ⟨e,W⟩=> .er 35 116 (bE W.nReady (fun i=>!rlB W i) e) (bA W.nReady (fun i=>!rlB W i) e),fun _=> [],
  fun args mem=>match args with| [a0,a1,a2]=>(match isFn 199 a2 with|true=>some ⟨intD (a1),wPTD (ptF (fnF (ptF (fnF a2 0) 0) 0) 0)⟩|false=>none)|_=>none⟩
def c_badR:Con:=⟨[],s_badR.g,none⟩
def V_badR:X_badR→Prop:=fun ⟨e,W⟩=>let a0:=W.nReady;let b0:=(a0:Int);let c0:=W.nKinds;let d0:=W.nSlots;let e0:=W.nTasks;let g0:=W.nLines;let h0:=W.nCores;let k0:=W.nTlbs;let l0:=bE a0 (fun o0:Nat=>!rlB W o0) e;let q0:=bA a0 (fun u0:Nat=>!rlB W u0) e;b0≤9223372036854775807→0=((0:Nat):Int)∧True∧(0≤a0∧(∀v0:Nat,v0<0→(!rlB W v0)=false))∧(∀w0:Nat,let x0:=(w0:Int);let y0:=decide (x0<b0);let z0:=0≤x0∧x0<b0;let a1:=x0=x0;let b1:=Int.toNat x0;let c1:=W.readyN b1;let d1:=!rlB W b1;let e1:Int:=x0+1;w0≤a0∧(∀g1:Nat,g1<w0→(!rlB W g1)=false)→(y0=true→z0∧((a1∧(c1=c1∧(∀h1:Nat,h1<c1→True∧W.ready b1 h1=W.ready b1 h1))∧tn 3 (((((((((((True∧W.nRam=W.nRam∧(∀k1:Nat,k1<W.nRam→True∧W.ram k1=W.ram k1))∧c0=c0∧(∀l1:Nat,l1<c0→True∧W.kinds l1=W.kinds l1))∧d0=d0∧(∀o1:Nat,let q1:=W.slots o1;let u1:=q1.kind;let v1:=q1.base;let w1:=q1.len;let x1:=q1.mark;let y1:=q1.rights;let z1:=q1.badge;let a2:=q1.from_;o1<d0→((((((True∧u1=u1)∧v1=v1)∧w1=w1)∧x1=x1)∧y1=y1)∧z1=z1)∧a2=a2))∧e0=e0∧(∀b2:Nat,let c2:=W.tasks b2;let d2:=c2.prio;let e2:=c2.node;let g2:=c2.space;let h2:=c2.helper;let k2:=c2.loc;let l2:=c2.word;let o2:=c2.badge;let q2:=c2.owes;let u2:=c2.core;let v2:=c2.dom;b2<e0→(((((((((((((((((((True∧c2.r0=c2.r0)∧c2.r1=c2.r1)∧c2.r2=c2.r2)∧c2.r3=c2.r3)∧c2.r4=c2.r4)∧c2.r5=c2.r5)∧c2.r6=c2.r6)∧c2.r7=c2.r7)∧c2.pc=c2.pc)∧c2.st=c2.st)∧d2=d2)∧e2=e2)∧g2=g2)∧h2=h2)∧k2=k2)∧l2=l2)∧o2=o2)∧q2=q2)∧u2=u2)∧v2=v2))∧g0=g0∧(∀w2:Nat,let x2:=W.linesN w2;w2<g0→True∧x2=x2∧(∀y2:Nat,y2<x2→True∧W.lines w2 y2=W.lines w2 y2)))∧W.nBits=W.nBits∧(∀z2:Nat,z2<W.nBits→True∧
    W.bits z2=W.bits z2))∧h0=h0∧(∀a3:Nat,a3<h0→True∧W.cores a3=W.cores a3))∧a0=a0∧(∀b3:Nat,let c3:=W.readyN b3;b3<a0→True∧c3=c3∧(∀d3:Nat,d3<c3→True∧W.ready b3 d3=W.ready b3 d3)))∧k0=k0∧(∀e3:Nat,let g3:=W.tlbsN e3;e3<k0→True∧g3=g3∧(∀h3:Nat,let k3:=W.tlbs e3 h3;let l3:=k3.sp;let o3:=k3.pg;let q3:=k3.fr;let u3:=k3.wr;h3<g3→(((True∧l3=l3)∧o3=o3)∧q3=q3)∧u3=u3)))∧W.nDoms=W.nDoms∧(∀v3:Nat,v3<W.nDoms→True∧W.doms v3=W.doms v3))∧W.time=W.time)∧True)∧True∧Szd W∧((∀w3:Nat,w3<g0→W.linesN w3≤50)∧(∀x3:Nat,x3<a0→W.readyN x3≤50)∧(∀y3:Nat,y3<k0→W.tlbsN y3≤50))∧z0)∧(d1=true→((a1∧e=e∧True)∧True∧0≤x0∧e≠0)∧(e=l0∧x0=q0)∧True)∧(d1=false→w64 e1=e1∧(∃z3:Nat,e1=(z3:Int)∧True∧(z3≤a0∧(∀a4:Nat,a4<z3→(!rlB W a4)=false))∧a0-z3<a0-w0)))∧(y0=false→(l0=0∧q0=(-1))∧True))
set_option maxHeartbeats 1000000 in
theorem ok_badR:FnOK Tryz.prog glN 195 c_badR:=ok_of (.cons ok_wAt (.cons ok_turns3 .nil)) false Tryz.call195 Tryz.func195 (fun ⟨_,W⟩=> [.inv (an_bad W.nReady (fun i=>!rlB W i))]) (V:=V_badR) (fun _=>by kernel_rfl) fun ⟨e,W⟩ hp=>by
  dsimp only [s_badR] at hp
  dsimp only [V_badR,tn,w64]
  obtain ⟨he,hp⟩:=hp
  simp only [std,stb,eq_self,implies_true,Bool.cond_self]
  have z1:=hp.1.ready
  have z2:=hp.1.c1
  unfold bE bA
  refine fun _ s hs=>⟨fun h=>?_,fun h=>?_⟩
  · have hlt:=lt_of_dec h
    refine ⟨by omega,⟨hp.1,hp.2,by omega⟩,fun h1=>?_,fun h1=>⟨by rw [IntKind.wrap_i64];omega,exS ⟨⟨by omega,snocF (p:=fun i=>!rlB W i) hs.2 h1⟩,by omega⟩⟩⟩
    rw [fstE_at (p:=fun i=>!rlB W i) hs.2 h1 hlt]
    first|exact ⟨he,rfl,rfl⟩|exact ⟨⟨by omega,he⟩,rfl,rfl⟩
  · have hge:=ge_of_dec h
    rw [fstE_none (p:=fun i=>!rlB W i) fun j hj=>hs.2 j (by omega)]
    exact ⟨rfl,rfl⟩
structure X_badE where
  (e:Int) (W:Wd)
def s_badE:Sy.Spec:=⟨X_badE,fun ⟨e,W⟩=> [.sl true 1 W.nTlbs (fun i _=> .sl true 4 (W.tlbsN i) (rF fun k=>enL (W.tlbs i k))),.v (.int .i64 e),.fn 204 1 (lsv [.pt true 1 (fun _=>wPT W)])],fun _=> [],fun ⟨e,W⟩=>e≠0∧Szd W∧smB W∧ ∀i,i<W.nRam→isW (W.ram i),fun ⟨e,W⟩=> .er 35 116 (bE W.nTlbs (fun i=>!tlB W (W.tlbsN i) (W.tlbs i)) e) (bA W.nTlbs (fun i=>!tlB W (W.tlbsN i) (W.tlbs i)) e),fun _=> [],
  fun args mem=>match args with| [a0,a1,a2]=>(match isFn 204 a2 with|true=>some ⟨intD (a1),wPTD (ptF (fnF a2 0) 0)⟩|false=>none)|_=>none⟩
def c_badE:Con:=⟨[],s_badE.g,none⟩
def V_badE:X_badE→Prop:=fun ⟨e,W⟩=>let a0:=W.nTlbs;let b0:=(a0:Int);let c0:=W.nRam;let d0:=W.nKinds;let e0:=W.nSlots;let g0:=W.nTasks;let h0:=W.nLines;let k0:=W.nCores;let l0:=W.nReady;let o0:=bE a0 (fun q0:Nat=>!tlB W (W.tlbsN q0) (W.tlbs q0)) e;let u0:=bA a0 (fun v0:Nat=>!tlB W (W.tlbsN v0) (W.tlbs v0)) e;b0≤9223372036854775807→0=((0:Nat):Int)∧True∧(0≤a0∧(∀w0:Nat,w0<0→(!tlB W (W.tlbsN w0) (W.tlbs w0))=false))∧(∀x0:Nat,let y0:=(x0:Int);let z0:=decide (y0<b0);let a1:=y0=y0;let b1:=Int.toNat y0;let c1:=W.tlbsN b1;let d1:=!tlB W c1 (W.tlbs b1);let e1:Int:=y0+1;x0≤a0∧(∀g1:Nat,g1<x0→(!tlB W (W.tlbsN g1) (W.tlbs g1))=false)→(z0=true→(0≤y0∧y0<b0)∧((a1∧(c1=c1∧(∀h1:Nat,let k1:=W.tlbs b1 h1;let l1:=k1.sp;let o1:=k1.pg;let q1:=k1.fr;let u1:=k1.wr;h1<c1→(((True∧l1=l1)∧o1=o1)∧q1=q1)∧u1=u1))∧(True∧((((((((((True∧c0=c0∧(∀v1:Nat,v1<c0→True∧W.ram v1=W.ram v1))∧d0=d0∧(∀w1:Nat,w1<d0→True∧W.kinds w1=W.kinds w1))∧e0=e0∧(∀x1:Nat,let y1:=W.slots x1;let z1:=y1.kind;let a2:=y1.base;let b2:=y1.len;let c2:=y1.mark;let d2:=y1.rights;let e2:=y1.badge;let g2:=y1.from_;x1<e0→((((((True∧z1=z1)∧a2=a2)∧b2=b2)∧c2=c2)∧d2=d2)∧e2=e2)∧g2=g2))∧g0=g0∧(∀h2:Nat,let k2:=W.tasks h2;let l2:=k2.prio;let o2:=k2.node;let q2:=k2.space;let u2:=k2.helper;let v2:=k2.loc;let w2:=k2.word;let x2:=k2.badge;let y2:=k2.owes;let z2:=k2.core;let a3:=k2.dom;h2<g0→(((((((((((((((((((True∧k2.r0=k2.r0)∧k2.r1=k2.r1)∧k2.r2=k2.r2)∧k2.r3=k2.r3)∧k2.r4=k2.r4)∧k2.r5=k2.r5)∧k2.r6=k2.r6)∧k2.r7=k2.r7)∧k2.pc=k2.pc)∧k2.st=k2.st)∧l2=l2)∧o2=o2)∧q2=q2)∧u2=u2)∧v2=v2)∧w2=w2)∧x2=x2)∧y2=y2)∧
    z2=z2)∧a3=a3))∧h0=h0∧(∀b3:Nat,let c3:=W.linesN b3;b3<h0→True∧c3=c3∧(∀d3:Nat,d3<c3→True∧W.lines b3 d3=W.lines b3 d3)))∧W.nBits=W.nBits∧(∀e3:Nat,e3<W.nBits→True∧W.bits e3=W.bits e3))∧k0=k0∧(∀g3:Nat,g3<k0→True∧W.cores g3=W.cores g3))∧l0=l0∧(∀h3:Nat,let k3:=W.readyN h3;h3<l0→True∧k3=k3∧(∀l3:Nat,l3<k3→True∧W.ready h3 l3=W.ready h3 l3)))∧a0=a0∧(∀o3:Nat,let q3:=W.tlbsN o3;o3<a0→True∧q3=q3∧(∀u3:Nat,let v3:=W.tlbs o3 u3;let w3:=v3.sp;let x3:=v3.pg;let y3:=v3.fr;let z3:=v3.wr;u3<q3→(((True∧w3=w3)∧x3=x3)∧y3=y3)∧z3=z3)))∧W.nDoms=W.nDoms∧(∀a4:Nat,a4<W.nDoms→True∧W.doms a4=W.doms a4))∧W.time=W.time)∧True)∧True∧Szd W∧c1≤1000∧(∀b4:Nat,b4<c0→0≤W.ram b4∧W.ram b4≤65535))∧(d1=true→((a1∧e=e∧True)∧True∧0≤y0∧e≠0)∧(e=o0∧y0=u0)∧True)∧(d1=false→w64 e1=e1∧(∃c4:Nat,e1=(c4:Int)∧True∧(c4≤a0∧(∀d4:Nat,d4<c4→(!tlB W (W.tlbsN d4) (W.tlbs d4))=false))∧a0-c4<a0-x0)))∧(z0=false→(o0=0∧u0=(-1))∧True))
set_option maxHeartbeats 1000000 in
theorem ok_badE:FnOK Tryz.prog glN 203 c_badE:=ok_of (.cons ok_wAt (.cons ok_maps2 .nil)) false Tryz.call203 Tryz.func203 (fun ⟨_,W⟩=> [.inv (an_bad W.nTlbs (fun i=>!tlB W (W.tlbsN i) (W.tlbs i)))]) (V:=V_badE) (fun _=>by kernel_rfl) fun ⟨e,W⟩ hp=>by
  dsimp only [s_badE] at hp
  dsimp only [V_badE,tn,w64]
  obtain ⟨he,hp⟩:=hp
  simp only [std,stb,eq_self,implies_true,Bool.cond_self]
  have z1:=hp.1.tlbs
  have z2:=hp.1.c1
  unfold bE bA
  refine fun _ s hs=>⟨fun h=>?_,fun h=>?_⟩
  · have hlt:=lt_of_dec h
    refine ⟨by omega,⟨hp.1,by have:=hp.2.1.2.2 s hlt;omega,hp.2.2⟩,fun h1=>?_,fun h1=>⟨by rw [IntKind.wrap_i64];omega,exS ⟨⟨by omega,snocF (p:=fun i=>!tlB W (W.tlbsN i) (W.tlbs i)) hs.2 h1⟩,by omega⟩⟩⟩
    rw [fstE_at (p:=fun i=>!tlB W (W.tlbsN i) (W.tlbs i)) hs.2 h1 hlt]
    first|exact ⟨he,rfl,rfl⟩|exact ⟨⟨by omega,he⟩,rfl,rfl⟩
  · have hge:=ge_of_dec h
    rw [fstE_none (p:=fun i=>!tlB W (W.tlbsN i) (W.tlbs i)) fun j hj=>hs.2 j (by omega)]
    exact ⟨rfl,rfl⟩
end Go.Proofs.YtdjilaofmdhikaaGreatDoor
