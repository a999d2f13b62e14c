/- Keys that are dropped: the program. -/
import Derived.Test.YtdjilaofmdhikaaGreatDoorYO
import Derived.Test.YtdjilaofmdhikaaGreatDoorYI
import Derived.Test.YtdjilaofmdhikaaGreatDoorYL
import Derived.Test.YtdjilaofmdhikaaGreatDoorYN
set_option linter.unusedVariables false
set_option linter.unusedSimpArgs false
set_option linter.unusedVariables false
set_option linter.unusedSimpArgs false
set_option maxRecDepth 100000
namespace Go.Proofs.YtdjilaofmdhikaaGreatDoor
open Go.RowKit Go.Sy
structure X_buryP where
  (f:Int) (W:Wd)
def s_buryP (N_:Nat):Sy.Spec:=⟨X_buryP,fun ⟨f,_⟩=> [.ptr 0 0 none 0 0,.v (.int .i64 f)],fun ⟨_,W⟩=>wMem W,fun ⟨f,W⟩=>JJ W∧cntF W+1≤N_∧0≤f∧f<W.nKinds,fun _=> .tp 0 (lsv []),fun ⟨f,W⟩=>wMem (bur N_ W f),fun args mem=>match args with| [_,a1]=>some ⟨intD a1,wMJD mem 0⟩|_=>none⟩
def c_buryP (N_:Nat):Con:=⟨[true],(s_buryP N_).g,none⟩
def sameL (n:Nat) (t:Nat→Slt) (k b:Int):Bool:=anyB n fun i=>(t i).kind==k&&(t i).base==b
def an_ixd (z n:Nat) (p:Nat→Bool):Ann where
  σ:=Nat
  rt:= []
  sh i:= [(z,.v (.int .i64 i))]
  mh _:= []
  inv i:=i≤n∧ ∀j,j<i→p j=false
  μ i:=n -i
  init:=0
theorem same_idx {n:Nat} {t:Nat→Slt} {k b:Int}:decide (0≤idxB n fun i=>(t i).kind==k&&(t i).base==b)=sameL n t k b:=by
  unfold sameL
  cases h:anyB n fun i=>(t i).kind==k&&(t i).base==b with
  |true=>
   obtain ⟨i,hi,he⟩:=anyB_iff.1 h
   have hlt:=fstB_lt (p:=fun i=>(t i).kind==k&&(t i).base==b) hi he
   unfold idxB
   rw [blt_t hlt]
   exact decide_eq_true (Int.natCast_nonneg _)
  |false=>
   rw [idxB_none (p:=fun i=>(t i).kind==k&&(t i).base==b) fun i hi=>anyB_false.1 h i hi]
   rfl
def cutP (W:Wd) (f k:Int):Cut where
  σ:=Nat
  rt:= [(3,0)]
  sh _:= [(0,pt0 0),(3,pt0 11),(4,.v (.int .i64 k))]
  mem _:=wMem (kz W f)++ [.cells [.v (.int .i64 f)]]
  inv _:=True
  dec _ _:=0
def an_tkP (k:Nat) (W:Wd) (f:Int) (z:Nat):Ann where
  σ:=Nat
  rt:= [(3,0)]
  sh i:= [(0,pt0 0),(3,pt0 11),(z,.v (.int .i64 i))]
  mh i:= [(4,.row 20 W.nTasks (rF fun q=>runL (mixK k W f i q)))]
  inv i:=i≤W.nTasks
  μ i:=W.nTasks -i
  init:=0
def an_noP (n:Nat) (z:Nat):Ann where
  σ:=Nat
  rt:= [(3,0)]
  sh i:= [(0,pt0 0),(3,pt0 11),(z,.v (.int .i64 i))]
  mh _:= []
  inv i:=i≤n
  μ i:=n -i
  init:=0
def an_ndP (D:Wd→Int→Wd) (W:Wd) (f:Int) (z:Nat):Ann where
  σ:=Nat
  rt:= [(3,0)]
  sh i:= [(0,pt0 0),(3,pt0 11),(z,.v (.int .i64 (15 -i)))]
  mh i:=mhW (ndK D W f i)
  inv i:=i≤16
  μ i:=16 -i
  init:=0
def an_drP (W:Wd) (f:Int):Ann where
  σ:=Nat
  rt:= [(3,0)]
  sh i:= [(0,pt0 0),(3,pt0 11),(179,.slc 5 0 (some (f.toNat,0)) 0 (W.linesN f.toNat)),(181,.v (.int .i64 i))]
  mh i:= [(4,.row 20 W.nTasks (rF fun q=>runL (drS 8 W f i q)))]
  inv i:=i≤W.linesN f.toNat
  μ i:=W.linesN f.toNat -i
  init:=0
def drH (W:Wd) (f:Int) (s i:Nat):Run:=bif Nat.blt i s then hpT 7 f (drS 8 W f (W.linesN f.toNat) i) else drS 8 W f (W.linesN f.toNat) i
theorem owe_ne {o f:Int} (h:0≤f):((bif o==f then -1 else o)==f)=false:=by
  cases e:o==f
  · exact e
  · exact beq_eq_false_iff_ne.2 (by show (-1:Int)≠f;omega)
theorem drop_no {G:Wd→Int→Wd} {W:Wd} {s:Int} (h:((W.slots s.toNat).kind !=0)=false):dropBy G W s=W:=by
  unfold dropBy
  cases e:hasE W s==0
  · rfl
  · exact absurd (has_in e).2 (by simpa using h)
theorem drS_hp {W:Wd} {f:Int} {s i:Nat} (hi:i<W.nTasks):(drS 8 W f s i).helper=(W.tasks i).helper:=by
  unfold drS
  rw [mixK_lt hi]
  cases inB' s (W.lines f.toNat) i<;>rfl
theorem drH_lt {W:Wd} {f:Int} {s i:Nat} (h:i<s):drH W f s i=hpT 7 f (drS 8 W f (W.linesN f.toNat) i):=by unfold drH;rw [blt_t h];rfl
theorem drH_ge {W:Wd} {f:Int} {s i:Nat} (h:s≤i):drH W f s i=drS 8 W f (W.linesN f.toNat) i:=by unfold drH;rw [blt_f h];rfl
def an_hpP (W:Wd) (f:Int) (z:Nat):Ann where
  σ:=Nat
  rt:= [(3,0)]
  sh i:= [(0,pt0 0),(3,pt0 11),(z,.v (.int .i64 i))]
  mh i:= [(4,.row 20 W.nTasks (rF fun q=>runL (drH W f i q)))]
  inv i:=i≤W.nTasks
  μ i:=W.nTasks -i
  init:=0
structure X_dpC where
  (s:Slt) (k b:Int)
def s_dpC:Sy.Spec:=⟨X_dpC,fun ⟨s,k,b⟩=> [.ag 7 (lsv (slL s)),.pt true 6 (lsv [.v (.int .i64 k),.v (.int .i64 b)])],fun _=> [],fun _=>True,fun ⟨s,k,b⟩=> .v (.bool (s.kind==k&&s.base==b)),fun _=> [],
  fun args mem=>match args with| [a0,a1]=>some ⟨slBD (agD a0),intD (ptF a1 0),intD (ptF a1 1)⟩|_=>none⟩
def c_dpC:Con:=⟨[],(s_dpC).g,none⟩
def V_dpC:X_dpC→Prop:=fun ⟨s,k,b⟩=>True∧cond (s.kind==k) (s.base==b) false=(s.kind==k&&s.base==b)∧True
theorem ok_dpC:FnOK Tryz.prog glN 159 c_dpC:=ok_of .nil false Tryz.call159 Tryz.func159 (fun _=> []) (V:=V_dpC) (fun _=>by kernel_rfl) fun ⟨s,k,b⟩ hp=>by
  dsimp only [V_dpC,tn,w64,wEq,rEq,sEq,eEq]
  simp only [std,stb,eq_self,implies_true,Bool.cond_self]
  try simp only [wd_eta]
structure X_ixD where
  (n:Nat) (t:Nat→Slt) (k b:Int)
def s_ixD:Sy.Spec:=⟨X_ixD,fun ⟨n,t,k,b⟩=> [.sl true 7 n (rF fun i=>slL (t i)),.fn 159 1 (lsv [.pt true 6 (lsv [.v (.int .i64 k),.v (.int .i64 b)])])],fun _=> [],fun ⟨n,_,_,_⟩=>n≤100000,fun ⟨n,t,k,b⟩=> .v (.int .i64 (idxB n fun i=>(t i).kind==k&&(t i).base==b)),fun _=> [],
  fun args mem=>match args with| [a0,a1]=>(match isFn 159 a1 with|true=>some ⟨slN a0,fun i=>slBD (fun j=>slF a0 i j),intD (ptF (fnF a1 0) 0),intD (ptF (fnF a1 0) 1)⟩|false=>none)|_=>none⟩
def c_ixD:Con:=⟨[],(s_ixD).g,none⟩
def V_ixD:X_ixD→Prop:=fun ⟨n,t,k,b⟩=>let a0:=(n:Int);let b0:=idxB n (fun c0:Nat=>(t c0).kind==k&&(t c0).base==b);a0≤9223372036854775807→0=((0:Nat):Int)∧True∧(0≤n∧(∀d0:Nat,d0<0→((t d0).kind==k&&(t d0).base==b)=false))∧(∀e0:Nat,let g0:=(e0:Int);let h0:=decide (g0<a0);let k0:=t (Int.toNat g0);let l0:=k0.kind==k&&k0.base==b;let o0:Int:=g0+1;e0≤n∧(∀q0:Nat,q0<e0→((t q0).kind==k&&(t q0).base==b)=false)→(h0=true→(0≤g0∧g0<a0)∧((sEq k0 k0∧((((((True∧k=k)∧b=b)∧True)∧True)∧True)∧True)∧True)∧True∧True)∧(l0=true→g0=b0∧True)∧(l0=false→w64 o0=o0∧(∃r0:Nat,o0=(r0:Int)∧True∧(r0≤n∧(∀u0:Nat,u0<r0→((t u0).kind==k&&(t u0).base==b)=false))∧n-r0<n-e0)))∧(h0=false→(-1)=b0∧True))
theorem ok_ixD:FnOK Tryz.prog glN 136 c_ixD:=ok_of (.cons ok_dpC .nil) false Tryz.call136 Tryz.func136 (fun ⟨n,t,k,b⟩=> [.inv (an_ixd 8 n fun i=>(t i).kind==k&&(t i).base==b)]) (V:=V_ixD) (fun _=>by kernel_rfl) fun ⟨n,t,k,b⟩ hp=>by
  dsimp only [s_ixD] at hp
  dsimp only [V_ixD,tn,w64,wEq,rEq,sEq,eEq]
  simp only [std,stb,eq_self,implies_true,Bool.cond_self]
  try simp only [wd_eta]
  refine fun _ s hs=>⟨fun h=>?_,fun h=>?_⟩
  · have hlt:=lt_of_dec h
    exact ⟨by omega,fun h=>(idxB_at (p:=fun i=>(t i).kind==k&&(t i).base==b) hs.2 h hlt).symm,fun h=>⟨wr_in (by omega) (by omega),exS ⟨⟨by omega,snocF (p:=fun i=>(t i).kind==k&&(t i).base==b) hs.2 h⟩,by omega⟩⟩⟩
  · have hge:=ge_of_dec h
    obtain rfl:s=n:=by omega
    exact (idxB_none (p:=fun i=>(t i).kind==k&&(t i).base==b) hs.2).symm
structure X_cnD where
  (n:Nat) (t:Nat→Slt) (k b:Int)
def s_cnD:Sy.Spec:=⟨X_cnD,fun ⟨n,t,k,b⟩=> [.sl true 7 n (rF fun i=>slL (t i)),.fn 159 1 (lsv [.pt true 6 (lsv [.v (.int .i64 k),.v (.int .i64 b)])])],fun _=> [],fun ⟨n,_,_,_⟩=>n≤100000,fun ⟨n,t,k,b⟩=> .v (.bool (sameL n t k b)),fun _=> [],
  fun args mem=>match args with| [a0,a1]=>(match isFn 159 a1 with|true=>some ⟨slN a0,fun i=>slBD (fun j=>slF a0 i j),intD (ptF (fnF a1 0) 0),intD (ptF (fnF a1 0) 1)⟩|false=>none)|_=>none⟩
def c_cnD:Con:=⟨[],(s_cnD).g,none⟩
def V_cnD:X_cnD→Prop:=fun ⟨n,t,k,b⟩=>(((n=n∧(∀a0:Nat,a0<n→sEq (t a0) (t a0)))∧(True∧(((((True∧k=k)∧b=b)∧True)∧True)∧True)∧True)∧True)∧True∧s_ixD.match_1 (fun b0:X_ixD=>Prop) (X_ixD.mk n t k b) (fun c0:Nat=>fun d0:∀e0:Nat,Slt=>fun g0:Int=>fun h0:Int=>c0≤100000))∧decide (0≤idxB n (fun k0:Nat=>(t k0).kind==k&&(t k0).base==b))=sameL n t k b∧True
theorem ok_cnD:FnOK Tryz.prog glN 83 c_cnD:=ok_of (.cons ok_ixD .nil) false Tryz.call83 Tryz.func83 (fun _=> []) (V:=V_cnD) (fun _=>by kernel_rfl) fun ⟨n,t,k,b⟩ hp=>by
  dsimp only [s_cnD] at hp
  dsimp only [V_cnD,tn,w64,wEq,rEq,sEq,eEq]
  simp only [std,stb,eq_self,implies_true,Bool.cond_self]
  try simp only [wd_eta]
  exact ⟨hp,same_idx⟩
structure X_doDrop where
  (s:Int) (W:Wd)
def s_doDrop (N_:Nat):Sy.Spec:=⟨X_doDrop,fun ⟨s,_⟩=> [.ptr 0 0 none 0 0,.v (.int .i64 s)],fun ⟨_,W⟩=>wMem W,fun ⟨_,W⟩=>JJ W∧cntF W≤N_,fun ⟨s,W⟩=> .er 35 116 (hasE W s) (-1),fun ⟨s,W⟩=>wMem (dropBy (bur N_) W s),
  fun args mem=>match args with| [a0,a1]=>some ⟨intD (a1),wMJD mem 0⟩|_=>none⟩
def c_doDrop (N_:Nat):Con:=⟨[true],(s_doDrop N_).g,none⟩
def V_doDrop (N_:Nat):X_doDrop→Prop:=fun ⟨s,W⟩=>let a0:=W.nRam;let b0:=W.nKinds;let c0:=W.nSlots;let d0:=c0=c0;let e0:=W.nTasks;let g0:=W.nLines;let h0:=W.nBits;let k0:=W.nCores;let l0:=W.nReady;let o0:=W.nTlbs;let q0:=W.nDoms;let r0:=hasE (Wd.mk a0 (fun u0:Nat=>W.ram (0+u0)) b0 (fun v0:Nat=>W.kinds (0+v0)) c0 (fun w0:Nat=>W.slots (0+w0)) e0 (fun x0:Nat=>W.tasks (0+x0)) g0 (fun y0:Nat=>W.linesN (0+y0)) (fun z0:Nat=>fun a1:Nat=>W.lines (0+z0) (0+a1)) h0 (fun b1:Nat=>W.bits (0+b1)) k0 (fun c1:Nat=>W.cores (0+c1)) l0 (fun d1:Nat=>W.readyN (0+d1)) (fun e1:Nat=>fun g1:Nat=>W.ready (0+e1) (0+g1)) o0 (fun h1:Nat=>W.tlbsN (0+h1)) (fun k1:Nat=>fun l1:Nat=>W.tlbs (0+k1) (0+l1)) q0 (fun o1:Nat=>W.doms (0+o1)) W.time) s;let q1:=r0 !=0;let r1:=dropBy (bur N_) W s;let u1:=0≤s∧s<(c0:Int);let v1:=SV.ptr 0 0 none 0 0=SV.ptr 0 0 none 0 0;let w1:=0+Int.toNat s;let x1:=W.slots w1;let y1:=x1.from_;let z1:=false=false;let a2:=x1.kind;let b2:=a2 !=1;let c2:=x1.base;let d2:=c2=c2;let e2:=cond b2 (!sameL c0 (fun g2:Nat=>let h2:=Nat.beq (0+g2) w1;let k2:=trn s y1 (W.slots (0+g2));Slt.mk (cond h2 0 k2.kind) (cond h2 0 k2.base) (cond h2 0 k2.len) (cond h2 0 k2.mark) (cond h2 0 k2.rights) (cond h2 0 k2.badge) (cond h2 (-1) k2.from_)) a2 c2) false;let l2:={W with slots:=fun o2:Nat=>let q2:=Nat.beq o2 w1;let r2:=trn s y1 (W.slots o2);Slt.mk (cond q2 0 r2.kind) (cond q2 0 r2.base) (cond q2 0 r2.len) (cond q2 0 r2.mark) (cond q2 0 r2.rights) (cond q2 0 r2.badge) (cond q2 (-1) r2.from_)};let u2:=hasE W s=0∧((-1):Int)=(-1);(((((((((((((True∧a0=a0∧(∀v2:Nat,
    v2<a0→True∧W.ram (0+v2)=W.ram (0+v2)))∧b0=b0∧(∀w2:Nat,let x2:=W.kinds (0+w2);w2<b0→True∧x2=x2))∧d0∧(∀y2:Nat,let z2:=W.slots (0+y2);y2<c0→sEq z2 z2))∧e0=e0∧(∀a3:Nat,let b3:=W.tasks (0+a3);a3<e0→rEq b3 b3))∧g0=g0∧(∀c3:Nat,let d3:=W.linesN (0+c3);c3<g0→True∧d3=d3∧(∀e3:Nat,let g3:=W.lines (0+c3) (0+e3);e3<d3→True∧g3=g3)))∧h0=h0∧(∀h3:Nat,h3<h0→True∧W.bits (0+h3)=W.bits (0+h3)))∧k0=k0∧(∀k3:Nat,let l3:=W.cores (0+k3);k3<k0→True∧l3=l3))∧l0=l0∧(∀o3:Nat,let q3:=W.readyN (0+o3);o3<l0→True∧q3=q3∧(∀r3:Nat,let u3:=W.ready (0+o3) (0+r3);r3<q3→True∧u3=u3)))∧o0=o0∧(∀v3:Nat,let w3:=W.tlbsN (0+v3);v3<o0→True∧w3=w3∧(∀x3:Nat,let y3:=W.tlbs (0+v3) (0+x3);x3<w3→eEq y3 y3)))∧q0=q0∧(∀z3:Nat,z3<q0→True∧W.doms (0+z3)=W.doms (0+z3)))∧W.time=W.time)∧s=s∧True)∧True∧True)∧(q1=true→(r0=hasE W s∧((-1):Int)=(-1))∧wEq W r1 True)∧(q1=false→u1∧True∧tn 5 True∧u1∧((v1∧s=s∧y1=y1∧True)∧wEq W W True∧s_heir.match_1 (fun a4:X_heir=>Prop) (X_heir.mk s y1 W) (fun b4:Int=>fun c4:Int=>fun d4:Wd=>d4.nSlots≤100000))∧u1∧((∀e4:Nat,z1)∧(∀g4:Nat,z1)∧(∀h4:Nat,z1)∧(∀k4:Nat,z1)∧(∀l4:Nat,z1)∧(∀o4:Nat,z1)∧(∀q4:Nat,z1))∧(b2=true→((d0∧(∀r4:Nat,let u4:=Nat.beq (0+r4) w1;let v4:=trn s y1 (W.slots (0+r4));let w4:=Slt.mk (cond u4 0 v4.kind) (cond u4 0 v4.base) (cond u4 0 v4.len) (cond u4 0 v4.mark) (cond u4 0 v4.rights) (cond u4 0 v4.badge) (cond u4 (-1) v4.from_);r4<c0→sEq w4 w4))∧(True∧(((((True∧a2=a2)∧d2)∧True)∧True)∧True)∧True)∧True)∧True∧s_cnD.match_1 (fun x4:X_cnD=>Prop) (X_cnD.mk c0 (fun y4:Nat=>let z4:=Nat.beq (0+y4) w1;
    let a5:=trn s y1 (W.slots (0+y4));Slt.mk (cond z4 0 a5.kind) (cond z4 0 a5.base) (cond z4 0 a5.len) (cond z4 0 a5.mark) (cond z4 0 a5.rights) (cond z4 0 a5.badge) (cond z4 (-1) a5.from_)) a2 c2) (fun b5:Nat=>fun c5:∀d5:Nat,Slt=>fun e5:Int=>fun g5:Int=>b5≤100000))∧(e2=true→((v1∧d2∧True)∧wEq l2 l2 True∧JJ l2∧cntF l2+1≤N_∧0≤c2∧c2<(b0:Int))∧u2∧wEq (bur N_ l2 c2) r1 True)∧(e2=false→u2∧wEq l2 r1 True))
set_option maxHeartbeats 1000000 in
theorem ok_doDrop (N_:Nat) (h_:FnOK Tryz.prog glN 160 (c_buryP N_)):FnOK Tryz.prog glN 124 (c_doDrop N_):=ok_of (.cons ok_cnD (.cons ok_full (.cons ok_heir (.cons h_ .nil)))) false Tryz.call124 Tryz.func124 (fun _=> []) (V:=V_doDrop N_) (fun _=>by kernel_rfl) fun ⟨s,W⟩ hp=>by
  dsimp only [s_doDrop] at hp
  dsimp only [V_doDrop,tn,w64,wEq,rEq,sEq,eEq]
  simp only [std,stb,eq_self,implies_true,Bool.cond_self]
  try simp only [wd_eta]
  obtain ⟨hJ,hn⟩:=hp
  have z1:=hJ.w.i.z.slots
  have z2:=hJ.w.i.z.k1
  have eS:(fun j=>(⟨(bif Nat.beq j s.toNat then 0 else (trn s (W.slots s.toNat).from_ (W.slots j)).kind),(bif Nat.beq j s.toNat then 0 else (trn s (W.slots s.toNat).from_ (W.slots j)).base),(bif Nat.beq j s.toNat then 0 else (trn s (W.slots s.toNat).from_ (W.slots j)).len),(bif Nat.beq j s.toNat then 0 else (trn s (W.slots s.toNat).from_ (W.slots j)).mark),(bif Nat.beq j s.toNat then 0 else (trn s (W.slots s.toNat).from_ (W.slots j)).rights),(bif Nat.beq j s.toNat then 0 else (trn s (W.slots s.toNat).from_ (W.slots j)).badge),(bif Nat.beq j s.toNat then -1 else (trn s (W.slots s.toNat).from_ (W.slots j)).from_)⟩:Slt))=(clrW W s).slots:=funext clrS
  refine ⟨fun h=>?_,fun h=>?_⟩
  · have e:dropBy (bur N_) W s=W:=by unfold dropBy;rw [ne0 h];rfl
    simp only [e]
    repeat' (first|exact trivial|exact run20 rfl|exact slt7 rfl|exact ent4 rfl|rfl|refine And.intro ?_ ?_|intro _)
  · have hs:=eq0 h
    have he:=eq_of_beq hs
    obtain ⟨⟨s0,s1⟩,hk⟩:=has_in hs
    rw [eS]
    simp only [clr_eta]
    refine ⟨⟨s0,s1⟩,⟨s0,s1⟩,by omega,⟨s0,s1⟩,fun _=>by omega,fun h3=>?_,fun h3=>?_⟩
    · rw [Bool.and_eq_true,Bool.not_eq_true'] at h3
      obtain ⟨h4,h5⟩:=h3
      have e:dropBy (bur N_) W s=bur N_ (clrW W s) (W.slots s.toNat).base:=by
        unfold dropBy
        rw [hs,show sameK (clrW W s) (W.slots s.toNat)=false from h5,show ((W.slots s.toNat).kind==1)=false by simpa [bne] using h4];rfl
      obtain ⟨b1,b2⟩:=bas_in hJ.w.i hs
      have hc:=clr_cnt hs
      simp only [e]
      refine ⟨⟨(clr_ok hJ hs).1,by omega,b1,b2⟩,?_⟩
      repeat' (first|exact trivial|exact he|exact he.symm|exact run20 rfl|exact slt7 rfl|exact ent4 rfl|rfl|refine And.intro ?_ ?_|intro _)
    · have e:dropBy (bur N_) W s=clrW W s:=by
        unfold dropBy
        rw [hs]
        have:((W.slots s.toNat).kind==1||sameK (clrW W s) (W.slots s.toNat))=true:=by
          revert h3
          show ((W.slots s.toNat).kind !=1&&!sameK (clrW W s) (W.slots s.toNat))=false→_
          unfold bne
          cases (W.slots s.toNat).kind==1<;>cases sameK (clrW W s) (W.slots s.toNat)<;>simp
        rw [this];rfl
      simp only [e]
      repeat' (first|exact trivial|exact he|exact he.symm|exact clr7|exact run20 rfl|exact slt7 rfl|exact ent4 rfl|rfl|refine And.intro ?_ ?_|intro _)
structure X_bury0 where
  (f:Int) (W:Wd)
def s_bury0 (N_:Nat):Sy.Spec:=⟨X_bury0,fun ⟨f,_⟩=> [.ptr 0 0 none 0 0,.v (.int .i64 f)],fun ⟨_,W⟩=>wMem W,fun ⟨f,W⟩=>JJ W∧cntF W≤N_∧0≤f∧f<W.nKinds∧W.kinds f.toNat=0,fun _=> .tp 0 (lsv []),fun ⟨f,W⟩=>wMem (bur (N_+1) W f),
  fun args mem=>match args with| [a0,a1]=>some ⟨intD (a1),wMJD mem 0⟩|_=>none⟩
def V_bury0 (N_:Nat):X_bury0→Prop:=fun ⟨f,W⟩=>let a0:=0≤f∧f<((W.nKinds:Nat):Int);let b0:={W with kinds:=updF W.kinds (Int.toNat f) 0};tn 6 (a0∧tn 5 (a0∧(∀c0:Nat,false=false)∧SV.ptr 0 0 none 0 0=SV.ptr 0 0 none 0 0∧SV.ptr (0+1+1+1+1+1+1+1+1+1+1+1) 0 none 0 0=SV.ptr 11 0 none 0 0∧W.kinds (0+Int.toNat f)=0∧wEq {W with kinds:=fun d0:Nat=>cond (Nat.beq d0 (0+Int.toNat f)) 0 (W.kinds d0)} b0 ((True∧f=f)∧True)∧True)∧(∀e0:Nat,True→True∧wEq b0 (bur (N_+1) W f) True))
set_option maxHeartbeats 1000000 in
theorem fc_bury0 (N_:Nat) (h_:FnOK Tryz.prog glN 124 (c_doDrop N_)): ∀x,(s_bury0 N_).pre x→FnC Tryz.prog glN 160 ((s_bury0 N_).args x) ((s_bury0 N_).mem x) ((s_bury0 N_).res x) ((s_bury0 N_).mem' x):=fun x hp=>fn_of (.cons ok_leave (.cons ok_wBlankF (.cons ok_unmap (.cons ok_fgS (.cons h_ .nil))))) false Tryz.func160 ((fun ⟨f,W⟩=> [.decs [5,6,8,16,28,40,41],.cut 3 (cutP W f 0),.inv (an_noP W.nTasks 40),.inv (an_noP W.nTasks 71),.inv (an_ndP (dropBy (bur N_)) W f 7),.inv (an_noP W.nTasks 142),.inv (an_drP W f),.inv (an_noP W.nTasks 217)]) x) (V:=V_bury0 N_ x) (by kernel_rfl)<|(fun ⟨f,W⟩ hp=>by
  dsimp only [s_bury0] at hp
  dsimp only [V_bury0,tn,w64,wEq,rEq,sEq,eEq]
  simp only [std,stb,eq_self,implies_true,Bool.cond_self]
  try simp only [wd_eta]
  obtain ⟨hJ,hn,f0,f1,hk⟩:=hp
  have z:=hJ.w.i.z
  have z1:=z.ram
  have z2:=z.slots
  have z3:=z.tasks
  have z4:=z.k1
  have z5:=z.lines
  have z6:=z.bits
  refine ⟨⟨f0,f1⟩,⟨⟨f0,f1⟩,hk,fun _ _=>rfl⟩,fun _ _=>?_⟩
  have e:bur (N_+1) W f=kz W f:=gone_no (.inl hk)
  simp only [e]
  repeat' (first|exact trivial|exact run20 rfl|exact slt7 rfl|exact ent4 rfl|rfl|refine And.intro ?_ ?_|intro _)
  : ∀x,(s_bury0 N_).pre x→V_bury0 N_ x) x hp
structure X_bury1 where
  (f:Int) (W:Wd)
def s_bury1 (N_:Nat):Sy.Spec:=⟨X_bury1,fun ⟨f,_⟩=> [.ptr 0 0 none 0 0,.v (.int .i64 f)],fun ⟨_,W⟩=>wMem W,fun ⟨f,W⟩=>JJ W∧cntF W≤N_∧0≤f∧f<W.nKinds∧W.kinds f.toNat=1,fun _=> .tp 0 (lsv []),fun ⟨f,W⟩=>wMem (bur (N_+1) W f),
  fun args mem=>match args with| [a0,a1]=>some ⟨intD (a1),wMJD mem 0⟩|_=>none⟩
def V_bury1 (N_:Nat):X_bury1→Prop:=fun ⟨f,W⟩=>let a0:=0≤f∧f<((W.nKinds:Nat):Int);let b0:={W with kinds:=updF W.kinds (Int.toNat f) 0};tn 6 (a0∧tn 5 (a0∧(∀c0:Nat,false=false)∧SV.ptr 0 0 none 0 0=SV.ptr 0 0 none 0 0∧SV.ptr (0+1+1+1+1+1+1+1+1+1+1+1) 0 none 0 0=SV.ptr 11 0 none 0 0∧W.kinds (0+Int.toNat f)=1∧wEq {W with kinds:=fun d0:Nat=>cond (Nat.beq d0 (0+Int.toNat f)) 0 (W.kinds d0)} b0 ((True∧f=f)∧True)∧True)∧(∀e0:Nat,True→True∧wEq b0 (bur (N_+1) W f) True))
set_option maxHeartbeats 1000000 in
theorem fc_bury1 (N_:Nat) (h_:FnOK Tryz.prog glN 124 (c_doDrop N_)): ∀x,(s_bury1 N_).pre x→FnC Tryz.prog glN 160 ((s_bury1 N_).args x) ((s_bury1 N_).mem x) ((s_bury1 N_).res x) ((s_bury1 N_).mem' x):=fun x hp=>fn_of (.cons ok_leave (.cons ok_wBlankF (.cons ok_unmap (.cons ok_fgS (.cons h_ .nil))))) false Tryz.func160 ((fun ⟨f,W⟩=> [.decs [5,6,8,16,28,40,41],.cut 3 (cutP W f 1),.inv (an_noP W.nTasks 40),.inv (an_noP W.nTasks 71),.inv (an_ndP (dropBy (bur N_)) W f 7),.inv (an_noP W.nTasks 142),.inv (an_drP W f),.inv (an_noP W.nTasks 217)]) x) (V:=V_bury1 N_ x) (by kernel_rfl)<|(fun ⟨f,W⟩ hp=>by
  dsimp only [s_bury1] at hp
  dsimp only [V_bury1,tn,w64,wEq,rEq,sEq,eEq]
  simp only [std,stb,eq_self,implies_true,Bool.cond_self]
  try simp only [wd_eta]
  obtain ⟨hJ,hn,f0,f1,hk⟩:=hp
  have z:=hJ.w.i.z
  have z1:=z.ram
  have z2:=z.slots
  have z3:=z.tasks
  have z4:=z.k1
  have z5:=z.lines
  have z6:=z.bits
  refine ⟨⟨f0,f1⟩,⟨⟨f0,f1⟩,hk,fun _ _=>rfl⟩,fun _ _=>?_⟩
  have e:bur (N_+1) W f=kz W f:=gone_no (.inr hk)
  simp only [e]
  repeat' (first|exact trivial|exact run20 rfl|exact slt7 rfl|exact ent4 rfl|rfl|refine And.intro ?_ ?_|intro _)
  : ∀x,(s_bury1 N_).pre x→V_bury1 N_ x) x hp
structure X_bury2 where
  (f:Int) (W:Wd)
def s_bury2 (N_:Nat):Sy.Spec:=⟨X_bury2,fun ⟨f,_⟩=> [.ptr 0 0 none 0 0,.v (.int .i64 f)],fun ⟨_,W⟩=>wMem W,fun ⟨f,W⟩=>JJ W∧cntF W≤N_∧0≤f∧f<W.nKinds∧W.kinds f.toNat=2,fun _=> .tp 0 (lsv []),fun ⟨f,W⟩=>wMem (bur (N_+1) W f),
  fun args mem=>match args with| [a0,a1]=>some ⟨intD (a1),wMJD mem 0⟩|_=>none⟩
def V_bury2 (N_:Nat):X_bury2→Prop:=fun ⟨f,W⟩=>let a0:=0≤f∧f<((W.nKinds:Nat):Int);let b0:=SV.ptr 0 0 none 0 0=SV.ptr 0 0 none 0 0;let c0:=updF W.kinds (Int.toNat f) 0;let d0:={W with kinds:=c0};let e0:=kz W f;let g0:=unR e0 f;let h0:=wrB W.nRam g0;tn 6 (a0∧tn 5 (a0∧(∀k0:Nat,false=false)∧b0∧SV.ptr (0+1+1+1+1+1+1+1+1+1+1+1) 0 none 0 0=SV.ptr 11 0 none 0 0∧W.kinds (0+Int.toNat f)=2∧wEq {W with kinds:=fun l0:Nat=>cond (Nat.beq l0 (0+Int.toNat f)) 0 (W.kinds l0)} d0 ((True∧f=f)∧True)∧True)∧(∀o0:Nat,True→((b0∧f=f∧True)∧wEq d0 d0 True∧s_unmap.match_1 (fun q0:X_unmap=>Prop) (X_unmap.mk f e0) (fun r0:Int=>fun u0:Wd=>TlR u0))∧True∧wEq {W with ram:=g0,kinds:=c0,tlbsN:=fgN h0 e0,tlbs:=fgT h0 e0} (bur (N_+1) W f) True))
set_option maxHeartbeats 1000000 in
theorem fc_bury2 (N_:Nat) (h_:FnOK Tryz.prog glN 124 (c_doDrop N_)): ∀x,(s_bury2 N_).pre x→FnC Tryz.prog glN 160 ((s_bury2 N_).args x) ((s_bury2 N_).mem x) ((s_bury2 N_).res x) ((s_bury2 N_).mem' x):=fun x hp=>fn_of (.cons ok_leave (.cons ok_wBlankF (.cons ok_unmap (.cons ok_fgS (.cons h_ .nil))))) false Tryz.func160 ((fun ⟨f,W⟩=> [.decs [5,6,8,16,28,40,41],.cut 3 (cutP W f 2),.inv (an_noP W.nTasks 40),.inv (an_noP W.nTasks 71),.inv (an_ndP (dropBy (bur N_)) W f 7),.inv (an_noP W.nTasks 142),.inv (an_drP W f),.inv (an_noP W.nTasks 217)]) x) (V:=V_bury2 N_ x) (by kernel_rfl)<|(fun ⟨f,W⟩ hp=>by
  dsimp only [s_bury2] at hp
  dsimp only [V_bury2,tn,w64,wEq,rEq,sEq,eEq]
  simp only [std,stb,eq_self,implies_true,Bool.cond_self]
  try simp only [wd_eta]
  obtain ⟨hJ,hn,f0,f1,hk⟩:=hp
  have z:=hJ.w.i.z
  have z1:=z.ram
  have z2:=z.slots
  have z3:=z.tasks
  have z4:=z.k1
  have z5:=z.lines
  have z6:=z.bits
  refine ⟨⟨f0,f1⟩,⟨⟨f0,f1⟩,hk,fun _ _=>rfl⟩,fun _ _=>?_⟩
  have e:bur (N_+1) W f=pgW W f:=gone_pg (.inl hk)
  simp only [e]
  refine ⟨⟨⟨z.k0,z.k1,z.c0,z.c1,z.ram,z.slots,z.tasks,z.lines,z.bits,z.ready,z.tlbs,z.d0,z.d1,z.t0,z.t1⟩,hJ.w.i.ram,hJ.w.i.tl,hJ.w.pg⟩,?_⟩
  repeat' (first|exact trivial|exact run20 rfl|exact slt7 rfl|exact ent4 rfl|rfl|refine And.intro ?_ ?_|intro _)
  : ∀x,(s_bury2 N_).pre x→V_bury2 N_ x) x hp
structure X_bury3 where
  (f:Int) (W:Wd)
def s_bury3 (N_:Nat):Sy.Spec:=⟨X_bury3,fun ⟨f,_⟩=> [.ptr 0 0 none 0 0,.v (.int .i64 f)],fun ⟨_,W⟩=>wMem W,fun ⟨f,W⟩=>JJ W∧cntF W≤N_∧0≤f∧f<W.nKinds∧W.kinds f.toNat=3,fun _=> .tp 0 (lsv []),fun ⟨f,W⟩=>wMem (bur (N_+1) W f),
  fun args mem=>match args with| [a0,a1]=>some ⟨intD (a1),wMJD mem 0⟩|_=>none⟩
def V_bury3 (N_:Nat):X_bury3→Prop:=fun ⟨f,W⟩=>let a0:=0≤f∧f<((W.nKinds:Nat):Int);let b0:=SV.ptr 0 0 none 0 0=SV.ptr 0 0 none 0 0;let c0:=updF W.kinds (Int.toNat f) 0;let d0:={W with kinds:=c0};let e0:=kz W f;let g0:=unR e0 f;let h0:=wrB W.nRam g0;tn 6 (a0∧tn 5 (a0∧(∀k0:Nat,false=false)∧b0∧SV.ptr (0+1+1+1+1+1+1+1+1+1+1+1) 0 none 0 0=SV.ptr 11 0 none 0 0∧W.kinds (0+Int.toNat f)=3∧wEq {W with kinds:=fun l0:Nat=>cond (Nat.beq l0 (0+Int.toNat f)) 0 (W.kinds l0)} d0 ((True∧f=f)∧True)∧True)∧(∀o0:Nat,True→((b0∧f=f∧True)∧wEq d0 d0 True∧s_unmap.match_1 (fun q0:X_unmap=>Prop) (X_unmap.mk f e0) (fun r0:Int=>fun u0:Wd=>TlR u0))∧True∧wEq {W with ram:=g0,kinds:=c0,tlbsN:=fgN h0 e0,tlbs:=fgT h0 e0} (bur (N_+1) W f) True))
set_option maxHeartbeats 1000000 in
theorem fc_bury3 (N_:Nat) (h_:FnOK Tryz.prog glN 124 (c_doDrop N_)): ∀x,(s_bury3 N_).pre x→FnC Tryz.prog glN 160 ((s_bury3 N_).args x) ((s_bury3 N_).mem x) ((s_bury3 N_).res x) ((s_bury3 N_).mem' x):=fun x hp=>fn_of (.cons ok_leave (.cons ok_wBlankF (.cons ok_unmap (.cons ok_fgS (.cons h_ .nil))))) false Tryz.func160 ((fun ⟨f,W⟩=> [.decs [5,6,8,16,28,40,41],.cut 3 (cutP W f 3),.inv (an_noP W.nTasks 40),.inv (an_noP W.nTasks 71),.inv (an_ndP (dropBy (bur N_)) W f 7),.inv (an_noP W.nTasks 142),.inv (an_drP W f),.inv (an_noP W.nTasks 217)]) x) (V:=V_bury3 N_ x) (by kernel_rfl)<|(fun ⟨f,W⟩ hp=>by
  dsimp only [s_bury3] at hp
  dsimp only [V_bury3,tn,w64,wEq,rEq,sEq,eEq]
  simp only [std,stb,eq_self,implies_true,Bool.cond_self]
  try simp only [wd_eta]
  obtain ⟨hJ,hn,f0,f1,hk⟩:=hp
  have z:=hJ.w.i.z
  have z1:=z.ram
  have z2:=z.slots
  have z3:=z.tasks
  have z4:=z.k1
  have z5:=z.lines
  have z6:=z.bits
  refine ⟨⟨f0,f1⟩,⟨⟨f0,f1⟩,hk,fun _ _=>rfl⟩,fun _ _=>?_⟩
  have e:bur (N_+1) W f=pgW W f:=gone_pg (.inr hk)
  simp only [e]
  refine ⟨⟨⟨z.k0,z.k1,z.c0,z.c1,z.ram,z.slots,z.tasks,z.lines,z.bits,z.ready,z.tlbs,z.d0,z.d1,z.t0,z.t1⟩,hJ.w.i.ram,hJ.w.i.tl,hJ.w.pg⟩,?_⟩
  repeat' (first|exact trivial|exact run20 rfl|exact slt7 rfl|exact ent4 rfl|rfl|refine And.intro ?_ ?_|intro _)
  : ∀x,(s_bury3 N_).pre x→V_bury3 N_ x) x hp
structure X_bury4 where
  (f:Int) (W:Wd)
def s_bury4 (N_:Nat):Sy.Spec:=⟨X_bury4,fun ⟨f,_⟩=> [.ptr 0 0 none 0 0,.v (.int .i64 f)],fun ⟨_,W⟩=>wMem W,fun ⟨f,W⟩=>JJ W∧cntF W≤N_∧0≤f∧f<W.nKinds∧W.kinds f.toNat=4,fun _=> .tp 0 (lsv []),fun ⟨f,W⟩=>wMem (bur (N_+1) W f),
  fun args mem=>match args with| [a0,a1]=>some ⟨intD (a1),wMJD mem 0⟩|_=>none⟩
def V_bury4 (N_:Nat):X_bury4→Prop:=fun ⟨f,W⟩=>let a0:=0≤f∧f<((W.nKinds:Nat):Int);let b0:=SV.ptr 0 0 none 0 0=SV.ptr 0 0 none 0 0;let c0:=SV.ptr (0+1+1+1+1+1+1+1+1+1+1+1) 0 none 0 0=SV.ptr 11 0 none 0 0;let d0:=updF W.kinds (Int.toNat f) 0;let e0:={W with kinds:=d0};let g0:=(True∧f=f)∧True;let h0:=W.nTasks;let k0:=(h0:Int);tn 6 (a0∧tn 5 (a0∧(∀l0:Nat,false=false)∧b0∧c0∧W.kinds (0+Int.toNat f)=4∧wEq {W with kinds:=fun o0:Nat=>cond (Nat.beq o0 (0+Int.toNat f)) 0 (W.kinds o0)} e0 g0∧True)∧(∀q0:Nat,True→k0≤9223372036854775807→b0∧c0∧0=((0:Nat):Int)∧wEq e0 {W with kinds:=d0,tasks:=mixK 4 W f 0} g0∧0≤h0∧(∀u0:Nat,let v0:=(u0:Int);let w0:=decide (v0<k0);let x0:=0≤v0∧v0<k0;let y0:=0+Int.toNat v0;let z0:=(mixK 4 W f u0 y0).space==f;let a1:Int:=v0+1;let b1:=w64 a1=a1;let c1:=mixK 4 W f u0;let d1:={W with kinds:=d0,tasks:=c1};u0≤h0→(w0=true→tn 5 (x0∧tn 3 ((z0=true→x0∧(∀e1:Nat,false=false)∧b1∧(∃g1:Nat,b0∧c0∧a1=(g1:Int)∧wEq {W with kinds:=d0,tasks:=fun h1:Nat=>{c1 h1 with space:=cond (Nat.beq h1 y0) (-1) (c1 h1).space}} {W with kinds:=d0,tasks:=mixK 4 W f g1} g0∧g1≤h0∧h0-g1<h0-u0))∧(z0=false→b1∧(∃k1:Nat,b0∧c0∧a1=(k1:Int)∧wEq d1 {W with kinds:=d0,tasks:=mixK 4 W f k1} g0∧k1≤h0∧h0-k1<h0-u0)))))∧(w0=false→((b0∧tn 2 (f=f)∧True)∧wEq d1 d1 True∧s_fgS.match_1 (fun l1:X_fgS=>Prop) (X_fgS.mk f d1) (fun o1:Int=>fun q1:Wd=>TlR q1))∧True∧wEq {W with kinds:=d0,tasks:=c1,tlbsN:=fgN (spB f) d1,tlbs:=fgT (spB f) d1} (bur (N_+1) W f) True))))
set_option maxHeartbeats 1000000 in
theorem fc_bury4 (N_:Nat) (h_:FnOK Tryz.prog glN 124 (c_doDrop N_)): ∀x,(s_bury4 N_).pre x→FnC Tryz.prog glN 160 ((s_bury4 N_).args x) ((s_bury4 N_).mem x) ((s_bury4 N_).res x) ((s_bury4 N_).mem' x):=fun x hp=>fn_of (.cons ok_leave (.cons ok_wBlankF (.cons ok_unmap (.cons ok_fgS (.cons h_ .nil))))) false Tryz.func160 ((fun ⟨f,W⟩=> [.decs [5,6,8,16,28,40,41],.cut 3 (cutP W f 4),.inv (an_tkP 4 W f 40),.inv (an_noP W.nTasks 71),.inv (an_ndP (dropBy (bur N_)) W f 7),.inv (an_noP W.nTasks 142),.inv (an_drP W f),.inv (an_noP W.nTasks 217)]) x) (V:=V_bury4 N_ x) (by kernel_rfl)<|(fun ⟨f,W⟩ hp=>by
  dsimp only [s_bury4] at hp
  dsimp only [V_bury4,tn,w64,wEq,rEq,sEq,eEq]
  simp only [std,stb,eq_self,implies_true,Bool.cond_self]
  try simp only [wd_eta]
  obtain ⟨hJ,hn,f0,f1,hk⟩:=hp
  have z:=hJ.w.i.z
  have z1:=z.ram
  have z2:=z.slots
  have z3:=z.tasks
  have z4:=z.k1
  have z5:=z.lines
  have z6:=z.bits
  refine ⟨⟨f0,f1⟩,⟨⟨f0,f1⟩,hk,fun _ _=>rfl⟩,fun _ _=>?_⟩
  refine fun _=>⟨fun q _=>run20 (mixK_ge (k:=4) (f:=f) (Nat.zero_le _)).symm,fun s hs=>⟨fun h=>?_,fun h=>?_⟩⟩
  · have hlt:=lt_of_dec h
    rw [mixK_ge (Nat.le_refl _)]
    refine ⟨by omega,fun h1=>⟨by omega,wr_in (by omega) (by omega),s+1,by omega,fun q _=>?_,by omega,by omega⟩,fun h1=>⟨wr_in (by omega) (by omega),s+1,by omega,fun q _=>?_,by omega,by omega⟩⟩
    · have h2:((W.tasks s).space==f)=true:=h1
      have e2:tkK 4 f (W.tasks s)={W.tasks s with space:= -1}:=by
        show ({W.tasks s with space:=bif (W.tasks s).space==f then -1 else (W.tasks s).space}:Run)=_
        rw [h2];rfl
      rcases Nat.lt_trichotomy q s with e|e|e
      · rw [beq_ne (by omega),mixK_lt e,mixK_lt (by omega:q<s+1)];exact run20 rfl
      · subst e
        rw [Nat.beq_refl,mixK_lt (Nat.lt_succ_self _),mixK_ge (Nat.le_refl _),e2]
        simp only [cond_true]
        repeat' (first|exact trivial|rfl|refine And.intro ?_ ?_)
      · rw [beq_ne (by omega),mixK_ge (by omega),mixK_ge (by omega:s+1≤q)];exact run20 rfl
    · have h2:((W.tasks s).space==f)=false:=h1
      have e2:tkK 4 f (W.tasks s)=W.tasks s:=by
        show ({W.tasks s with space:=bif (W.tasks s).space==f then -1 else (W.tasks s).space}:Run)=_
        rw [h2];rfl
      rcases Nat.lt_trichotomy q s with e|e|e
      · rw [mixK_lt e,mixK_lt (by omega:q<s+1)];exact run20 rfl
      · subst e;rw [mixK_ge (Nat.le_refl _),mixK_lt (Nat.lt_succ_self _),e2];exact run20 rfl
      · rw [mixK_ge (by omega),mixK_ge (by omega:s+1≤q)];exact run20 rfl
  have hge:=ge_of_dec h
  obtain rfl:s=W.nTasks:=by omega
  have e:bur (N_+1) W f=spW W f:=gone_sp hk
  simp only [e]
  refine ⟨⟨⟨z.k0,z.k1,z.c0,z.c1,z.ram,z.slots,z.tasks,z.lines,z.bits,z.ready,z.tlbs,z.d0,z.d1,z.t0,z.t1⟩,hJ.w.i.ram,hJ.w.i.tl,hJ.w.pg⟩,?_⟩
  repeat' (first|exact trivial|exact fun j hj=>run20 (mixK_lt hj)|exact run20 rfl|exact slt7 rfl|exact ent4 rfl|rfl|refine And.intro ?_ ?_|intro _)
  : ∀x,(s_bury4 N_).pre x→V_bury4 N_ x) x hp
structure X_bury5 where
  (f:Int) (W:Wd)
def s_bury5 (N_:Nat):Sy.Spec:=⟨X_bury5,fun ⟨f,_⟩=> [.ptr 0 0 none 0 0,.v (.int .i64 f)],fun ⟨_,W⟩=>wMem W,fun ⟨f,W⟩=>JJ W∧cntF W≤N_∧0≤f∧f<W.nKinds∧W.kinds f.toNat=5,fun _=> .tp 0 (lsv []),fun ⟨f,W⟩=>wMem (bur (N_+1) W f),
  fun args mem=>match args with| [a0,a1]=>some ⟨intD (a1),wMJD mem 0⟩|_=>none⟩
def V_bury5 (N_:Nat):X_bury5→Prop:=fun ⟨f,W⟩=>let a0:=0≤f∧f<((W.nKinds:Nat):Int);let b0:=SV.ptr 0 0 none 0 0=SV.ptr 0 0 none 0 0;let c0:=SV.ptr (0+1+1+1+1+1+1+1+1+1+1+1) 0 none 0 0=SV.ptr 11 0 none 0 0;let d0:=updF W.kinds (Int.toNat f) 0;let e0:={W with kinds:=d0};let g0:=(True∧f=f)∧True;let h0:=W.nTasks;let k0:=(h0:Int);let l0:Int:=f*16;let o0:=w64 l0=l0;let q0:=dropBy (bur N_);tn 6 (a0∧tn 5 (a0∧(∀u0:Nat,false=false)∧b0∧c0∧W.kinds (0+Int.toNat f)=5∧wEq {W with kinds:=fun v0:Nat=>cond (Nat.beq v0 (0+Int.toNat f)) 0 (W.kinds v0)} e0 g0∧True)∧(∀w0:Nat,True→k0≤9223372036854775807→b0∧c0∧0=((0:Nat):Int)∧wEq e0 {W with kinds:=d0,tasks:=mixK 5 W f 0} g0∧0≤h0∧(∀x0:Nat,let y0:=(x0:Int);let z0:=decide (y0<k0);let a1:=0≤y0∧y0<k0;let b1:=0+Int.toNat y0;let c1:=(mixK 5 W f x0 b1).node==f;let d1:Int:=y0+1;let e1:=w64 d1=d1;let g1:={W with kinds:=d0,tasks:=mixK 5 W f x0};x0≤h0→(z0=true→tn 5 (a1∧tn 3 ((c1=true→a1∧(∀h1:Nat,false=false)∧e1∧(∃k1:Nat,b0∧c0∧d1=(k1:Int)∧wEq {W with kinds:=d0,tasks:=fun l1:Nat=>let o1:=mixK 5 W f x0 l1;{o1 with node:=cond (Nat.beq l1 b1) (-1) o1.node}} {W with kinds:=d0,tasks:=mixK 5 W f k1} g0∧k1≤h0∧h0-k1<h0-x0))∧(c1=false→e1∧(∃q1:Nat,b0∧c0∧d1=(q1:Int)∧wEq g1 {W with kinds:=d0,tasks:=mixK 5 W f q1} g0∧q1≤h0∧h0-q1<h0-x0)))))∧(z0=false→b0∧c0∧15=15-((0:Nat):Int)∧wEq g1 {W with kinds:=d0,tasks:=fun u1:Nat=>let v1:=(W.tasks u1).node;{W.tasks u1 with node:=cond (v1==f) (-1) v1}} g0∧0≤16∧(∀w1:Nat,let x1:Int:=15-(w1:Int);let y1:=decide (0≤x1);let z1:Int:=l0+x1;let a2:=w64 z1=z1;let b2:=ndK q0 W f w1;
    let c2:=(b2.slots (0+Int.toNat z1)).kind !=0;let d2:Int:=x1-1;let e2:=w64 d2=d2;w1≤16→(y1=true→tn 5 (o0∧True∧a2∧(0≤z1∧z1<((b2.nSlots:Nat):Int))∧(c2=true→o0∧a2∧((b0∧z1=z1∧True)∧wEq b2 b2 True∧JJ b2∧cntF b2≤N_)∧e2∧(∃g2:Nat,b0∧c0∧d2=15-(g2:Int)∧wEq (q0 b2 z1) (ndK q0 W f g2) g0∧g2≤16∧16-g2<16-w1))∧(c2=false→e2∧(∃h2:Nat,b0∧c0∧d2=15-(h2:Int)∧wEq b2 (ndK q0 W f h2) g0∧h2≤16∧16-h2<16-w1))))∧(y1=false→True∧wEq b2 (bur (N_+1) W f) True))))))
set_option maxHeartbeats 1000000 in
theorem fc_bury5 (N_:Nat) (h_:FnOK Tryz.prog glN 124 (c_doDrop N_)): ∀x,(s_bury5 N_).pre x→FnC Tryz.prog glN 160 ((s_bury5 N_).args x) ((s_bury5 N_).mem x) ((s_bury5 N_).res x) ((s_bury5 N_).mem' x):=fun x hp=>fn_of (.cons ok_leave (.cons ok_wBlankF (.cons ok_unmap (.cons ok_fgS (.cons h_ .nil))))) false Tryz.func160 ((fun ⟨f,W⟩=> [.decs [5,6,8,16,28,40,41],.cut 3 (cutP W f 5),.inv (an_noP W.nTasks 40),.inv (an_tkP 5 W f 71),.inv (an_ndP (dropBy (bur N_)) W f 7),.inv (an_noP W.nTasks 142),.inv (an_drP W f),.inv (an_noP W.nTasks 217)]) x) (V:=V_bury5 N_ x) (by kernel_rfl)<|(fun ⟨f,W⟩ hp=>by
  dsimp only [s_bury5] at hp
  dsimp only [V_bury5,tn,w64,wEq,rEq,sEq,eEq]
  simp only [std,stb,eq_self,implies_true,Bool.cond_self]
  try simp only [wd_eta]
  obtain ⟨hJ,hn,f0,f1,hk⟩:=hp
  have z:=hJ.w.i.z
  have z1:=z.ram
  have z2:=z.slots
  have z3:=z.tasks
  have z4:=z.k1
  have z5:=z.lines
  have z6:=z.bits
  refine ⟨⟨f0,f1⟩,⟨⟨f0,f1⟩,hk,fun _ _=>rfl⟩,fun _ _=>?_⟩
  refine fun _=>⟨fun q _=>run20 (mixK_ge (k:=5) (f:=f) (Nat.zero_le _)).symm,fun s hs=>⟨fun h=>?_,fun h=>?_⟩⟩
  · have hlt:=lt_of_dec h
    rw [mixK_ge (Nat.le_refl _)]
    refine ⟨by omega,fun h1=>⟨by omega,wr_in (by omega) (by omega),s+1,by omega,fun q _=>?_,by omega,by omega⟩,fun h1=>⟨wr_in (by omega) (by omega),s+1,by omega,fun q _=>?_,by omega,by omega⟩⟩
    · have h2:((W.tasks s).node==f)=true:=h1
      have e2:tkK 5 f (W.tasks s)={W.tasks s with node:= -1}:=by
        show ({W.tasks s with node:=bif (W.tasks s).node==f then -1 else (W.tasks s).node}:Run)=_
        rw [h2];rfl
      rcases Nat.lt_trichotomy q s with e|e|e
      · rw [beq_ne (by omega),mixK_lt e,mixK_lt (by omega:q<s+1)];exact run20 rfl
      · subst e
        rw [Nat.beq_refl,mixK_lt (Nat.lt_succ_self _),mixK_ge (Nat.le_refl _),e2]
        simp only [cond_true]
        repeat' (first|exact trivial|rfl|refine And.intro ?_ ?_)
      · rw [beq_ne (by omega),mixK_ge (by omega),mixK_ge (by omega:s+1≤q)];exact run20 rfl
    · have h2:((W.tasks s).node==f)=false:=h1
      have e2:tkK 5 f (W.tasks s)=W.tasks s:=by
        show ({W.tasks s with node:=bif (W.tasks s).node==f then -1 else (W.tasks s).node}:Run)=_
        rw [h2];rfl
      rcases Nat.lt_trichotomy q s with e|e|e
      · rw [mixK_lt e,mixK_lt (by omega:q<s+1)];exact run20 rfl
      · subst e;rw [mixK_ge (Nat.le_refl _),mixK_lt (Nat.lt_succ_self _),e2];exact run20 rfl
      · rw [mixK_ge (by omega),mixK_ge (by omega:s+1≤q)];exact run20 rfl
  have hge:=ge_of_dec h
  obtain rfl:s=W.nTasks:=by omega
  have hX:=ndK_ok (f:=f) (dropN_ok N_) hJ f0 (by rw [hk];decide)
  refine ⟨by decide,fun j hj=>run20 (mixK_lt hj),fun i hi=>⟨fun h=>?_,fun h=>?_⟩⟩
  · have h15:=of_decide_eq_true h
    obtain ⟨h1,h2⟩:=hX i
    have hsn:=h2.slots
    refine ⟨wr_in (by omega) (by omega),wr_in (by omega) (by omega),⟨by omega,by omega⟩,fun h3=>?_,fun h3=>?_⟩
    · refine ⟨wr_in (by omega) (by omega),wr_in (by omega) (by omega),⟨h1,Nat.le_trans h2.cnt hn⟩,wr_in (by omega) (by omega),i+1,by omega,?_⟩
      have e1:dropBy (bur N_) (ndK (dropBy (bur N_)) W f i) (f*16+(15 -i))=ndK (dropBy (bur N_)) W f (i+1):=rfl
      simp only [e1]
      repeat' (first|exact trivial|omega|exact run20 rfl|exact slt7 rfl|exact ent4 rfl|rfl|refine And.intro ?_ ?_|intro _)
    · refine ⟨wr_in (by omega) (by omega),i+1,by omega,?_⟩
      have e1:ndK (dropBy (bur N_)) W f (i+1)=ndK (dropBy (bur N_)) W f i:=drop_no h3
      simp only [e1]
      repeat' (first|exact trivial|omega|exact run20 rfl|exact slt7 rfl|exact ent4 rfl|rfl|refine And.intro ?_ ?_|intro _)
  · have h15:=of_decide_eq_false h
    obtain rfl:i=16:=by omega
    have e:bur (N_+1) W f=ndK (dropBy (bur N_)) W f 16:=gone_nd hk
    simp only [e]
    repeat' (first|exact trivial|exact run20 rfl|exact slt7 rfl|exact ent4 rfl|rfl|refine And.intro ?_ ?_|intro _)
  : ∀x,(s_bury5 N_).pre x→V_bury5 N_ x) x hp
structure X_bury6 where
  (f:Int) (W:Wd)
def s_bury6 (N_:Nat):Sy.Spec:=⟨X_bury6,fun ⟨f,_⟩=> [.ptr 0 0 none 0 0,.v (.int .i64 f)],fun ⟨_,W⟩=>wMem W,fun ⟨f,W⟩=>JJ W∧cntF W≤N_∧0≤f∧f<W.nKinds∧W.kinds f.toNat=6,fun _=> .tp 0 (lsv []),fun ⟨f,W⟩=>wMem (bur (N_+1) W f),
  fun args mem=>match args with| [a0,a1]=>some ⟨intD (a1),wMJD mem 0⟩|_=>none⟩
def V_bury6 (N_:Nat):X_bury6→Prop:=fun ⟨f,W⟩=>let a0:=0≤f∧f<((W.nKinds:Nat):Int);let b0:=false=false;let c0:=SV.ptr 0 0 none 0 0=SV.ptr 0 0 none 0 0;let d0:=SV.ptr (0+1+1+1+1+1+1+1+1+1+1+1) 0 none 0 0=SV.ptr 11 0 none 0 0;let e0:=Int.toNat f;let g0:=0+e0;let h0:=updF W.kinds e0 0;let k0:={W with kinds:=h0};let l0:=(True∧f=f)∧True;let o0:=W.nTasks;let q0:=(o0:Int);let u0:=f<q0;let v0:=kz W f;let w0:=0≤f∧u0;let x0:=(sdS v0 e0 (-1) 0 g0).owes;let y0:Int:=cond (x0==f) (-1) x0;let z0:=decide (0≤y0);let a1:=q0≤9223372036854775807;let b1:=0+Int.toNat y0;let c1:=lvLN v0 f;let d1:=lvL v0 f;let e1:=ofC v0 f;let g1:=lvRN v0 f;let h1:=lvR v0 f;let k1:={W with kinds:=h0,tasks:=fun l1:Nat=>let o1:=sdS v0 e0 (-1) 0 l1;let q1:=o1.owes;{o1 with st:=cond (Nat.beq l1 b1) 0 o1.st,owes:=cond (q1==f) (-1) q1},linesN:=c1,lines:=d1,cores:=e1,readyN:=g1,ready:=h1};let u1:=wEq k1 k1 l0;let v1:=tn 2 True;let w1:=(∀x1:Nat,b0)∧(∀y1:Nat,b0)∧(∀z1:Nat,b0)∧(∀a2:Nat,b0)∧(∀b2:Nat,b0)∧(∀c2:Nat,b0)∧(∀d2:Nat,b0)∧(∀e2:Nat,b0)∧(∀g2:Nat,b0)∧(∀h2:Nat,b0)∧(∀k2:Nat,b0)∧(∀l2:Nat,b0)∧(∀o2:Nat,b0)∧(∀q2:Nat,b0)∧(∀u2:Nat,b0)∧(∀v2:Nat,b0)∧(∀w2:Nat,b0)∧(∀x2:Nat,b0)∧(∀y2:Nat,b0)∧(∀z2:Nat,b0);let a3:=bur (N_+1) W f;let b3:={W with kinds:=h0,tasks:=fun c3:Nat=>let d3:=sdS v0 e0 (-1) 0 c3;let e3:=d3.owes;{d3 with owes:=cond (e3==f) (-1) e3},linesN:=c1,lines:=d1,cores:=e1,readyN:=g1,ready:=h1};let g3:=wEq b3 b3 l0;tn 6 (a0∧tn 5 (a0∧(∀h3:Nat,b0)∧c0∧d0∧W.kinds g0=6∧wEq {W with kinds:=fun k3:Nat=>cond (Nat.beq k3 g0) 0 (W.kinds k3)} k0 l0∧True)∧(∀l3:Nat,True→((c0∧f=f∧True)∧
    wEq k0 k0 True∧0≤f∧u0∧Inv 1000 v0)∧tn 5 (w0∧(z0=true→(0≤y0∧y0<q0)∧(∀o3:Nat,b0)∧(a1→c0∧d0∧0=((0:Nat):Int)∧u1∧0≤o0∧(∀q3:Nat,let u3:=(q3:Int);let v3:=decide (u3<q0);let w3:=0≤u3∧u3<q0;let x3:=0+Int.toNat u3;let y3:=(sdS v0 e0 (-1) 0 x3).owes;let z3:=cond (y3==f) (-1) y3==f;let a4:Int:=u3+1;let b4:=w64 a4=a4;q3≤o0→(v3=true→tn 5 (w3∧tn 3 ((z3=true→w3∧(∀c4:Nat,b0)∧b4∧(∃d4:Nat,c0∧d0∧a4=(d4:Int)∧wEq {W with kinds:=h0,tasks:=fun e4:Nat=>let g4:=sdS v0 e0 (-1) 0 e4;let h4:=g4.owes;{g4 with st:=cond (Nat.beq e4 b1) 0 g4.st,owes:=cond (Nat.beq e4 x3) (-1) (cond (h4==f) (-1) h4)},linesN:=c1,lines:=d1,cores:=e1,readyN:=g1,ready:=h1} k1 l0∧d4≤o0∧o0-d4<o0-q3))∧(z3=false→b4∧(∃k4:Nat,c0∧d0∧a4=(k4:Int)∧u1∧k4≤o0∧o0-k4<o0-q3)))))∧(v3=false→tn 5 (v1∧w0∧w1∧True∧wEq {W with kinds:=h0,tasks:=fun l4:Nat=>let o4:=Nat.beq l4 g0;let q4:=sdS v0 e0 (-1) 0 l4;let u4:=q4.owes;Run.mk (cond o4 0 q4.r0) (cond o4 0 q4.r1) (cond o4 0 q4.r2) (cond o4 0 q4.r3) (cond o4 0 q4.r4) (cond o4 0 q4.r5) (cond o4 0 q4.r6) (cond o4 0 q4.r7) (cond o4 0 q4.pc) (cond o4 0 (cond (Nat.beq l4 b1) 0 q4.st)) (cond o4 0 q4.prio) (cond o4 (-1) q4.node) (cond o4 (-1) q4.space) (cond o4 (-1) q4.helper) (cond o4 (-1) q4.loc) (cond o4 0 q4.word) (cond o4 0 q4.badge) (cond o4 (-1) (cond (u4==f) (-1) u4)) (cond o4 0 q4.core) (cond o4 0 q4.dom),linesN:=c1,lines:=d1,cores:=e1,readyN:=g1,ready:=h1} a3 True)))))∧(z0=false→a1→c0∧d0∧0=((0:Nat):Int)∧g3∧0≤o0∧(∀v4:Nat,let w4:=(v4:Int);let x4:=decide (w4<q0);let y4:=0≤w4∧w4<q0;
    let z4:=0+Int.toNat w4;let a5:=(sdS v0 e0 (-1) 0 z4).owes;let b5:=cond (a5==f) (-1) a5==f;let c5:Int:=w4+1;let d5:=w64 c5=c5;v4≤o0→(x4=true→tn 5 (y4∧tn 3 ((b5=true→y4∧(∀e5:Nat,b0)∧d5∧(∃g5:Nat,c0∧d0∧c5=(g5:Int)∧wEq {W with kinds:=h0,tasks:=fun h5:Nat=>let k5:=sdS v0 e0 (-1) 0 h5;let l5:=k5.owes;{k5 with owes:=cond (Nat.beq h5 z4) (-1) (cond (l5==f) (-1) l5)},linesN:=c1,lines:=d1,cores:=e1,readyN:=g1,ready:=h1} b3 l0∧g5≤o0∧o0-g5<o0-v4))∧(b5=false→d5∧(∃o5:Nat,c0∧d0∧c5=(o5:Int)∧g3∧o5≤o0∧o0-o5<o0-v4)))))∧(x4=false→tn 5 (v1∧w0∧w1∧True∧wEq {W with kinds:=h0,tasks:=fun q5:Nat=>let u5:=Nat.beq q5 g0;let v5:=sdS v0 e0 (-1) 0 q5;let w5:=v5.owes;Run.mk (cond u5 0 v5.r0) (cond u5 0 v5.r1) (cond u5 0 v5.r2) (cond u5 0 v5.r3) (cond u5 0 v5.r4) (cond u5 0 v5.r5) (cond u5 0 v5.r6) (cond u5 0 v5.r7) (cond u5 0 v5.pc) (cond u5 0 v5.st) (cond u5 0 v5.prio) (cond u5 (-1) v5.node) (cond u5 (-1) v5.space) (cond u5 (-1) v5.helper) (cond u5 (-1) v5.loc) (cond u5 0 v5.word) (cond u5 0 v5.badge) (cond u5 (-1) (cond (w5==f) (-1) w5)) (cond u5 0 v5.core) (cond u5 0 v5.dom),linesN:=c1,lines:=d1,cores:=e1,readyN:=g1,ready:=h1} a3 True)))))))
set_option maxHeartbeats 1000000 in
theorem fc_bury6 (N_:Nat) (h_:FnOK Tryz.prog glN 124 (c_doDrop N_)): ∀x,(s_bury6 N_).pre x→FnC Tryz.prog glN 160 ((s_bury6 N_).args x) ((s_bury6 N_).mem x) ((s_bury6 N_).res x) ((s_bury6 N_).mem' x):=fun x hp=>fn_of (.cons ok_leave (.cons ok_wBlankF (.cons ok_unmap (.cons ok_fgS (.cons h_ .nil))))) false Tryz.func160 ((fun ⟨f,W⟩=> [.decs [5,6,8,16,28,40,41],.cut 3 (cutP W f 6),.inv (an_noP W.nTasks 40),.inv (an_noP W.nTasks 71),.inv (an_ndP (dropBy (bur N_)) W f 7),.inv (an_noP W.nTasks 142),.inv (an_drP W f),.inv (an_noP W.nTasks 217)]) x) (V:=V_bury6 N_ x) (by kernel_rfl)<|(fun ⟨f,W⟩ hp=>by
  dsimp only [s_bury6] at hp
  dsimp only [V_bury6,tn,w64,wEq,rEq,sEq,eEq]
  simp only [std,stb,eq_self,implies_true,Bool.cond_self]
  try simp only [wd_eta]
  obtain ⟨hJ,hn,f0,f1,hk⟩:=hp
  have z:=hJ.w.i.z
  have z1:=z.ram
  have z2:=z.slots
  have z3:=z.tasks
  have z4:=z.k1
  have z5:=z.lines
  have z6:=z.bits
  refine ⟨⟨f0,f1⟩,⟨⟨f0,f1⟩,hk,fun _ _=>rfl⟩,fun _ _=>?_⟩
  have hI:=inv_kd hJ.w.i (kd0 hJ f)
  have hS:=(inv_stp (W:=kz W f) hI f0 (by show f<W.nTasks;omega)).tk f.toNat (by show f.toNat<W.nTasks;omega)
  have ho:=hS.owes
  have e:bur (N_+1) W f=tdW W f:=gone_td hk
  simp only [e]
  refine ⟨⟨f0,by omega,hI⟩,⟨f0,by omega⟩,fun h1=>⟨⟨of_decide_eq_true h1,Int.lt_of_lt_of_le ho.2 (by show (W.nKinds:Int)≤W.nTasks;omega)⟩,fun _ r hr=>⟨fun h=>?_,fun _=>⟨⟨f0,by omega⟩,?_⟩⟩⟩,fun h1 _ r hr=>⟨fun h=>?_,fun _=>⟨⟨f0,by omega⟩,?_⟩⟩⟩
  · have hlt:=lt_of_dec h
    exact ⟨by omega,fun h2=>absurd h2 (by rw [owe_ne f0];decide),fun _=>⟨wr_in (by omega) (by omega),r+1,by omega,by omega,by omega⟩⟩
  · repeat' (first|exact trivial|exact fun j hj=>td20a h1|exact run20 rfl|exact slt7 rfl|exact ent4 rfl|rfl|refine And.intro ?_ ?_|intro _)
  · have hlt:=lt_of_dec h
    exact ⟨by omega,fun h2=>absurd h2 (by rw [owe_ne f0];decide),fun _=>⟨wr_in (by omega) (by omega),r+1,by omega,by omega,by omega⟩⟩
  · repeat' (first|exact trivial|exact fun j hj=>td20b h1|exact run20 rfl|exact slt7 rfl|exact ent4 rfl|rfl|refine And.intro ?_ ?_|intro _)
  : ∀x,(s_bury6 N_).pre x→V_bury6 N_ x) x hp
structure X_bury7 where
  (f:Int) (W:Wd)
def s_bury7 (N_:Nat):Sy.Spec:=⟨X_bury7,fun ⟨f,_⟩=> [.ptr 0 0 none 0 0,.v (.int .i64 f)],fun ⟨_,W⟩=>wMem W,fun ⟨f,W⟩=>JJ W∧cntF W≤N_∧0≤f∧f<W.nKinds∧W.kinds f.toNat=7,fun _=> .tp 0 (lsv []),fun ⟨f,W⟩=>wMem (bur (N_+1) W f),
  fun args mem=>match args with| [a0,a1]=>some ⟨intD (a1),wMJD mem 0⟩|_=>none⟩
def V_bury7 (N_:Nat):X_bury7→Prop:=fun ⟨f,W⟩=>let a0:=0≤f∧f<((W.nKinds:Nat):Int);let b0:=false=false;let c0:=SV.ptr 0 0 none 0 0=SV.ptr 0 0 none 0 0;let d0:=SV.ptr (0+1+1+1+1+1+1+1+1+1+1+1) 0 none 0 0=SV.ptr 11 0 none 0 0;let e0:=Int.toNat f;let g0:=0+e0;let h0:=updF W.kinds e0 0;let k0:={W with kinds:=h0};let l0:=(True∧f=f)∧True;let o0:=W.nLines;let q0:=0≤f∧f<(o0:Int);let u0:=W.linesN g0;let v0:=(u0:Int);let w0:=W.linesN e0;let x0:=W.nTasks;let y0:=(x0:Int);tn 6 (a0∧tn 5 (a0∧(∀z0:Nat,b0)∧c0∧d0∧W.kinds g0=7∧wEq {W with kinds:=fun a1:Nat=>cond (Nat.beq a1 g0) 0 (W.kinds a1)} k0 l0∧True)∧(∀b1:Nat,True→tn 6 (q0∧(v0≤9223372036854775807→c0∧d0∧((g0<o0∧0<1)∧g0=e0∧0=0∧0=0∧u0=w0)∧0=((0:Nat):Int)∧wEq k0 {W with kinds:=h0,tasks:=drS 8 W f 0} l0∧0≤w0∧(∀c1:Nat,let d1:=(c1:Int);let e1:=decide (d1<v0);let g1:=W.lines e0 (0+Int.toNat d1);let h1:=0≤g1∧g1<y0;let k1:Int:=d1+1;let l1:=0+Int.toNat g1;c1≤w0→(e1=true→(0≤d1∧d1<(w0:Int))∧tn 10 (h1∧(∀o1:Nat,b0)∧h1∧(∀q1:Nat,b0)∧w64 k1=k1∧(∃u1:Nat,c0∧d0∧((e0<o0∧0<1)∧e0=e0∧0=0∧0=0∧w0=w0)∧k1=(u1:Int)∧wEq {W with kinds:=h0,tasks:=fun v1:Nat=>let w1:=drS 8 W f c1 v1;{w1 with st:=cond (Nat.beq v1 l1) 0 w1.st,loc:=cond (Nat.beq v1 l1) (-1) w1.loc}} {W with kinds:=h0,tasks:=drS 8 W f u1} l0∧u1≤w0∧w0-u1<w0-c1)))∧(e1=false→tn 10 (q0∧(True∧True)∧(∀x1:Nat,Nat.beq 1 1=true)∧(0≤f∧f<((W.nBits:Nat):Int))∧(∀y1:Nat,b0)∧(y0≤9223372036854775807→c0∧d0∧0=((0:Nat):Int)∧
    wEq {W with kinds:=h0,tasks:=drS 8 W f c1,linesN:=fun z1:Nat=>cond (Nat.beq z1 g0) 0 (W.linesN z1),lines:=fun a2:Nat=>fun b2:Nat=>cond (Nat.beq a2 g0) (W.lines g0 b2) (W.lines a2 b2),bits:=fun c2:Nat=>cond (Nat.beq c2 g0) 0 (W.bits c2)} {W with kinds:=h0,tasks:=drH W f 0,linesN:=fun d2:Nat=>cond (Nat.beq d2 g0) 0 (W.linesN d2),lines:=fun e2:Nat=>fun g2:Nat=>cond (Nat.beq e2 g0) (W.lines g0 g2) (W.lines e2 g2),bits:=fun h2:Nat=>cond (Nat.beq h2 g0) 0 (W.bits h2)} l0∧0≤x0∧(∀k2:Nat,let l2:=(k2:Int);let o2:=decide (l2<y0);let q2:=0≤l2∧l2<y0;let u2:=0+Int.toNat l2;let v2:=(drH W f k2 u2).helper==f;let w2:Int:=l2+1;let x2:=w64 w2=w2;let y2:={W with kinds:=h0,tasks:=drH W f k2,linesN:=fun z2:Nat=>cond (Nat.beq z2 g0) 0 (W.linesN z2),lines:=fun a3:Nat=>fun b3:Nat=>cond (Nat.beq a3 g0) (W.lines g0 b3) (W.lines a3 b3),bits:=fun c3:Nat=>cond (Nat.beq c3 g0) 0 (W.bits c3)};k2≤x0→(o2=true→tn 5 (q2∧tn 3 ((v2=true→q2∧(∀d3:Nat,b0)∧x2∧(∃e3:Nat,c0∧d0∧w2=(e3:Int)∧
    wEq {W with kinds:=h0,tasks:=fun g3:Nat=>let h3:=drH W f k2 g3;{h3 with helper:=cond (Nat.beq g3 u2) (-1) h3.helper},linesN:=fun k3:Nat=>cond (Nat.beq k3 g0) 0 (W.linesN k3),lines:=fun l3:Nat=>fun o3:Nat=>cond (Nat.beq l3 g0) (W.lines g0 o3) (W.lines l3 o3),bits:=fun q3:Nat=>cond (Nat.beq q3 g0) 0 (W.bits q3)} {W with kinds:=h0,tasks:=drH W f e3,linesN:=fun u3:Nat=>cond (Nat.beq u3 g0) 0 (W.linesN u3),lines:=fun v3:Nat=>fun w3:Nat=>cond (Nat.beq v3 g0) (W.lines g0 w3) (W.lines v3 w3),bits:=fun x3:Nat=>cond (Nat.beq x3 g0) 0 (W.bits x3)} l0∧e3≤x0∧x0-e3<x0-k2))∧(v2=false→x2∧(∃y3:Nat,c0∧d0∧w2=(y3:Int)∧wEq y2 {W with kinds:=h0,tasks:=drH W f y3,linesN:=fun z3:Nat=>cond (Nat.beq z3 g0) 0 (W.linesN z3),lines:=fun a4:Nat=>fun b4:Nat=>cond (Nat.beq a4 g0) (W.lines g0 b4) (W.lines a4 b4),bits:=fun c4:Nat=>cond (Nat.beq c4 g0) 0 (W.bits c4)} l0∧y3≤x0∧x0-y3<x0-k2)))))∧(o2=false→True∧wEq y2 (bur (N_+1) W f) True))))))))))
set_option maxHeartbeats 1000000 in
theorem fc_bury7 (N_:Nat) (h_:FnOK Tryz.prog glN 124 (c_doDrop N_)): ∀x,(s_bury7 N_).pre x→FnC Tryz.prog glN 160 ((s_bury7 N_).args x) ((s_bury7 N_).mem x) ((s_bury7 N_).res x) ((s_bury7 N_).mem' x):=fun x hp=>fn_of (.cons ok_leave (.cons ok_wBlankF (.cons ok_unmap (.cons ok_fgS (.cons h_ .nil))))) false Tryz.func160 ((fun ⟨f,W⟩=> [.decs [5,6,8,16,28,40,41],.cut 3 (cutP W f 7),.inv (an_noP W.nTasks 40),.inv (an_noP W.nTasks 71),.inv (an_ndP (dropBy (bur N_)) W f 7),.inv (an_noP W.nTasks 142),.inv (an_drP W f),.inv (an_hpP W f 217)]) x) (V:=V_bury7 N_ x) (by kernel_rfl)<|(fun ⟨f,W⟩ hp=>by
  dsimp only [s_bury7] at hp
  dsimp only [V_bury7,tn,w64,wEq,rEq,sEq,eEq]
  simp only [std,stb,eq_self,implies_true,Bool.cond_self]
  try simp only [wd_eta]
  obtain ⟨hJ,hn,f0,f1,hk⟩:=hp
  have z:=hJ.w.i.z
  have z1:=z.ram
  have z2:=z.slots
  have z3:=z.tasks
  have z4:=z.k1
  have z5:=z.lines
  have z6:=z.bits
  refine ⟨⟨f0,f1⟩,⟨⟨f0,f1⟩,hk,fun _ _=>rfl⟩,fun _ _=>?_⟩
  have hlL:=(hJ.w.i.ln f.toNat (by omega)).1
  refine ⟨⟨f0,by omega⟩,fun _=>⟨⟨by omega,by decide⟩,fun q hq=>run20 (by rw [drS_0,mixK_lt hq];rfl),fun s hs=>⟨fun h=>?_,fun h=>?_⟩⟩⟩
  · have hlt:=lt_of_dec h
    obtain ⟨l0,l1⟩:=(hJ.w.i.ln f.toNat (by omega)).2 s hlt
    refine ⟨by omega,⟨l0,l1⟩,⟨l0,l1⟩,wr_in (by omega) (by omega),s+1,⟨by omega,by decide⟩,by omega,fun q hq=>?_,by omega,by omega⟩
    rcases Decidable.em (q=(W.lines f.toNat s).toNat) with e|e
    · rw [drS_at l0 e,←drS_col (s:=s)]
      subst e
      simp only [Nat.beq_refl,cond_true]
      repeat' (first|exact trivial|rfl|refine And.intro ?_ ?_)
    · rw [drS_ne l0 e]
      simp only [beq_ne e,cond_false]
      repeat' (first|exact trivial|rfl|refine And.intro ?_ ?_)
  have hge:=ge_of_dec h
  obtain rfl:s=W.linesN f.toNat:=by omega
  have e:bur (N_+1) W f=drW W f:=gone_dr (.inl hk)
  simp only [e]
  have hl: ∀q v,(bif Nat.beq q f.toNat then W.lines f.toNat v else W.lines q v)=W.lines q v:=fun q v=>by
    rcases Decidable.em (q=f.toNat) with e|e
    · subst e;rw [Nat.beq_refl];rfl
    · rw [beq_ne e];rfl
  refine ⟨⟨f0,by omega⟩,fun _=>rfl,⟨f0,by omega⟩,?_⟩
  refine fun _=>⟨fun q _=>run20 (drH_ge (Nat.zero_le _)).symm,fun s hs=>⟨fun h=>?_,fun h=>?_⟩⟩
  · have hlt:=lt_of_dec h
    rw [drH_ge (Nat.le_refl _)]
    refine ⟨by omega,fun h1=>⟨by omega,wr_in (by omega) (by omega),s+1,by omega,fun q _=>?_,by omega,by omega⟩,fun h1=>⟨wr_in (by omega) (by omega),s+1,by omega,fun q _=>?_,by omega,by omega⟩⟩
    · have h2:((drS 8 W f (W.linesN f.toNat) s).helper==f)=true:=h1
      have e2:hpT 7 f (drS 8 W f (W.linesN f.toNat) s)={drS 8 W f (W.linesN f.toNat) s with helper:= -1}:=by
        show ({drS 8 W f (W.linesN f.toNat) s with helper:=bif (drS 8 W f (W.linesN f.toNat) s).helper==f then -1 else (drS 8 W f (W.linesN f.toNat) s).helper}:Run)=_
        rw [h2];rfl
      rcases Nat.lt_trichotomy q s with e|e|e
      · rw [beq_ne (by omega),drH_lt e,drH_lt (by omega:q<s+1)];exact run20 rfl
      · subst e
        rw [Nat.beq_refl,drH_lt (Nat.lt_succ_self _),drH_ge (Nat.le_refl _),e2]
        simp only [cond_true]
        repeat' (first|exact trivial|rfl|refine And.intro ?_ ?_)
      · rw [beq_ne (by omega),drH_ge (by omega),drH_ge (by omega:s+1≤q)];exact run20 rfl
    · have h2:((drS 8 W f (W.linesN f.toNat) s).helper==f)=false:=h1
      have e2:hpT 7 f (drS 8 W f (W.linesN f.toNat) s)=drS 8 W f (W.linesN f.toNat) s:=by
        show ({drS 8 W f (W.linesN f.toNat) s with helper:=bif (drS 8 W f (W.linesN f.toNat) s).helper==f then -1 else (drS 8 W f (W.linesN f.toNat) s).helper}:Run)=_
        rw [h2];rfl
      rcases Nat.lt_trichotomy q s with e|e|e
      · rw [drH_lt e,drH_lt (by omega:q<s+1)];exact run20 rfl
      · subst e;rw [drH_ge (Nat.le_refl _),drH_lt (Nat.lt_succ_self _),e2];exact run20 rfl
      · rw [drH_ge (by omega),drH_ge (by omega:s+1≤q)];exact run20 rfl
  have hge:=ge_of_dec h
  have hsn:s=W.nTasks:=by omega
  have hd: ∀j,j<W.nTasks→drH W f s j=drT W f j:=fun j hj=>by
    rw [drH_lt (by omega)]
    unfold drT drS
    rw [hk,mixK_lt hj]
    rfl
  repeat' (first|exact trivial|exact fun j hj=>run20 (hd j hj)|exact fun q _=>⟨rfl,fun v _=>hl q v⟩|exact run20 rfl|exact slt7 rfl|exact ent4 rfl|rfl|refine And.intro ?_ ?_|intro _)
  : ∀x,(s_bury7 N_).pre x→V_bury7 N_ x) x hp
structure X_bury8 where
  (f:Int) (W:Wd)
def s_bury8 (N_:Nat):Sy.Spec:=⟨X_bury8,fun ⟨f,_⟩=> [.ptr 0 0 none 0 0,.v (.int .i64 f)],fun ⟨_,W⟩=>wMem W,fun ⟨f,W⟩=>JJ W∧cntF W≤N_∧0≤f∧f<W.nKinds∧W.kinds f.toNat=8,fun _=> .tp 0 (lsv []),fun ⟨f,W⟩=>wMem (bur (N_+1) W f),
  fun args mem=>match args with| [a0,a1]=>some ⟨intD (a1),wMJD mem 0⟩|_=>none⟩
def V_bury8 (N_:Nat):X_bury8→Prop:=fun ⟨f,W⟩=>let a0:=0≤f∧f<((W.nKinds:Nat):Int);let b0:=false=false;let c0:=SV.ptr 0 0 none 0 0=SV.ptr 0 0 none 0 0;let d0:=SV.ptr (0+1+1+1+1+1+1+1+1+1+1+1) 0 none 0 0=SV.ptr 11 0 none 0 0;let e0:=Int.toNat f;let g0:=0+e0;let h0:=updF W.kinds e0 0;let k0:={W with kinds:=h0};let l0:=(True∧f=f)∧True;let o0:=W.nLines;let q0:=0≤f∧f<(o0:Int);let u0:=W.linesN g0;let v0:=(u0:Int);let w0:=W.linesN e0;let x0:=W.nTasks;let y0:=(x0:Int);tn 6 (a0∧tn 5 (a0∧(∀z0:Nat,b0)∧c0∧d0∧W.kinds g0=8∧wEq {W with kinds:=fun a1:Nat=>cond (Nat.beq a1 g0) 0 (W.kinds a1)} k0 l0∧True)∧(∀b1:Nat,True→tn 6 (q0∧(v0≤9223372036854775807→c0∧d0∧((g0<o0∧0<1)∧g0=e0∧0=0∧0=0∧u0=w0)∧0=((0:Nat):Int)∧wEq k0 {W with kinds:=h0,tasks:=drS 8 W f 0} l0∧0≤w0∧(∀c1:Nat,let d1:=(c1:Int);let e1:=decide (d1<v0);let g1:=W.lines e0 (0+Int.toNat d1);let h1:=0≤g1∧g1<y0;let k1:Int:=d1+1;let l1:=0+Int.toNat g1;let o1:={W with kinds:=h0,tasks:=drS 8 W f c1,linesN:=fun q1:Nat=>cond (Nat.beq q1 g0) 0 (W.linesN q1),lines:=fun u1:Nat=>fun v1:Nat=>cond (Nat.beq u1 g0) (W.lines g0 v1) (W.lines u1 v1),bits:=fun w1:Nat=>cond (Nat.beq w1 g0) 0 (W.bits w1)};let x1:=wEq o1 o1 l0;c1≤w0→(e1=true→(0≤d1∧d1<(w0:Int))∧tn 10 (h1∧(∀y1:Nat,b0)∧h1∧(∀z1:Nat,b0)∧w64 k1=k1∧(∃a2:Nat,c0∧d0∧((e0<o0∧0<1)∧e0=e0∧0=0∧0=0∧w0=w0)∧k1=(a2:Int)∧wEq {W with kinds:=h0,tasks:=fun b2:Nat=>let c2:=drS 8 W f c1 b2;{c2 with st:=cond (Nat.beq b2 l1) 0 c2.st,loc:=cond (Nat.beq b2 l1) (-1) c2.loc}} {W with kinds:=h0,tasks:=drS 8 W f a2} l0∧a2≤w0∧w0-a2<w0-c1)))∧(e1=false→tn 10 (q0∧(True∧True)∧
    (∀d2:Nat,Nat.beq 1 1=true)∧(0≤f∧f<((W.nBits:Nat):Int))∧(∀e2:Nat,b0)∧(y0≤9223372036854775807→c0∧d0∧0=((0:Nat):Int)∧x1∧0≤x0∧(∀g2:Nat,let h2:=(g2:Int);let k2:=decide (h2<y0);let l2:=0≤h2∧h2<y0;let o2:=0+Int.toNat h2;let q2:=(drS 8 W f c1 o2).helper==f;let u2:Int:=h2+1;let v2:=w64 u2=u2;g2≤x0→(k2=true→tn 5 (l2∧tn 3 ((q2=true→l2∧(∀w2:Nat,b0)∧v2∧(∃x2:Nat,c0∧d0∧u2=(x2:Int)∧wEq {W with kinds:=h0,tasks:=fun y2:Nat=>let z2:=drS 8 W f c1 y2;{z2 with helper:=cond (Nat.beq y2 o2) (-1) z2.helper},linesN:=fun a3:Nat=>cond (Nat.beq a3 g0) 0 (W.linesN a3),lines:=fun b3:Nat=>fun c3:Nat=>cond (Nat.beq b3 g0) (W.lines g0 c3) (W.lines b3 c3),bits:=fun d3:Nat=>cond (Nat.beq d3 g0) 0 (W.bits d3)} o1 l0∧x2≤x0∧x0-x2<x0-g2))∧(q2=false→v2∧(∃e3:Nat,c0∧d0∧u2=(e3:Int)∧x1∧e3≤x0∧x0-e3<x0-g2)))))∧(k2=false→True∧wEq o1 (bur (N_+1) W f) True))))))))))
set_option maxHeartbeats 1000000 in
theorem fc_bury8 (N_:Nat) (h_:FnOK Tryz.prog glN 124 (c_doDrop N_)): ∀x,(s_bury8 N_).pre x→FnC Tryz.prog glN 160 ((s_bury8 N_).args x) ((s_bury8 N_).mem x) ((s_bury8 N_).res x) ((s_bury8 N_).mem' x):=fun x hp=>fn_of (.cons ok_leave (.cons ok_wBlankF (.cons ok_unmap (.cons ok_fgS (.cons h_ .nil))))) false Tryz.func160 ((fun ⟨f,W⟩=> [.decs [5,6,8,16,28,40,41],.cut 3 (cutP W f 8),.inv (an_noP W.nTasks 40),.inv (an_noP W.nTasks 71),.inv (an_ndP (dropBy (bur N_)) W f 7),.inv (an_noP W.nTasks 142),.inv (an_drP W f),.inv (an_noP W.nTasks 217)]) x) (V:=V_bury8 N_ x) (by kernel_rfl)<|(fun ⟨f,W⟩ hp=>by
  dsimp only [s_bury8] at hp
  dsimp only [V_bury8,tn,w64,wEq,rEq,sEq,eEq]
  simp only [std,stb,eq_self,implies_true,Bool.cond_self]
  try simp only [wd_eta]
  obtain ⟨hJ,hn,f0,f1,hk⟩:=hp
  have z:=hJ.w.i.z
  have z1:=z.ram
  have z2:=z.slots
  have z3:=z.tasks
  have z4:=z.k1
  have z5:=z.lines
  have z6:=z.bits
  refine ⟨⟨f0,f1⟩,⟨⟨f0,f1⟩,hk,fun _ _=>rfl⟩,fun _ _=>?_⟩
  have hlL:=(hJ.w.i.ln f.toNat (by omega)).1
  refine ⟨⟨f0,by omega⟩,fun _=>⟨⟨by omega,by decide⟩,fun q hq=>run20 (by rw [drS_0,mixK_lt hq];rfl),fun s hs=>⟨fun h=>?_,fun h=>?_⟩⟩⟩
  · have hlt:=lt_of_dec h
    obtain ⟨l0,l1⟩:=(hJ.w.i.ln f.toNat (by omega)).2 s hlt
    refine ⟨by omega,⟨l0,l1⟩,⟨l0,l1⟩,wr_in (by omega) (by omega),s+1,⟨by omega,by decide⟩,by omega,fun q hq=>?_,by omega,by omega⟩
    rcases Decidable.em (q=(W.lines f.toNat s).toNat) with e|e
    · rw [drS_at l0 e,←drS_col (s:=s)]
      subst e
      simp only [Nat.beq_refl,cond_true]
      repeat' (first|exact trivial|rfl|refine And.intro ?_ ?_)
    · rw [drS_ne l0 e]
      simp only [beq_ne e,cond_false]
      repeat' (first|exact trivial|rfl|refine And.intro ?_ ?_)
  have hge:=ge_of_dec h
  obtain rfl:s=W.linesN f.toNat:=by omega
  have e:bur (N_+1) W f=drW W f:=gone_dr (.inr hk)
  simp only [e]
  have hl: ∀q v,(bif Nat.beq q f.toNat then W.lines f.toNat v else W.lines q v)=W.lines q v:=fun q v=>by
    rcases Decidable.em (q=f.toNat) with e|e
    · subst e;rw [Nat.beq_refl];rfl
    · rw [beq_ne e];rfl
  refine ⟨⟨f0,by omega⟩,fun _=>rfl,⟨f0,by omega⟩,?_⟩
  have hd: ∀j,j<W.nTasks→drS 8 W f (W.linesN f.toNat) j=drT W f j:=fun j hj=>drS_all hj (by rw [hk];rfl)
  refine fun _ r hr=>⟨fun h=>?_,fun _=>?_⟩
  · have hlt:=lt_of_dec h
    have hlt':r<W.nTasks:=by omega
    refine ⟨by omega,fun h2=>?_,fun _=>⟨wr_in (by omega) (by omega),r+1,by omega,by omega,by omega⟩⟩
    rw [drS_hp hlt'] at h2
    exact absurd (hJ.w.hp r hlt' f.toNat (by omega) (by have:=eq_of_beq h2;omega)) (by rw [hk];decide)
  repeat' (first|exact trivial|exact fun j hj=>run20 (hd j hj)|exact fun q _=>⟨rfl,fun v _=>hl q v⟩|exact run20 rfl|exact slt7 rfl|exact ent4 rfl|rfl|refine And.intro ?_ ?_|intro _)
  : ∀x,(s_bury8 N_).pre x→V_bury8 N_ x) x hp
end Go.Proofs.YtdjilaofmdhikaaGreatDoor
set_option linter.unusedVariables false
set_option linter.unusedSimpArgs false
set_option maxRecDepth 100000
namespace Go.Proofs.YtdjilaofmdhikaaGreatDoor
open Go.RowKit Go.Sy
theorem ok_goneS (N_:Nat) (h_:FnOK Tryz.prog glN 65 (c_dropR N_)):FnOK Tryz.prog glN 125 (c_goneR (N_+1)):=fnOK_of Tryz.call125 fun ⟨f,W⟩ ⟨hJ,hc,f0,f1⟩=>by
  have hk:=hJ.w.i.kd f.toNat (by omega)
  have hn:cntF W≤N_:=by omega
  obtain ⟨k,hkk⟩: ∃k,W.kinds f.toNat=k:=⟨_,rfl⟩
  rw [hkk] at hk
  have hcs:k=0∨k=1∨k=2∨k=3∨k=4∨k=5∨k=6∨k=7∨k=8:=by omega
  subst hkk
  rcases hcs with e|e|e|e|e|e|e|e|e
  · exact fc_gone0 N_ h_ ⟨f,W⟩ ⟨hJ,hn,f0,f1,e⟩
  · exact fc_gone1 N_ h_ ⟨f,W⟩ ⟨hJ,hn,f0,f1,e⟩
  · exact fc_gone2 N_ h_ ⟨f,W⟩ ⟨hJ,hn,f0,f1,e⟩
  · exact fc_gone3 N_ h_ ⟨f,W⟩ ⟨hJ,hn,f0,f1,e⟩
  · exact fc_gone4 N_ h_ ⟨f,W⟩ ⟨hJ,hn,f0,f1,e⟩
  · exact fc_gone5 N_ h_ ⟨f,W⟩ ⟨hJ,hn,f0,f1,e⟩
  · exact fc_gone6 N_ h_ ⟨f,W⟩ ⟨hJ,hn,f0,f1,e⟩
  · exact fc_gone7 N_ h_ ⟨f,W⟩ ⟨hJ,hn,f0,f1,e⟩
  · exact fc_gone8 N_ h_ ⟨f,W⟩ ⟨hJ,hn,f0,f1,e⟩
theorem ok_goneZ:FnOK Tryz.prog glN 125 (c_goneR 0):=fnOK_of Tryz.call125 fun ⟨_,_⟩ ⟨_,hc,_⟩=>absurd hc (by omega)
theorem ok_goneA: ∀n,FnOK Tryz.prog glN 65 (c_dropR n)∧FnOK Tryz.prog glN 125 (c_goneR n)
  |0=>⟨ok_dropR 0 ok_goneZ,ok_goneZ⟩
  |n+1=>⟨ok_dropR (n+1) (ok_goneS n (ok_goneA n).1),ok_goneS n (ok_goneA n).1⟩
def c_dropRT:Con:=c_dropR 400
theorem ok_dropRT:FnOK Tryz.prog glN 65 c_dropRT:=(ok_goneA 400).1
end Go.Proofs.YtdjilaofmdhikaaGreatDoor
set_option linter.unusedVariables false
set_option linter.unusedSimpArgs false
set_option maxRecDepth 100000
namespace Go.Proofs.YtdjilaofmdhikaaGreatDoor
open Go.RowKit Go.Sy
theorem ok_buryS (N_:Nat) (h_:FnOK Tryz.prog glN 124 (c_doDrop N_)):FnOK Tryz.prog glN 160 (c_buryP (N_+1)):=fnOK_of Tryz.call160 fun ⟨f,W⟩ ⟨hJ,hc,f0,f1⟩=>by
  have hk:=hJ.w.i.kd f.toNat (by omega)
  have hn:cntF W≤N_:=by omega
  obtain ⟨k,hkk⟩: ∃k,W.kinds f.toNat=k:=⟨_,rfl⟩
  rw [hkk] at hk
  have hcs:k=0∨k=1∨k=2∨k=3∨k=4∨k=5∨k=6∨k=7∨k=8:=by omega
  subst hkk
  rcases hcs with e|e|e|e|e|e|e|e|e
  · exact fc_bury0 N_ h_ ⟨f,W⟩ ⟨hJ,hn,f0,f1,e⟩
  · exact fc_bury1 N_ h_ ⟨f,W⟩ ⟨hJ,hn,f0,f1,e⟩
  · exact fc_bury2 N_ h_ ⟨f,W⟩ ⟨hJ,hn,f0,f1,e⟩
  · exact fc_bury3 N_ h_ ⟨f,W⟩ ⟨hJ,hn,f0,f1,e⟩
  · exact fc_bury4 N_ h_ ⟨f,W⟩ ⟨hJ,hn,f0,f1,e⟩
  · exact fc_bury5 N_ h_ ⟨f,W⟩ ⟨hJ,hn,f0,f1,e⟩
  · exact fc_bury6 N_ h_ ⟨f,W⟩ ⟨hJ,hn,f0,f1,e⟩
  · exact fc_bury7 N_ h_ ⟨f,W⟩ ⟨hJ,hn,f0,f1,e⟩
  · exact fc_bury8 N_ h_ ⟨f,W⟩ ⟨hJ,hn,f0,f1,e⟩
theorem ok_buryZ:FnOK Tryz.prog glN 160 (c_buryP 0):=fnOK_of Tryz.call160 fun ⟨_,_⟩ ⟨_,hc,_⟩=>absurd hc (by omega)
theorem ok_buryA: ∀n,FnOK Tryz.prog glN 124 (c_doDrop n)∧FnOK Tryz.prog glN 160 (c_buryP n)
  |0=>⟨ok_doDrop 0 ok_buryZ,ok_buryZ⟩
  |n+1=>⟨ok_doDrop (n+1) (ok_buryS n (ok_buryA n).1),ok_buryS n (ok_buryA n).1⟩
def c_dropT:Con:=c_doDrop 400
theorem ok_dropT:FnOK Tryz.prog glN 124 c_dropT:=(ok_buryA 400).1
end Go.Proofs.YtdjilaofmdhikaaGreatDoor
set_option linter.unusedVariables false
set_option linter.unusedSimpArgs false
set_option maxRecDepth 100000
namespace Go.Proofs.YtdjilaofmdhikaaGreatDoor
open Go.RowKit Go.Sy
structure X_is where
  (e a x y:Int)
def s_is:Sy.Spec:=⟨X_is,fun ⟨e,a,x,y⟩=> [.er 35 116 e a,.ag 2 (lsv [.v (.int .i64 x),.v (.int .i64 y)])],fun _=> [],fun _=>True,fun ⟨e,a,x,y⟩=> .v (.bool (e==x&&a==y)),fun _=> [],
  fun args mem=>match args with| [a0,a1]=>some ⟨erE a0,erA a0,intD (agD a1 0),intD (agD a1 1)⟩|_=>none⟩
def c_is:Con:=⟨[],s_is.g,none⟩
def V_is:X_is→Prop:=fun ⟨e,a,x,y⟩=>True∧(((e=e∧a=a)∧True)∧True∧True)∧cond (e==x) (a==y) false=(e==x&&a==y)∧True
theorem ok_is:FnOK Tryz.prog glE 27 c_is:=ok_of (.cons ok_tell .nil) false Tryz.call27 Tryz.func27 (fun _=> []) (V:=V_is) (fun _=>by kernel_rfl) fun ⟨e,a,x,y⟩ hp=>by
  dsimp only [V_is,tn,w64]
  exact ⟨trivial,by simp,by cases e==x<;>rfl,trivial⟩
end Go.Proofs.YtdjilaofmdhikaaGreatDoor
set_option linter.unusedVariables false
set_option linter.unusedSimpArgs false
set_option maxRecDepth 100000
namespace Go.Proofs.YtdjilaofmdhikaaGreatDoor
open Go.RowKit Go.Sy
def wRd (W:Wd):SV:= .ag 11 (lsv [.sl false 1 W.nRam (iF W.ram),.sl false 1 W.nKinds (iF W.kinds),.sl false 7 W.nSlots (rF fun i=>slL (W.slots i)),.sl false 20 W.nTasks (rF fun i=>runL (W.tasks i)),.sl false 1 W.nLines (fun i _=> .sl false 1 (W.linesN i) (iF (W.lines i))),.sl false 1 W.nBits (iF W.bits),.sl false 1 W.nCores (iF W.cores),.sl false 1 W.nReady (fun i _=> .sl false 1 (W.readyN i) (iF (W.ready i))),.sl false 1 W.nTlbs (fun i _=> .sl false 4 (W.tlbsN i) (rF fun k=>enL (W.tlbs i k))),.sl false 1 W.nDoms (iF W.doms),.v (.int .i64 W.time)])
def oW:Wd:=⟨0,fun _=>0,0,fun _=>0,0,fun _=>zSl,0,fun _=>Run.blank,0,fun _=>0,fun _ _=>0,0,fun _=>0,0,fun _=>0,0,fun _=>0,fun _ _=>0,0,fun _=>0,fun _ _=>zEn,0,fun _=>0,0⟩
def gdW (e:Int) (W:Wd):Wd:=bif e==0 then W else oW
theorem gdW_no {e:Int} (W:Wd) (h:(e==0)=false):gdW e W=oW:=by unfold gdW;rw [h];rfl
theorem gdW_yes {e:Int} (W:Wd) (h:(e==0)=true):gdW e W=W:=by unfold gdW;rw [h];rfl
theorem sameB_refl (n:Nat) (f:Nat→Int):sameB n f n f=true:=by simp [sameB,allB_iff]
theorem sameLL_refl (n:Nat) (k:Nat→Nat) (f:Nat→Nat→Int):sameLL n k f n k f=true:=by simp [sameLL,allB_iff,sameB_refl]
theorem sameEn_refl (n:Nat) (f:Nat→Ent4):sameEn n f n f=true:=by simp [sameEn,allB_iff,enEq]
theorem sameW_refl (W:Wd):sameW W W=true:=by simp [sameW,sameB_refl,sameLL_refl,sameEn_refl,allB_iff,slEq,runEq]
theorem lg_sm {W:Wd} (h:Sm W):Lg W:=by
  obtain ⟨h1,h2,h3,h4,h5,h6,h7,h8,h9,h10,h11,h12,h13⟩:=h
  exact ⟨h1,by omega,h3,by omega,by omega,by omega,by omega,by omega,by omega,by omega,fun i hi=>by have:=h11 i hi;omega,fun i hi=>by have:=h12 i hi;omega,fun i hi=>by have:=h13 i hi;omega⟩
theorem snd0 {W:Wd} (h:Snd W):wE W=0:=Snd.iff.2 h
structure X_nothing where
  (A:Wd)
def s_nothing:Sy.Spec:=⟨X_nothing,fun ⟨A⟩=> [wSV A],fun _=> [],fun ⟨A⟩=>A.nRam=0∧A.nKinds=0∧A.nSlots=0∧A.nTasks=0∧A.nLines=0∧A.nBits=0∧A.nCores=0∧A.nReady=0∧A.nTlbs=0∧A.nDoms=0∧A.time=0,fun _=> .v (.bool true),fun _=> [],
  fun args mem=>match args with| [a0]=>some ⟨wSVD a0⟩|_=>none⟩
def c_nothing:Con:=⟨[],s_nothing.g,none⟩
def V_nothing:X_nothing→Prop:=fun ⟨A⟩=>let a0:Int:=((A.nRam:Nat):Int)+((A.nKinds:Nat):Int);let b0:Int:=a0+((A.nSlots:Nat):Int);let c0:Int:=b0+((A.nTasks:Nat):Int);let d0:Int:=c0+((A.nLines:Nat):Int);let e0:Int:=d0+((A.nBits:Nat):Int);let g0:Int:=e0+((A.nCores:Nat):Int);let h0:Int:=g0+((A.nReady:Nat):Int);let k0:Int:=h0+((A.nTlbs:Nat):Int);let l0:Int:=k0+((A.nDoms:Nat):Int);let o0:Int:=l0+A.time;True∧(((A.nRam:Nat):Int)≤9223372036854775807→((A.nKinds:Nat):Int)≤9223372036854775807→w64 a0=a0∧(((A.nSlots:Nat):Int)≤9223372036854775807→w64 b0=b0∧(((A.nTasks:Nat):Int)≤9223372036854775807→w64 c0=c0∧(((A.nLines:Nat):Int)≤9223372036854775807→w64 d0=d0∧(((A.nBits:Nat):Int)≤9223372036854775807→w64 e0=e0∧(((A.nCores:Nat):Int)≤9223372036854775807→w64 g0=g0∧(((A.nReady:Nat):Int)≤9223372036854775807→w64 h0=h0∧(((A.nTlbs:Nat):Int)≤9223372036854775807→w64 k0=k0∧(((A.nDoms:Nat):Int)≤9223372036854775807→w64 l0=l0∧w64 o0=o0∧(o0==0)=true∧True)))))))))
theorem ok_nothing:FnOK Tryz.prog glE 70 c_nothing:=ok_of .nil false Tryz.call70 Tryz.func70 (fun _=> []) (V:=V_nothing) (fun _=>by kernel_rfl) fun ⟨A⟩ hp=>by
  dsimp only [s_nothing] at hp
  dsimp only [V_nothing,tn,w64]
  obtain ⟨h1,h2,h3,h4,h5,h6,h7,h8,h9,h10,h11⟩:=hp
  simp [h1,h2,h3,h4,h5,h6,h7,h8,h9,h10,h11,IntKind.wrap_i64]
structure X_soundR where
  (W:Wd)
def s_soundR:Sy.Spec:=⟨X_soundR,fun ⟨W⟩=> [wSV W],fun _=> [],fun ⟨W⟩=>Sm W,fun ⟨W⟩=> .v (.bool (wE W==0)),fun _=> [],
  fun args mem=>match args with| [a0]=>some ⟨wSVD a0⟩|_=>none⟩
def c_soundR:Con:=⟨[],s_soundR.g,none⟩
def V_soundR:X_soundR→Prop:=fun ⟨W⟩=>let a0:=W.nKinds;let b0:=W.nSlots;let c0:=W.nTasks;let d0:=W.nLines;let e0:=W.nCores;let g0:=W.nReady;True∧(((((((((((((True∧W.nRam=W.nRam∧(∀h0:Nat,h0<W.nRam→True∧W.ram h0=W.ram h0))∧a0=a0∧(∀k0:Nat,k0<a0→True∧W.kinds k0=W.kinds k0))∧b0=b0∧(∀l0:Nat,let o0:=W.slots l0;let q0:=o0.kind;let u0:=o0.base;let v0:=o0.len;let w0:=o0.mark;let x0:=o0.rights;let y0:=o0.badge;let z0:=o0.from_;l0<b0→((((((True∧q0=q0)∧u0=u0)∧v0=v0)∧w0=w0)∧x0=x0)∧y0=y0)∧z0=z0))∧c0=c0∧(∀a1:Nat,let b1:=W.tasks a1;let c1:=b1.prio;let d1:=b1.node;let e1:=b1.space;let g1:=b1.helper;let h1:=b1.loc;let k1:=b1.word;let l1:=b1.badge;let o1:=b1.owes;let q1:=b1.core;let u1:=b1.dom;a1<c0→(((((((((((((((((((True∧b1.r0=b1.r0)∧b1.r1=b1.r1)∧b1.r2=b1.r2)∧b1.r3=b1.r3)∧b1.r4=b1.r4)∧b1.r5=b1.r5)∧b1.r6=b1.r6)∧b1.r7=b1.r7)∧b1.pc=b1.pc)∧b1.st=b1.st)∧c1=c1)∧d1=d1)∧e1=e1)∧g1=g1)∧h1=h1)∧k1=k1)∧l1=l1)∧o1=o1)∧q1=q1)∧u1=u1))∧d0=d0∧(∀v1:Nat,let w1:=W.linesN v1;v1<d0→True∧w1=w1∧(∀x1:Nat,x1<w1→True∧W.lines v1 x1=W.lines v1 x1)))∧W.nBits=W.nBits∧(∀y1:Nat,y1<W.nBits→True∧W.bits y1=W.bits y1))∧e0=e0∧(∀z1:Nat,z1<e0→True∧W.cores z1=W.cores z1))∧g0=g0∧(∀a2:Nat,let b2:=W.readyN a2;a2<g0→True∧b2=b2∧(∀c2:Nat,c2<b2→True∧W.ready a2 c2=W.ready a2 c2)))∧W.nTlbs=W.nTlbs∧(∀d2:Nat,let e2:=W.tlbsN d2;d2<W.nTlbs→True∧e2=e2∧(∀g2:Nat,let h2:=W.tlbs d2 g2;let k2:=h2.sp;let l2:=h2.pg;let o2:=h2.fr;let q2:=h2.wr;g2<e2→(((True∧k2=k2)∧l2=l2)∧o2=o2)∧q2=q2)))∧W.nDoms=W.nDoms∧(∀u2:Nat,u2<W.nDoms→True∧W.doms u2=W.doms u2))∧W.time=W.time)∧True)∧True∧
    s_worldMay.match_1 (fun v2:X_worldMay=>Prop) (X_worldMay.mk W) (fun w2:Wd=>Sm w2))∧(wE W==0)=(wE W==0)∧True
set_option maxHeartbeats 1000000 in
theorem ok_soundR:FnOK Tryz.prog glE 72 c_soundR:=ok_of (.cons (ok_worldMay.up glN_glE) .nil) false Tryz.call72 Tryz.func72 (fun _=> []) (V:=V_soundR) (fun _=>by kernel_rfl) fun ⟨W⟩ hp=>by
  dsimp only [s_soundR] at hp
  dsimp only [V_soundR,tn,w64]
  simp only [std,stb,eq_self,implies_true,Bool.cond_self]
  exact hp
structure X_sound0 where
  (W:Wd)
def s_sound0:Sy.Spec:=⟨X_sound0,fun ⟨W⟩=> [wSV W],fun _=> [],fun ⟨W⟩=>Sm W∧Snd W,fun _=> .v (.int .i64 0),fun _=> [],
  fun args mem=>match args with| [a0]=>some ⟨wSVD a0⟩|_=>none⟩
def c_sound0:Con:=⟨[],s_sound0.g,none⟩
def V_sound0:X_sound0→Prop:=fun ⟨W⟩=>let a0:=W.nKinds;let b0:=W.nSlots;let c0:=W.nTasks;let d0:=W.nLines;let e0:=W.nCores;let g0:=W.nReady;True∧(((((((((((((True∧W.nRam=W.nRam∧(∀h0:Nat,h0<W.nRam→True∧W.ram h0=W.ram h0))∧a0=a0∧(∀k0:Nat,k0<a0→True∧W.kinds k0=W.kinds k0))∧b0=b0∧(∀l0:Nat,let o0:=W.slots l0;let q0:=o0.kind;let u0:=o0.base;let v0:=o0.len;let w0:=o0.mark;let x0:=o0.rights;let y0:=o0.badge;let z0:=o0.from_;l0<b0→((((((True∧q0=q0)∧u0=u0)∧v0=v0)∧w0=w0)∧x0=x0)∧y0=y0)∧z0=z0))∧c0=c0∧(∀a1:Nat,let b1:=W.tasks a1;let c1:=b1.prio;let d1:=b1.node;let e1:=b1.space;let g1:=b1.helper;let h1:=b1.loc;let k1:=b1.word;let l1:=b1.badge;let o1:=b1.owes;let q1:=b1.core;let u1:=b1.dom;a1<c0→(((((((((((((((((((True∧b1.r0=b1.r0)∧b1.r1=b1.r1)∧b1.r2=b1.r2)∧b1.r3=b1.r3)∧b1.r4=b1.r4)∧b1.r5=b1.r5)∧b1.r6=b1.r6)∧b1.r7=b1.r7)∧b1.pc=b1.pc)∧b1.st=b1.st)∧c1=c1)∧d1=d1)∧e1=e1)∧g1=g1)∧h1=h1)∧k1=k1)∧l1=l1)∧o1=o1)∧q1=q1)∧u1=u1))∧d0=d0∧(∀v1:Nat,let w1:=W.linesN v1;v1<d0→True∧w1=w1∧(∀x1:Nat,x1<w1→True∧W.lines v1 x1=W.lines v1 x1)))∧W.nBits=W.nBits∧(∀y1:Nat,y1<W.nBits→True∧W.bits y1=W.bits y1))∧e0=e0∧(∀z1:Nat,z1<e0→True∧W.cores z1=W.cores z1))∧g0=g0∧(∀a2:Nat,let b2:=W.readyN a2;a2<g0→True∧b2=b2∧(∀c2:Nat,c2<b2→True∧W.ready a2 c2=W.ready a2 c2)))∧W.nTlbs=W.nTlbs∧(∀d2:Nat,let e2:=W.tlbsN d2;d2<W.nTlbs→True∧e2=e2∧(∀g2:Nat,let h2:=W.tlbs d2 g2;let k2:=h2.sp;let l2:=h2.pg;let o2:=h2.fr;let q2:=h2.wr;g2<e2→(((True∧k2=k2)∧l2=l2)∧o2=o2)∧q2=q2)))∧W.nDoms=W.nDoms∧(∀u2:Nat,u2<W.nDoms→True∧W.doms u2=W.doms u2))∧W.time=W.time)∧True)∧True∧
    s_soundR.match_1 (fun v2:X_soundR=>Prop) (X_soundR.mk W) (fun w2:Wd=>Sm w2))∧((wE W==0)=true→(0:Int)=0∧True)∧((wE W==0)=false→(8:Int)=0∧True)
set_option maxHeartbeats 1000000 in
theorem ok_sound0:FnOK Tryz.prog glE 16 c_sound0:=ok_of (.cons ok_soundR .nil) false Tryz.call16 Tryz.func16 (fun _=> []) (V:=V_sound0) (fun _=>by kernel_rfl) fun ⟨W⟩ hp=>by
  dsimp only [s_sound0] at hp
  dsimp only [V_sound0,tn,w64]
  simp only [std,stb,eq_self,implies_true,Bool.cond_self]
  exact ⟨hp.1,fun h=>by rw [snd0 hp.2] at h;exact absurd h (by decide)⟩
structure X_sound8 where
  (W:Wd)
def s_sound8:Sy.Spec:=⟨X_sound8,fun ⟨W⟩=> [wSV W],fun _=> [],fun ⟨W⟩=>Sm W∧wE W≠0,fun _=> .v (.int .i64 8),fun _=> [],
  fun args mem=>match args with| [a0]=>some ⟨wSVD a0⟩|_=>none⟩
def c_sound8:Con:=⟨[],s_sound8.g,none⟩
def V_sound8:X_sound8→Prop:=fun ⟨W⟩=>let a0:=W.nKinds;let b0:=W.nSlots;let c0:=W.nTasks;let d0:=W.nLines;let e0:=W.nCores;let g0:=W.nReady;True∧(((((((((((((True∧W.nRam=W.nRam∧(∀h0:Nat,h0<W.nRam→True∧W.ram h0=W.ram h0))∧a0=a0∧(∀k0:Nat,k0<a0→True∧W.kinds k0=W.kinds k0))∧b0=b0∧(∀l0:Nat,let o0:=W.slots l0;let q0:=o0.kind;let u0:=o0.base;let v0:=o0.len;let w0:=o0.mark;let x0:=o0.rights;let y0:=o0.badge;let z0:=o0.from_;l0<b0→((((((True∧q0=q0)∧u0=u0)∧v0=v0)∧w0=w0)∧x0=x0)∧y0=y0)∧z0=z0))∧c0=c0∧(∀a1:Nat,let b1:=W.tasks a1;let c1:=b1.prio;let d1:=b1.node;let e1:=b1.space;let g1:=b1.helper;let h1:=b1.loc;let k1:=b1.word;let l1:=b1.badge;let o1:=b1.owes;let q1:=b1.core;let u1:=b1.dom;a1<c0→(((((((((((((((((((True∧b1.r0=b1.r0)∧b1.r1=b1.r1)∧b1.r2=b1.r2)∧b1.r3=b1.r3)∧b1.r4=b1.r4)∧b1.r5=b1.r5)∧b1.r6=b1.r6)∧b1.r7=b1.r7)∧b1.pc=b1.pc)∧b1.st=b1.st)∧c1=c1)∧d1=d1)∧e1=e1)∧g1=g1)∧h1=h1)∧k1=k1)∧l1=l1)∧o1=o1)∧q1=q1)∧u1=u1))∧d0=d0∧(∀v1:Nat,let w1:=W.linesN v1;v1<d0→True∧w1=w1∧(∀x1:Nat,x1<w1→True∧W.lines v1 x1=W.lines v1 x1)))∧W.nBits=W.nBits∧(∀y1:Nat,y1<W.nBits→True∧W.bits y1=W.bits y1))∧e0=e0∧(∀z1:Nat,z1<e0→True∧W.cores z1=W.cores z1))∧g0=g0∧(∀a2:Nat,let b2:=W.readyN a2;a2<g0→True∧b2=b2∧(∀c2:Nat,c2<b2→True∧W.ready a2 c2=W.ready a2 c2)))∧W.nTlbs=W.nTlbs∧(∀d2:Nat,let e2:=W.tlbsN d2;d2<W.nTlbs→True∧e2=e2∧(∀g2:Nat,let h2:=W.tlbs d2 g2;let k2:=h2.sp;let l2:=h2.pg;let o2:=h2.fr;let q2:=h2.wr;g2<e2→(((True∧k2=k2)∧l2=l2)∧o2=o2)∧q2=q2)))∧W.nDoms=W.nDoms∧(∀u2:Nat,u2<W.nDoms→True∧W.doms u2=W.doms u2))∧W.time=W.time)∧True)∧True∧
    s_soundR.match_1 (fun v2:X_soundR=>Prop) (X_soundR.mk W) (fun w2:Wd=>Sm w2))∧((wE W==0)=true→(0:Int)=8∧True)∧((wE W==0)=false→(8:Int)=8∧True)
set_option maxHeartbeats 1000000 in
theorem ok_sound8:FnOK Tryz.prog glE 16 c_sound8:=ok_of (.cons ok_soundR .nil) false Tryz.call16 Tryz.func16 (fun _=> []) (V:=V_sound8) (fun _=>by kernel_rfl) fun ⟨W⟩ hp=>by
  dsimp only [s_sound8] at hp
  dsimp only [V_sound8,tn,w64]
  simp only [std,stb,eq_self,implies_true,Bool.cond_self]
  exact ⟨hp.1,fun h=>absurd (eq_of_beq h) hp.2⟩
structure X_done8 where
  (W:Wd)
def s_done8:Sy.Spec:=⟨X_done8,fun ⟨W⟩=> [wSV W,.junk],fun _=> [],fun ⟨W⟩=>Sm W∧wE W≠0,fun _=> .tp 2 (lsv [wRd oW,.er 35 116 8 (-1)]),fun _=> [],
  fun args mem=>match args with| [a0,a1]=>some ⟨wSVD a0⟩|_=>none⟩
def c_done8:Con:=⟨[],s_done8.g,none⟩
def V_done8:X_done8→Prop:=fun ⟨W⟩=>let a0:=W.nKinds;let b0:=W.nSlots;let c0:=W.nTasks;let d0:=W.nLines;let e0:=W.nCores;let g0:=W.nReady;let h0:=0=0;tn 2 ((((((((((((((True∧W.nRam=W.nRam∧(∀k0:Nat,k0<W.nRam→True∧W.ram k0=W.ram k0))∧a0=a0∧(∀l0:Nat,l0<a0→True∧W.kinds l0=W.kinds l0))∧b0=b0∧(∀o0:Nat,let q0:=W.slots o0;let u0:=q0.kind;let v0:=q0.base;let w0:=q0.len;let x0:=q0.mark;let y0:=q0.rights;let z0:=q0.badge;let a1:=q0.from_;o0<b0→((((((True∧u0=u0)∧v0=v0)∧w0=w0)∧x0=x0)∧y0=y0)∧z0=z0)∧a1=a1))∧c0=c0∧(∀b1:Nat,let c1:=W.tasks b1;let d1:=c1.prio;let e1:=c1.node;let g1:=c1.space;let h1:=c1.helper;let k1:=c1.loc;let l1:=c1.word;let o1:=c1.badge;let q1:=c1.owes;let u1:=c1.core;let v1:=c1.dom;b1<c0→(((((((((((((((((((True∧c1.r0=c1.r0)∧c1.r1=c1.r1)∧c1.r2=c1.r2)∧c1.r3=c1.r3)∧c1.r4=c1.r4)∧c1.r5=c1.r5)∧c1.r6=c1.r6)∧c1.r7=c1.r7)∧c1.pc=c1.pc)∧c1.st=c1.st)∧d1=d1)∧e1=e1)∧g1=g1)∧h1=h1)∧k1=k1)∧l1=l1)∧o1=o1)∧q1=q1)∧u1=u1)∧v1=v1))∧d0=d0∧(∀w1:Nat,let x1:=W.linesN w1;w1<d0→True∧x1=x1∧(∀y1:Nat,y1<x1→True∧W.lines w1 y1=W.lines w1 y1)))∧W.nBits=W.nBits∧(∀z1:Nat,z1<W.nBits→True∧W.bits z1=W.bits z1))∧e0=e0∧(∀a2:Nat,a2<e0→True∧W.cores a2=W.cores a2))∧g0=g0∧(∀b2:Nat,let c2:=W.readyN b2;b2<g0→True∧c2=c2∧(∀d2:Nat,d2<c2→True∧W.ready b2 d2=W.ready b2 d2)))∧W.nTlbs=W.nTlbs∧(∀e2:Nat,let g2:=W.tlbsN e2;e2<W.nTlbs→True∧g2=g2∧(∀h2:Nat,let k2:=W.tlbs e2 h2;let l2:=k2.sp;let o2:=k2.pg;let q2:=k2.fr;let u2:=k2.wr;h2<g2→(((True∧l2=l2)∧o2=o2)∧q2=q2)∧u2=u2)))∧W.nDoms=W.nDoms∧(∀v2:Nat,v2<W.nDoms→True∧W.doms v2=W.doms v2))∧W.time=W.time)∧True)∧True∧
    s_wCheck.match_1 (fun w2:X_wCheck=>Prop) (X_wCheck.mk W) (fun x2:Wd=>Sm x2))∧((wE W !=0)=true→tn 10 True∧((True∧((((((((((True∧h0)∧h0)∧h0)∧h0)∧h0)∧h0)∧h0)∧h0)∧h0)∧h0)∧(0:Int)=0)∧(8:Int)≠0∧(8:Int)=8∧((-1):Int)=(-1))∧True)∧((wE W !=0)=false→False))
set_option maxHeartbeats 1000000 in
theorem ok_done8:FnOK Tryz.prog glE 66 c_done8:=ok_of (.cons (ok_wCheck.up glN_glE) .nil) false Tryz.call66 Tryz.func66 (fun _=> []) (V:=V_done8) (fun _=>by kernel_rfl) fun ⟨W⟩ hp=>by
  dsimp only [s_done8] at hp
  dsimp only [V_done8,tn,w64]
  simp only [std,stb,eq_self,implies_true,Bool.cond_self]
  exact ⟨hp.1,fun _=>by decide,fun h=>absurd (by simpa using h) hp.2⟩
structure X_did8 where
  (W:Wd)
def s_did8:Sy.Spec:=⟨X_did8,fun ⟨W⟩=> [wRd oW,.er 35 116 8 (-1),wSV W,.v (.int .i64 8),.junk],fun _=> [],fun ⟨W⟩=>Lg W,fun _=> .v (.bool true),fun _=> [],
  fun args mem=>match args with| [a0,a1,a2,a3,a4]=>some ⟨wSVD a2⟩|_=>none⟩
def c_did8:Con:=⟨[],s_did8.g,none⟩
def V_did8:X_did8→Prop:=fun ⟨W⟩=>let a0:=W.nRam;let b0:=a0=a0;let c0:=W.nKinds;let d0:=c0=c0;let e0:=W.nSlots;let g0:=e0=e0;let h0:=W.nTasks;let k0:=h0=h0;let l0:=W.nLines;let o0:=l0=l0;let q0:=W.nBits;let u0:=q0=q0;let v0:=W.nCores;let w0:=v0=v0;let x0:=W.nReady;let y0:=x0=x0;let z0:=W.nTlbs;let a1:=z0=z0;let b1:=W.nDoms;let c1:=b1=b1;let d1:=W.time=W.time;let e1:=True∧True;let g1:=(8:Int)==0;let h1:=g1=true;let k1:=(8:Int)=8;let l1:=((-1):Int)=(-1);let o1:=(8:Int)==8&&((-1):Int)==(-1);let q1:=0=0;let u1:=(0:Int)=0;let v1:=True∧u1;let w1:=q1∧(∀x1:Nat,x1<0→v1);let y1:=True∧w1;let z1:=(v1∧u1)∧u1;let a2:=(((z1∧u1)∧u1)∧u1)∧u1;let b2:=q1∧(∀c2:Nat,c2<0→y1);let d2:=(((((((((y1∧w1)∧q1∧(∀e2:Nat,e2<0→a2))∧q1∧(∀g2:Nat,g2<0→((((((((((((a2∧u1)∧u1)∧u1)∧u1)∧l1)∧l1)∧l1)∧l1)∧u1)∧u1)∧l1)∧u1)∧u1))∧b2)∧w1)∧w1)∧b2)∧q1∧(∀h2:Nat,h2<0→True∧q1∧(∀k2:Nat,k2<0→z1∧false=false)))∧w1)∧u1;tn 2 ((((((((((((((True∧b0∧(∀l2:Nat,l2<a0→True∧W.ram l2=W.ram l2))∧d0∧(∀o2:Nat,o2<c0→True∧W.kinds o2=W.kinds o2))∧g0∧(∀q2:Nat,let u2:=W.slots q2;let v2:=u2.kind;let w2:=u2.base;let x2:=u2.len;let y2:=u2.mark;let z2:=u2.rights;let a3:=u2.badge;let b3:=u2.from_;q2<e0→((((((True∧v2=v2)∧w2=w2)∧x2=x2)∧y2=y2)∧z2=z2)∧a3=a3)∧b3=b3))∧k0∧(∀c3:Nat,let d3:=W.tasks c3;let e3:=d3.prio;let g3:=d3.node;let h3:=d3.space;let k3:=d3.helper;let l3:=d3.loc;let o3:=d3.word;let q3:=d3.badge;let u3:=d3.owes;let v3:=d3.core;let w3:=d3.dom;c3<h0→(((((((((((((((((((True∧d3.r0=d3.r0)∧d3.r1=d3.r1)∧d3.r2=d3.r2)∧d3.r3=d3.r3)∧d3.r4=d3.r4)∧d3.r5=d3.r5)∧d3.r6=d3.r6)∧d3.r7=d3.r7)∧
    d3.pc=d3.pc)∧d3.st=d3.st)∧e3=e3)∧g3=g3)∧h3=h3)∧k3=k3)∧l3=l3)∧o3=o3)∧q3=q3)∧u3=u3)∧v3=v3)∧w3=w3))∧o0∧(∀x3:Nat,let y3:=W.linesN x3;x3<l0→True∧y3=y3∧(∀z3:Nat,z3<y3→True∧W.lines x3 z3=W.lines x3 z3)))∧u0∧(∀a4:Nat,a4<q0→True∧W.bits a4=W.bits a4))∧w0∧(∀b4:Nat,b4<v0→True∧W.cores b4=W.cores b4))∧y0∧(∀c4:Nat,let d4:=W.readyN c4;c4<x0→True∧d4=d4∧(∀e4:Nat,e4<d4→True∧W.ready c4 e4=W.ready c4 e4)))∧a1∧(∀g4:Nat,let h4:=W.tlbsN g4;g4<z0→True∧h4=h4∧(∀k4:Nat,let l4:=W.tlbs g4 k4;let o4:=l4.sp;let q4:=l4.pg;let u4:=l4.fr;let v4:=l4.wr;k4<h4→(((True∧o4=o4)∧q4=q4)∧u4=u4)∧v4=v4)))∧c1∧(∀w4:Nat,w4<b1→True∧W.doms w4=W.doms w4))∧d1)∧True)∧True∧s_copyW.match_1 (fun x4:X_copyW=>Prop) (X_copyW.mk W) (fun y4:Wd=>Lg y4))∧True∧tn 9 e1∧(h1→False)∧(g1=false→(((8:Int) !=0)=true→((k1∧True)∧e1)∧(((k1∧l1)∧((True∧k1)∧l1)∧True)∧e1)∧(o1=true→(d2∧True)∧True∧q1∧q1∧q1∧q1∧q1∧q1∧q1∧q1∧q1∧q1∧u1)∧cond o1 true false=true∧True)∧(((8:Int) !=0)=false→(h1→(d2∧(((((((((((True∧b0∧(∀z4:Nat,z4<a0→True∧W.ram (0+z4)=W.ram (0+z4)))∧d0∧(∀a5:Nat,let b5:=W.kinds (0+a5);a5<c0→True∧b5=b5))∧g0∧(∀c5:Nat,let d5:=W.slots (0+c5);let e5:=d5.kind;let g5:=d5.base;let h5:=d5.len;let k5:=d5.mark;let l5:=d5.rights;let o5:=d5.badge;let q5:=d5.from_;c5<e0→((((((True∧e5=e5)∧g5=g5)∧h5=h5)∧k5=k5)∧l5=l5)∧o5=o5)∧q5=q5))∧k0∧(∀u5:Nat,let v5:=W.tasks (0+u5);let w5:=v5.r0;let x5:=v5.r1;let y5:=v5.r2;let z5:=v5.r3;let a6:=v5.r4;let b6:=v5.r5;let c6:=v5.r6;let d6:=v5.r7;let e6:=v5.pc;let g6:=v5.st;let h6:=v5.prio;let k6:=v5.node;let l6:=v5.space;
    let o6:=v5.helper;let q6:=v5.loc;let u6:=v5.word;let v6:=v5.badge;let w6:=v5.owes;let x6:=v5.core;let y6:=v5.dom;u5<h0→(((((((((((((((((((True∧w5=w5)∧x5=x5)∧y5=y5)∧z5=z5)∧a6=a6)∧b6=b6)∧c6=c6)∧d6=d6)∧e6=e6)∧g6=g6)∧h6=h6)∧k6=k6)∧l6=l6)∧o6=o6)∧q6=q6)∧u6=u6)∧v6=v6)∧w6=w6)∧x6=x6)∧y6=y6))∧o0∧(∀z6:Nat,let a7:=W.linesN (0+z6);z6<l0→True∧a7=a7∧(∀b7:Nat,let c7:=W.lines (0+z6) (0+b7);b7<a7→True∧c7=c7)))∧u0∧(∀d7:Nat,d7<q0→True∧W.bits (0+d7)=W.bits (0+d7)))∧w0∧(∀e7:Nat,let g7:=W.cores (0+e7);e7<v0→True∧g7=g7))∧y0∧(∀h7:Nat,let k7:=W.readyN (0+h7);h7<x0→True∧k7=k7∧(∀l7:Nat,let o7:=W.ready (0+h7) (0+l7);l7<k7→True∧o7=o7)))∧a1∧(∀q7:Nat,let u7:=0+q7;let v7:=W.tlbsN u7;q7<z0→True∧v7=v7∧(∀w7:Nat,let x7:=W.tlbs u7 (0+w7);let y7:=x7.sp;let z7:=x7.pg;let a8:=x7.fr;let b8:=x7.wr;w7<v7→(((True∧y7=y7)∧z7=z7)∧a8=a8)∧b8=b8)))∧c1∧(∀c8:Nat,c8<b1→True∧W.doms (0+c8)=W.doms (0+c8)))∧d1)∧True)∧e1)∧
    cond g1 (sameW (Wd.mk 0 (fun d8:Nat=>0) 0 (fun e8:Nat=>0) 0 (fun g8:Nat=>Slt.mk 0 0 0 0 0 0 0) 0 (fun h8:Nat=>Run.mk 0 0 0 0 0 0 0 0 0 0 0 (-1) (-1) (-1) (-1) 0 0 (-1) 0 0) 0 (fun k8:Nat=>0) (fun l8:Nat=>fun o8:Nat=>0) 0 (fun q8:Nat=>0) 0 (fun r8:Nat=>0) 0 (fun u8:Nat=>0) (fun v8:Nat=>fun w8:Nat=>0) 0 (fun x8:Nat=>0) (fun y8:Nat=>fun z8:Nat=>Ent4.mk 0 0 0 false) 0 (fun a9:Nat=>0) 0) (Wd.mk a0 (fun b9:Nat=>W.ram (0+b9)) c0 (fun c9:Nat=>W.kinds (0+c9)) e0 (fun d9:Nat=>W.slots (0+d9)) h0 (fun e9:Nat=>W.tasks (0+e9)) l0 (fun g9:Nat=>W.linesN (0+g9)) (fun h9:Nat=>fun k9:Nat=>W.lines (0+h9) (0+k9)) q0 (fun l9:Nat=>W.bits (0+l9)) v0 (fun o9:Nat=>W.cores (0+o9)) x0 (fun q9:Nat=>W.readyN (0+q9)) (fun r9:Nat=>fun u9:Nat=>W.ready (0+r9) (0+u9)) z0 (fun v9:Nat=>W.tlbsN (0+v9)) (fun w9:Nat=>fun x9:Nat=>W.tlbs (0+w9) (0+x9)) b1 (fun y9:Nat=>W.doms (0+y9)) W.time)) false=true∧True)))
set_option maxHeartbeats 1000000 in
theorem ok_did8:FnOK Tryz.prog glE 15 c_did8:=ok_of (.cons ok_is (.cons (ok_err.up glN_glE) (.cons (ok_copyW.up glN_glE) (.cons ok_nothing (.cons (ok_sameWorld.up glN_glE) .nil))))) false Tryz.call15 Tryz.func15 (fun _=> []) (V:=V_did8) (fun _=>by kernel_rfl) fun ⟨W⟩ hp=>by
  dsimp only [s_did8] at hp
  dsimp only [V_did8,tn,w64]
  simp only [std,stb,eq_self,implies_true,Bool.cond_self]
  exact ⟨hp,fun h=>absurd h (by decide),fun _=>⟨fun _=>by decide,fun h=>absurd h (by decide)⟩⟩
end Go.Proofs.YtdjilaofmdhikaaGreatDoor
