/- The law TreeDrops -/
import Derived.Test.YtdjilaofmdhikaaGreatDoorYP
import Derived.Test.YtdjilaofmdhikaaGreatDoorYI
import Derived.OpenShut
import Derived.ChangeArms
import Derived.MakeChecks
import Derived.Lay
import Derived.Test.YtdjilaofmdhikaaGreatDoorTie
import Derived.ChangeSame
import Derived.ChangeVars
import Derived.JoinedOf
import Derived.RowKit
import Derived.LaidLaws
import Derived.LaidHandle
import Derived.Stop.Joined
import Derived.SevenTiedAt
import Derived.OpenVars
import Derived.Test.YtdjilaofmdhikaaGreatDoorCards
set_option linter.unusedVariables false
set_option linter.unusedSimpArgs false
set_option linter.unusedVariables false
set_option linter.unusedSimpArgs false
set_option maxRecDepth 100000
namespace Go.Proofs.YtdjilaofmdhikaaGreatDoor
open Go.RowKit Go.Sy
theorem jj_of {W:Wd} (h:Sm W∧Snd W):JJ W∧cntF W≤400:=by
  obtain ⟨hs,hw⟩:=h
  have hi:=(inv_of hw hs).mono (show 50≤1000 by decide)
  have z:=hw.z
  have z1:=z.tlbs
  have z2:=z.tasks
  have z3:=z.slots
  have z4:=z.k1
  have ht: ∀c,c<W.nTlbs→ ∀k,k<W.tlbsN c→tlT W (W.tlbs c) k=true:=fun c hc k hk=>by
    have h:=hw.tl c (by omega)
    unfold tlB at h
    rw [Bool.and_eq_true] at h
    exact allB_iff.1 h.2 k hk
  refine ⟨⟨⟨hi,fun c hc k hk=>?_,fun i hiT f hf he=>?_⟩,fun c hc k hk=>?_⟩,Nat.le_trans (cntB_le _ _) (by omega)⟩
  · have h:=ht c hc k hk
    unfold tlT at h
    simp only [Bool.and_eq_true,Bool.not_eq_true'] at h
    exact farB_in h.1.1.1.1.2
  · have h:=hw.tk i (by omega)
    unfold tkB at h
    cases hk:W.kinds i !=6 with
    |true=>
     have h:runEq (W.tasks i) Run.blank=true:=by simpa [hk] using h
     rw [runEq_eq h] at he
     have he:(-1:Int)=f:=he
     omega
    |false=>
     simp only [hk,cond_false,Bool.and_eq_true] at h
     have h3:=h.1.1.1.2
     unfold refOK at h3
     simp only [Bool.and_eq_true] at h3
     have h7:=h3.1.2
     unfold okF at h7
     rw [he,kof_eq (by omega)] at h7
     simp only [Bool.or_eq_true,beq_iff_eq] at h7
     rcases h7 with h|h
     · omega
     · exact h
  · have h:=ht c hc k hk
    unfold tlT at h
    simp only [Bool.and_eq_true] at h
    unfold wrB
    rw [h.1.1.1.2,h.1.1.2,h.1.2]
    rfl
structure X_drpC where
  (s:Int) (W:Wd)
def s_drpC:Sy.Spec:=⟨X_drpC,fun ⟨s,_⟩=> [.ptr 0 0 none 0 0,.pt true 1 (fun _=> .v (.int .i64 s))],fun ⟨_,W⟩=>wMem W,fun ⟨_,W⟩=>Sm W∧Snd W,fun ⟨s,W⟩=> .er 35 116 (hasE W s) (-1),fun ⟨s,W⟩=>wMem (dropBy (bur 400) W s),
  fun args mem=>match args with| [a0,a1]=>some ⟨intD (ptF a1 0),wMJD mem 0⟩|_=>none⟩
def c_drpC:Con:=⟨[true],(s_drpC).g,none⟩
def V_drpC:X_drpC→Prop:=fun ⟨s,W⟩=>let a0:=SV.ptr 0 0 none 0 0;let b0:=dropBy (bur 400) W s;((a0=a0∧s=s∧True)∧wEq W W True∧JJ W∧cntF W≤400)∧(hasE W s=hasE W s∧((-1):Int)=(-1))∧wEq b0 b0 True
set_option maxHeartbeats 2000000 in
theorem ok_drpC:FnOK Tryz.prog glE 123 c_drpC:=ok_of (.cons (ok_dropT.up glN_glE) .nil) false Tryz.call123 Tryz.func123 (fun _=> []) (V:=V_drpC) (fun _=>by kernel_rfl) fun ⟨s,W⟩ hp=>by
  dsimp only [s_drpC] at hp
  dsimp only [V_drpC,tn,w64,wEq,rEq,sEq,eEq]
  simp only [std,stb,eq_self,implies_true,Bool.cond_self]
  try simp only [wd_eta]
  exact jj_of hp
structure X_drpD where
  (W:Wd) (s:Int)
def s_drpD:Sy.Spec:=⟨X_drpD,fun ⟨W,s⟩=> [wSV W,.fn 123 1 (lsv [.pt true 1 (fun _=> .v (.int .i64 s))])],fun _=> [],fun ⟨W,_⟩=>Sm W∧Snd W,fun ⟨W,s⟩=> .tp 2 (lsv [wRd (gdW (hasE W s) (dropBy (bur 400) W s)),.er 35 116 (hasE W s) (-1)]),fun _=> [],
  fun args mem=>match args with| [a0,a1]=>(match isFn 123 a1 with|true=>some ⟨wSVD a0,intD (ptF (fnF a1 0) 0)⟩|false=>none)|_=>none⟩
def c_drpD:Con:=⟨[],(s_drpD).g,none⟩
def V_drpD:X_drpD→Prop:=fun ⟨W,s⟩=>let a0:=W.nKinds;let b0:=W.nSlots;let c0:=W.nTasks;let d0:=W.nLines;let e0:=W.nCores;let g0:=W.nReady;let h0:=(((((((((((True∧W.nRam=W.nRam∧(∀k0:Nat,k0<W.nRam→True∧W.ram k0=W.ram k0))∧a0=a0∧(∀l0:Nat,l0<a0→True∧W.kinds l0=W.kinds l0))∧b0=b0∧(∀o0:Nat,o0<b0→sEq (W.slots o0) (W.slots o0)))∧c0=c0∧(∀q0:Nat,q0<c0→rEq (W.tasks q0) (W.tasks q0)))∧d0=d0∧(∀r0:Nat,let u0:=W.linesN r0;r0<d0→True∧u0=u0∧(∀v0:Nat,v0<u0→True∧W.lines r0 v0=W.lines r0 v0)))∧W.nBits=W.nBits∧(∀w0:Nat,w0<W.nBits→True∧W.bits w0=W.bits w0))∧e0=e0∧(∀x0:Nat,x0<e0→True∧W.cores x0=W.cores x0))∧g0=g0∧(∀y0:Nat,let z0:=W.readyN y0;y0<g0→True∧z0=z0∧(∀a1:Nat,a1<z0→True∧W.ready y0 a1=W.ready y0 a1)))∧W.nTlbs=W.nTlbs∧(∀b1:Nat,let c1:=W.tlbsN b1;b1<W.nTlbs→True∧c1=c1∧(∀d1:Nat,d1<c1→eEq (W.tlbs b1 d1) (W.tlbs b1 d1))))∧W.nDoms=W.nDoms∧(∀e1:Nat,e1<W.nDoms→True∧W.doms e1=W.doms e1))∧W.time=W.time)∧True;let g1:=tn 10 True;let h1:=hasE W s;let k1:=dropBy (bur 400) W s;let l1:=gdW h1 k1;let o1:=l1.nRam;let q1:=l1.nKinds;let r1:=l1.nSlots;let u1:=l1.nTasks;let v1:=l1.nLines;let w1:=l1.nBits;let x1:=l1.nCores;let y1:=l1.nReady;let z1:=l1.nTlbs;let a2:=l1.nDoms;let b2:=l1.time;let c2:=True∧((((((((((True∧o1=0)∧q1=0)∧r1=0)∧u1=0)∧v1=0)∧w1=0)∧x1=0)∧y1=0)∧z1=0)∧a2=0)∧0=b2;let d2:=((-1):Int)=(-1);let e2:=h1 !=0;tn 2 ((h0∧True∧s_wCheck.match_1 (fun g2:X_wCheck=>Prop) (X_wCheck.mk W) (fun h2:Wd=>Sm h2))∧((wE W !=0)=true→g1∧(c2∧(8:Int)≠0∧h1=8∧d2)∧True)∧((wE W !=0)=false→(h0∧True∧
    s_cloneW.match_1 (fun k2:X_cloneW=>Prop) (X_cloneW.mk W) (fun l2:Wd=>Lg l2))∧g1∧((SV.ptr 0 0 none 0 0=SV.ptr 0 0 none 0 0∧(True∧s=s)∧True)∧wEq W W True∧Sm W∧Snd W)∧(e2=true→g1∧(c2∧h1=h1∧d2)∧True)∧(e2=false→g1∧((True∧((((((((((True∧k1.nRam=o1∧(∀o2:Nat,o2<o1→True∧k1.ram (0+o2)=l1.ram o2))∧k1.nKinds=q1∧(∀q2:Nat,q2<q1→True∧k1.kinds (0+q2)=l1.kinds q2))∧k1.nSlots=r1∧(∀r2:Nat,r2<r1→sEq (k1.slots (0+r2)) (l1.slots r2)))∧k1.nTasks=u1∧(∀u2:Nat,u2<u1→rEq (k1.tasks (0+u2)) (l1.tasks u2)))∧k1.nLines=v1∧(∀v2:Nat,v2<v1→True∧k1.linesN (0+v2)=l1.linesN v2∧(∀w2:Nat,w2<l1.linesN v2→True∧k1.lines (0+v2) (0+w2)=l1.lines v2 w2)))∧k1.nBits=w1∧(∀x2:Nat,x2<w1→True∧k1.bits (0+x2)=l1.bits x2))∧k1.nCores=x1∧(∀y2:Nat,y2<x1→True∧k1.cores (0+y2)=l1.cores y2))∧k1.nReady=y1∧(∀z2:Nat,z2<y1→True∧k1.readyN (0+z2)=l1.readyN z2∧(∀a3:Nat,a3<l1.readyN z2→True∧k1.ready (0+z2) (0+a3)=l1.ready z2 a3)))∧k1.nTlbs=z1∧(∀b3:Nat,b3<z1→True∧k1.tlbsN (0+b3)=l1.tlbsN b3∧(∀c3:Nat,c3<l1.tlbsN b3→eEq (k1.tlbs (0+b3) (0+c3)) (l1.tlbs b3 c3))))∧k1.nDoms=a2∧(∀d3:Nat,d3<a2→True∧k1.doms (0+d3)=l1.doms d3))∧k1.time=b2)∧h1=0∧d2)∧True)))
set_option maxHeartbeats 2000000 in
theorem ok_drpD:FnOK Tryz.prog glE 66 c_drpD:=ok_of (.cons (ok_wCheck.up glN_glE) (.cons (ok_cloneW.up glN_glE) (.cons ok_drpC .nil))) false Tryz.call66 Tryz.func66 (fun _=> []) (V:=V_drpD) (fun _=>by kernel_rfl) fun ⟨W,s⟩ hp=>by
  dsimp only [s_drpD] at hp
  dsimp only [V_drpD,tn,w64,wEq,rEq,sEq,eEq]
  simp only [std,stb,eq_self,implies_true,Bool.cond_self]
  obtain ⟨hs,hw⟩:=hp
  have h0:=snd0 hw
  refine ⟨hs,fun h=>absurd (by simpa using h0) (by simpa using h),fun _=>⟨lg_sm hs,⟨hs,hw⟩,fun h2=>?_,fun h2=>?_⟩⟩
  · simp only [fun X=>gdW_no X (ne0 h2)]
    repeat' (first|exact trivial|rfl|refine And.intro ?_ ?_|intro _|exact absurd ‹_› (Nat.not_lt_zero _)|fail)
  · simp only [fun X=>gdW_yes X (eq0 h2)]
    repeat' (first|exact trivial|rfl|refine And.intro ?_ ?_|intro _|exact absurd ‹_› (Nat.not_lt_zero _)|fail)
    exact eq_of_beq (eq0 h2)
structure X_drpX where
  (W:Wd) (s:Int)
def s_drpX:Sy.Spec:=⟨X_drpX,fun ⟨W,s⟩=> [wSV W,.v (.int .i64 s)],fun _=> [],fun ⟨W,_⟩=>Sm W∧Snd W,fun ⟨W,s⟩=> .tp 2 (lsv [wRd (gdW (hasE W s) (dropBy (bur 400) W s)),.er 35 116 (hasE W s) (-1)]),fun _=> [],
  fun args mem=>match args with| [a0,a1]=>some ⟨wSVD a0,intD (a1)⟩|_=>none⟩
def c_drpX:Con:=⟨[],(s_drpX).g,none⟩
def V_drpX:X_drpX→Prop:=fun ⟨W,s⟩=>let a0:=W.nKinds;let b0:=W.nSlots;let c0:=W.nTasks;let d0:=W.nLines;let e0:=W.nCores;let g0:=W.nReady;let h0:=hasE W s;let k0:=gdW h0 (dropBy (bur 400) W s);let l0:=k0.nRam;let o0:=k0.nKinds;let q0:=k0.nSlots;let r0:=k0.nTasks;let u0:=k0.nLines;let v0:=k0.nBits;let w0:=k0.nCores;let x0:=k0.nReady;let y0:=k0.nTlbs;let z0:=k0.nDoms;let a1:=k0.time;tn 3 ((((((((((((((True∧W.nRam=W.nRam∧(∀b1:Nat,b1<W.nRam→True∧W.ram b1=W.ram b1))∧a0=a0∧(∀c1:Nat,c1<a0→True∧W.kinds c1=W.kinds c1))∧b0=b0∧(∀d1:Nat,d1<b0→sEq (W.slots d1) (W.slots d1)))∧c0=c0∧(∀e1:Nat,e1<c0→rEq (W.tasks e1) (W.tasks e1)))∧d0=d0∧(∀g1:Nat,let h1:=W.linesN g1;g1<d0→True∧h1=h1∧(∀k1:Nat,k1<h1→True∧W.lines g1 k1=W.lines g1 k1)))∧W.nBits=W.nBits∧(∀l1:Nat,l1<W.nBits→True∧W.bits l1=W.bits l1))∧e0=e0∧(∀o1:Nat,o1<e0→True∧W.cores o1=W.cores o1))∧g0=g0∧(∀q1:Nat,let r1:=W.readyN q1;q1<g0→True∧r1=r1∧(∀u1:Nat,u1<r1→True∧W.ready q1 u1=W.ready q1 u1)))∧W.nTlbs=W.nTlbs∧(∀v1:Nat,let w1:=W.tlbsN v1;v1<W.nTlbs→True∧w1=w1∧(∀x1:Nat,x1<w1→eEq (W.tlbs v1 x1) (W.tlbs v1 x1))))∧W.nDoms=W.nDoms∧(∀y1:Nat,y1<W.nDoms→True∧W.doms y1=W.doms y1))∧W.time=W.time)∧tn 2 (s=s)∧True)∧True∧Sm W∧Snd W)∧tn 10 True∧((True∧((((((((((True∧l0=l0∧(∀z1:Nat,z1<l0→True∧k0.ram z1=k0.ram z1))∧o0=o0∧(∀a2:Nat,a2<o0→True∧k0.kinds a2=k0.kinds a2))∧q0=q0∧(∀b2:Nat,b2<q0→sEq (k0.slots b2) (k0.slots b2)))∧r0=r0∧(∀c2:Nat,c2<r0→rEq (k0.tasks c2) (k0.tasks c2)))∧u0=u0∧(∀d2:Nat,let e2:=k0.linesN d2;d2<u0→True∧e2=e2∧(∀g2:Nat,g2<e2→True∧k0.lines d2 g2=k0.lines d2 g2)))∧v0=v0∧(∀h2:Nat,
    h2<v0→True∧k0.bits h2=k0.bits h2))∧w0=w0∧(∀k2:Nat,k2<w0→True∧k0.cores k2=k0.cores k2))∧x0=x0∧(∀l2:Nat,let o2:=k0.readyN l2;l2<x0→True∧o2=o2∧(∀q2:Nat,q2<o2→True∧k0.ready l2 q2=k0.ready l2 q2)))∧y0=y0∧(∀r2:Nat,let u2:=k0.tlbsN r2;r2<y0→True∧u2=u2∧(∀v2:Nat,v2<u2→eEq (k0.tlbs r2 v2) (k0.tlbs r2 v2))))∧z0=z0∧(∀w2:Nat,w2<z0→True∧k0.doms w2=k0.doms w2))∧a1=a1)∧h0=h0∧((-1):Int)=(-1))∧True)
set_option maxHeartbeats 2000000 in
theorem ok_drpX:FnOK Tryz.prog glE 63 c_drpX:=ok_of (.cons ok_drpD .nil) false Tryz.call63 Tryz.func63 (fun _=> []) (V:=V_drpX) (fun _=>by kernel_rfl) fun ⟨W,s⟩ hp=>by
  dsimp only [s_drpX] at hp
  dsimp only [V_drpX,tn,w64,wEq,rEq,sEq,eEq]
  simp only [std,stb,eq_self,implies_true,Bool.cond_self]
  try simp only [wd_eta]
  exact hp
structure X_drpY where
  (W:Wd) (s:Int)
def s_drpY:Sy.Spec:=⟨X_drpY,fun ⟨W,s⟩=> [wSV W,.v (.int .i64 s)],fun _=> [],fun ⟨W,_⟩=>Sm W∧wE W≠0,fun _=> .tp 2 (lsv [wRd oW,.er 35 116 8 (-1)]),fun _=> [],
  fun args mem=>match args with| [a0,a1]=>some ⟨wSVD a0,intD (a1)⟩|_=>none⟩
def c_drpY:Con:=⟨[],(s_drpY).g,none⟩
def V_drpY:X_drpY→Prop:=fun ⟨W,_⟩=>let a0:=W.nKinds;let b0:=W.nSlots;let c0:=W.nTasks;let d0:=W.nLines;let e0:=W.nCores;let g0:=W.nReady;let h0:=0=0∧(∀k0:Nat,k0<0→True∧(0:Int)=0);let l0:=True∧h0;let o0:=Slt.mk 0 0 0 0 0 0 0;let q0:=Run.mk 0 0 0 0 0 0 0 0 0 0 0 (-1) (-1) (-1) (-1) 0 0 (-1) 0 0;let r0:=0=0∧(∀u0:Nat,u0<0→l0);let v0:=Ent4.mk 0 0 0 false;tn 3 ((((((((((((((True∧W.nRam=W.nRam∧(∀w0:Nat,w0<W.nRam→True∧W.ram w0=W.ram w0))∧a0=a0∧(∀x0:Nat,x0<a0→True∧W.kinds x0=W.kinds x0))∧b0=b0∧(∀y0:Nat,y0<b0→sEq (W.slots y0) (W.slots y0)))∧c0=c0∧(∀z0:Nat,z0<c0→rEq (W.tasks z0) (W.tasks z0)))∧d0=d0∧(∀a1:Nat,let b1:=W.linesN a1;a1<d0→True∧b1=b1∧(∀c1:Nat,c1<b1→True∧W.lines a1 c1=W.lines a1 c1)))∧W.nBits=W.nBits∧(∀d1:Nat,d1<W.nBits→True∧W.bits d1=W.bits d1))∧e0=e0∧(∀e1:Nat,e1<e0→True∧W.cores e1=W.cores e1))∧g0=g0∧(∀g1:Nat,let h1:=W.readyN g1;g1<g0→True∧h1=h1∧(∀k1:Nat,k1<h1→True∧W.ready g1 k1=W.ready g1 k1)))∧W.nTlbs=W.nTlbs∧(∀l1:Nat,let o1:=W.tlbsN l1;l1<W.nTlbs→True∧o1=o1∧(∀q1:Nat,q1<o1→eEq (W.tlbs l1 q1) (W.tlbs l1 q1))))∧W.nDoms=W.nDoms∧(∀r1:Nat,r1<W.nDoms→True∧W.doms r1=W.doms r1))∧W.time=W.time)∧True∧True)∧True∧Sm W∧wE W≠0)∧tn 10 True∧((True∧(((((((((l0∧h0)∧0=0∧(∀u1:Nat,u1<0→sEq o0 o0))∧0=0∧(∀v1:Nat,v1<0→rEq q0 q0))∧r0)∧h0)∧h0)∧r0)∧0=0∧(∀w1:Nat,w1<0→True∧0=0∧(∀x1:Nat,x1<0→eEq v0 v0)))∧h0)∧(0:Int)=0)∧(8:Int)=8∧((-1):Int)=(-1))∧True)
set_option maxHeartbeats 2000000 in
theorem ok_drpY:FnOK Tryz.prog glE 63 c_drpY:=ok_of (.cons ok_done8 .nil) false Tryz.call63 Tryz.func63 (fun _=> []) (V:=V_drpY) (fun _=>by kernel_rfl) fun ⟨W,s⟩ hp=>by
  dsimp only [s_drpY] at hp
  dsimp only [V_drpY,tn,w64,wEq,rEq,sEq,eEq]
  simp only [std,stb,eq_self,implies_true,Bool.cond_self]
  try simp only [wd_eta]
  exact hp
structure X_drpR where
  (s:Int) (W:Wd)
def s_drpR:Sy.Spec:=⟨X_drpR,fun ⟨s,_⟩=> [.ptr 0 0 none 0 0,.pt true 1 (fun _=> .v (.int .i64 s))],fun ⟨_,W⟩=>wMem W,fun ⟨_,W⟩=>Sm W∧Snd W,fun ⟨s,W⟩=> .v (.int .i64 (hasE W s)),fun ⟨s,W⟩=>wMem (dropBy (bur 400) W s),
  fun args mem=>match args with| [a0,a1]=>some ⟨intD (ptF a1 0),wMJD mem 0⟩|_=>none⟩
def c_drpR:Con:=⟨[true],(s_drpR).g,none⟩
def V_drpR:X_drpR→Prop:=fun ⟨s,W⟩=>let a0:=SV.ptr 0 0 none 0 0;let b0:=dropBy (bur 400) W s;((a0=a0∧s=s∧True)∧wEq W W True∧JJ W∧cntF W≤400)∧hasE W s=hasE W s∧wEq b0 b0 True
set_option maxHeartbeats 2000000 in
theorem ok_drpR:FnOK Tryz.prog glE 64 c_drpR:=ok_of (.cons (ok_dropRT.up glN_glE) .nil) false Tryz.call64 Tryz.func64 (fun _=> []) (V:=V_drpR) (fun _=>by kernel_rfl) fun ⟨s,W⟩ hp=>by
  dsimp only [s_drpR] at hp
  dsimp only [V_drpR,tn,w64,wEq,rEq,sEq,eEq]
  simp only [std,stb,eq_self,implies_true,Bool.cond_self]
  try simp only [wd_eta]
  exact jj_of hp
structure X_drpL where
  (W:Wd) (s:Int)
def s_drpL:Sy.Spec:=⟨X_drpL,fun ⟨W,s⟩=> [wRd (gdW (hasE W s) (dropBy (bur 400) W s)),.er 35 116 (hasE W s) (-1),wSV W,.v (.int .i64 0),.fn 64 1 (lsv [.pt true 1 (fun _=> .v (.int .i64 s))])],fun _=> [],fun ⟨W,_⟩=>Sm W∧Snd W,fun _=> .v (.bool true),fun _=> [],
  fun args mem=>match args with| [a0,a1,a2,a3,a4]=>(match isFn 64 a4 with|true=>some ⟨wSVD a2,intD (ptF (fnF a4 0) 0)⟩|false=>none)|_=>none⟩
def c_drpL:Con:=⟨[],(s_drpL).g,none⟩
def V_drpL:X_drpL→Prop:=fun ⟨W,s⟩=>let a0:=W.nRam;let b0:=a0=a0;let c0:=W.nKinds;let d0:=c0=c0;let e0:=W.nSlots;let g0:=e0=e0;let h0:=W.nTasks;let k0:=h0=h0;let l0:=W.nLines;let o0:=l0=l0;let q0:=W.nBits;let r0:=q0=q0;let u0:=W.nCores;let v0:=u0=u0;let w0:=W.nReady;let x0:=w0=w0;let y0:=W.nTlbs;let z0:=y0=y0;let a1:=W.nDoms;let b1:=a1=a1;let c1:=W.time=W.time;let d1:=True∧True;let e1:=hasE W s;let g1:=e1 !=0;let h1:=e1=e1;let k1:=((-1):Int)=(-1);let l1:=h1∧k1;let o1:=e1==e1&&((-1):Int)==(-1);let q1:=dropBy (bur 400) W s;let r1:=gdW e1 q1;let u1:=r1.nRam;let v1:=r1.nKinds;let w1:=r1.nSlots;let x1:=r1.nTasks;let y1:=r1.nLines;let z1:=r1.nBits;let a2:=r1.nCores;let b2:=r1.nReady;let c2:=r1.nTlbs;let d2:=r1.nDoms;let e2:=r1.time;let g2:=((((((((((True∧u1=u1∧(∀h2:Nat,h2<u1→True∧r1.ram h2=r1.ram h2))∧v1=v1∧(∀k2:Nat,k2<v1→True∧r1.kinds k2=r1.kinds k2))∧w1=w1∧(∀l2:Nat,l2<w1→sEq (r1.slots l2) (r1.slots l2)))∧x1=x1∧(∀o2:Nat,o2<x1→rEq (r1.tasks o2) (r1.tasks o2)))∧y1=y1∧(∀q2:Nat,let r2:=r1.linesN q2;q2<y1→True∧r2=r2∧(∀u2:Nat,u2<r2→True∧r1.lines q2 u2=r1.lines q2 u2)))∧z1=z1∧(∀v2:Nat,v2<z1→True∧r1.bits v2=r1.bits v2))∧a2=a2∧(∀w2:Nat,w2<a2→True∧r1.cores w2=r1.cores w2))∧b2=b2∧(∀x2:Nat,let y2:=r1.readyN x2;x2<b2→True∧y2=y2∧(∀z2:Nat,z2<y2→True∧r1.ready x2 z2=r1.ready x2 z2)))∧c2=c2∧(∀a3:Nat,let b3:=r1.tlbsN a3;a3<c2→True∧b3=b3∧(∀c3:Nat,c3<b3→eEq (r1.tlbs a3 c3) (r1.tlbs a3 c3))))∧d2=d2∧(∀d3:Nat,d3<d2→True∧r1.doms d3=r1.doms d3))∧e2=e2;let e3:=(g2∧True)∧True∧u1=0∧v1=0∧w1=0∧x1=0∧y1=0∧z1=0∧a2=0∧b2=0∧c2=0∧d2=0∧e2=0;
    let g3:=e1==0;let h3:=g3=true;let k3:=q1.nRam;let l3:=q1.nKinds;let o3:=q1.nSlots;let q3:=q1.nTasks;let r3:=q1.nLines;let u3:=q1.nBits;let v3:=q1.nCores;let w3:=q1.nReady;let x3:=q1.nTlbs;let y3:=q1.nDoms;let z3:=q1.time;let a4:=g3&&((-1):Int)==(-1);tn 2 ((((((((((((((True∧b0∧(∀b4:Nat,b4<a0→True∧W.ram b4=W.ram b4))∧d0∧(∀c4:Nat,c4<c0→True∧W.kinds c4=W.kinds c4))∧g0∧(∀d4:Nat,d4<e0→sEq (W.slots d4) (W.slots d4)))∧k0∧(∀e4:Nat,e4<h0→rEq (W.tasks e4) (W.tasks e4)))∧o0∧(∀g4:Nat,let h4:=W.linesN g4;g4<l0→True∧h4=h4∧(∀k4:Nat,k4<h4→True∧W.lines g4 k4=W.lines g4 k4)))∧r0∧(∀l4:Nat,l4<q0→True∧W.bits l4=W.bits l4))∧v0∧(∀o4:Nat,o4<u0→True∧W.cores o4=W.cores o4))∧x0∧(∀q4:Nat,let r4:=W.readyN q4;q4<w0→True∧r4=r4∧(∀u4:Nat,u4<r4→True∧W.ready q4 u4=W.ready q4 u4)))∧z0∧(∀v4:Nat,let w4:=W.tlbsN v4;v4<y0→True∧w4=w4∧(∀x4:Nat,x4<w4→eEq (W.tlbs v4 x4) (W.tlbs v4 x4))))∧b1∧(∀y4:Nat,y4<a1→True∧W.doms y4=W.doms y4))∧c1)∧True)∧True∧s_copyW.match_1 (fun z4:X_copyW=>Prop) (X_copyW.mk W) (fun a5:Wd=>Lg a5))∧True∧tn 9 d1∧(((0:Int)==0)=true→((SV.ptr 0 0 none 0 0=SV.ptr 0 0 none 0 0∧(True∧s=s)∧True)∧wEq W W True∧Sm W∧Snd W)∧(g1=true→((h1∧True)∧d1)∧((l1∧((True∧h1)∧k1)∧True)∧d1)∧(o1=true→e3)∧cond o1 true false=true∧True)∧(g1=false→(h3→(g2∧(((((((((((True∧k3=k3∧(∀b5:Nat,b5<k3→True∧q1.ram (0+b5)=q1.ram (0+b5)))∧l3=l3∧(∀c5:Nat,let d5:=q1.kinds (0+c5);c5<l3→True∧d5=d5))∧o3=o3∧(∀e5:Nat,let g5:=q1.slots (0+e5);e5<o3→sEq g5 g5))∧q3=q3∧(∀h5:Nat,let k5:=q1.tasks (0+h5);h5<q3→rEq k5 k5))∧r3=r3∧(∀l5:Nat,
    let o5:=q1.linesN (0+l5);l5<r3→True∧o5=o5∧(∀q5:Nat,let r5:=q1.lines (0+l5) (0+q5);q5<o5→True∧r5=r5)))∧u3=u3∧(∀u5:Nat,u5<u3→True∧q1.bits (0+u5)=q1.bits (0+u5)))∧v3=v3∧(∀v5:Nat,let w5:=q1.cores (0+v5);v5<v3→True∧w5=w5))∧w3=w3∧(∀x5:Nat,let y5:=q1.readyN (0+x5);x5<w3→True∧y5=y5∧(∀z5:Nat,let a6:=q1.ready (0+x5) (0+z5);z5<y5→True∧a6=a6)))∧x3=x3∧(∀b6:Nat,let c6:=q1.tlbsN (0+b6);b6<x3→True∧c6=c6∧(∀d6:Nat,let e6:=q1.tlbs (0+b6) (0+d6);d6<c6→eEq e6 e6)))∧y3=y3∧(∀g6:Nat,g6<y3→True∧q1.doms (0+g6)=q1.doms (0+g6)))∧z3=z3)∧True)∧d1)∧cond g3 (sameW r1 (Wd.mk k3 (fun h6:Nat=>q1.ram (0+h6)) l3 (fun k6:Nat=>q1.kinds (0+k6)) o3 (fun l6:Nat=>q1.slots (0+l6)) q3 (fun o6:Nat=>q1.tasks (0+o6)) r3 (fun q6:Nat=>q1.linesN (0+q6)) (fun r6:Nat=>fun u6:Nat=>q1.lines (0+r6) (0+u6)) u3 (fun v6:Nat=>q1.bits (0+v6)) v3 (fun w6:Nat=>q1.cores (0+w6)) w3 (fun x6:Nat=>q1.readyN (0+x6)) (fun y6:Nat=>fun z6:Nat=>q1.ready (0+y6) (0+z6)) x3 (fun a7:Nat=>q1.tlbsN (0+a7)) (fun b7:Nat=>fun c7:Nat=>q1.tlbs (0+b7) (0+c7)) y3 (fun d7:Nat=>q1.doms (0+d7)) z3)) false=true∧True))∧(((0:Int)==0)=false→(((0:Int) !=0)=true→(((0:Int)=0∧True)∧d1)∧((l1∧((True∧(0:Int)=0)∧k1)∧True)∧d1)∧(a4=true→e3)∧cond a4 true false=true∧True)∧(((0:Int) !=0)=false→(h3→(g2∧(((((((((((True∧b0∧(∀e7:Nat,e7<a0→True∧W.ram (0+e7)=W.ram (0+e7)))∧d0∧(∀g7:Nat,let h7:=W.kinds (0+g7);g7<c0→True∧h7=h7))∧g0∧(∀k7:Nat,let l7:=W.slots (0+k7);k7<e0→sEq l7 l7))∧k0∧(∀o7:Nat,let q7:=W.tasks (0+o7);o7<h0→rEq q7 q7))∧o0∧(∀r7:Nat,let u7:=W.linesN (0+r7);r7<l0→True∧
    u7=u7∧(∀v7:Nat,let w7:=W.lines (0+r7) (0+v7);v7<u7→True∧w7=w7)))∧r0∧(∀x7:Nat,x7<q0→True∧W.bits (0+x7)=W.bits (0+x7)))∧v0∧(∀y7:Nat,let z7:=W.cores (0+y7);y7<u0→True∧z7=z7))∧x0∧(∀a8:Nat,let b8:=W.readyN (0+a8);a8<w0→True∧b8=b8∧(∀c8:Nat,let d8:=W.ready (0+a8) (0+c8);c8<b8→True∧d8=d8)))∧z0∧(∀e8:Nat,let g8:=W.tlbsN (0+e8);e8<y0→True∧g8=g8∧(∀h8:Nat,let k8:=W.tlbs (0+e8) (0+h8);h8<g8→eEq k8 k8)))∧b1∧(∀l8:Nat,l8<a1→True∧W.doms (0+l8)=W.doms (0+l8)))∧c1)∧True)∧d1)∧cond g3 (sameW r1 (Wd.mk a0 (fun o8:Nat=>W.ram (0+o8)) c0 (fun q8:Nat=>W.kinds (0+q8)) e0 (fun r8:Nat=>W.slots (0+r8)) h0 (fun u8:Nat=>W.tasks (0+u8)) l0 (fun v8:Nat=>W.linesN (0+v8)) (fun w8:Nat=>fun x8:Nat=>W.lines (0+w8) (0+x8)) q0 (fun y8:Nat=>W.bits (0+y8)) u0 (fun z8:Nat=>W.cores (0+z8)) w0 (fun a9:Nat=>W.readyN (0+a9)) (fun b9:Nat=>fun c9:Nat=>W.ready (0+b9) (0+c9)) y0 (fun d9:Nat=>W.tlbsN (0+d9)) (fun e9:Nat=>fun g9:Nat=>W.tlbs (0+e9) (0+g9)) a1 (fun h9:Nat=>W.doms (0+h9)) W.time)) false=true∧True)))
set_option maxHeartbeats 2000000 in
theorem ok_drpL:FnOK Tryz.prog glE 15 c_drpL:=ok_of (.cons ok_is (.cons (ok_err.up glN_glE) (.cons (ok_copyW.up glN_glE) (.cons ok_nothing (.cons (ok_sameWorld.up glN_glE) (.cons ok_drpR .nil)))))) false Tryz.call15 Tryz.func15 (fun _=> []) (V:=V_drpL) (fun _=>by kernel_rfl) fun ⟨W,s⟩ hp=>by
  dsimp only [s_drpL] at hp
  dsimp only [V_drpL,tn,w64,wEq,rEq,sEq,eEq]
  simp only [std,stb,eq_self,implies_true,Bool.cond_self]
  obtain ⟨hs,hw⟩:=hp
  refine ⟨lg_sm hs,fun _=>⟨⟨hs,hw⟩,fun h2=>?_,fun h2=>?_⟩,fun h=>absurd h (by decide)⟩
  · simp only [fun X=>gdW_no X (ne0 h2)]
    repeat' (first|exact trivial|rfl|refine And.intro ?_ ?_|intro _|exact absurd ‹_› (Nat.not_lt_zero _)|fail)
    simp
  · simp only [fun X=>gdW_yes X (eq0 h2)]
    simp only [eq0 h2,Bool.true_and]
    exact sameW_refl _
structure X_treeDrops0 where
  (W:Wd) (s:Int)
def s_treeDrops0:Sy.Spec:=⟨X_treeDrops0,fun ⟨W,s⟩=> [wSV W,.v (.int .i64 s)],fun _=> [],fun ⟨W,_⟩=>Snd W,fun _=> .v (.bool true),fun _=> [],
  fun args mem=>match args with| [a0,a1]=>some ⟨wSVD a0,intD (a1)⟩|_=>none⟩
def V_treeDrops0:X_treeDrops0→Prop:=fun ⟨W,s⟩=>let a0:=W.nKinds;let b0:=W.nSlots;let c0:=W.nTasks;let d0:=W.nLines;let e0:=W.nCores;let g0:=W.nReady;let h0:=((((((((((True∧W.nRam=W.nRam∧(∀k0:Nat,k0<W.nRam→True∧W.ram k0=W.ram k0))∧a0=a0∧(∀l0:Nat,l0<a0→True∧W.kinds l0=W.kinds l0))∧b0=b0∧(∀o0:Nat,o0<b0→sEq (W.slots o0) (W.slots o0)))∧c0=c0∧(∀q0:Nat,q0<c0→rEq (W.tasks q0) (W.tasks q0)))∧d0=d0∧(∀r0:Nat,let u0:=W.linesN r0;r0<d0→True∧u0=u0∧(∀v0:Nat,v0<u0→True∧W.lines r0 v0=W.lines r0 v0)))∧W.nBits=W.nBits∧(∀w0:Nat,w0<W.nBits→True∧W.bits w0=W.bits w0))∧e0=e0∧(∀x0:Nat,x0<e0→True∧W.cores x0=W.cores x0))∧g0=g0∧(∀y0:Nat,let z0:=W.readyN y0;y0<g0→True∧z0=z0∧(∀a1:Nat,a1<z0→True∧W.ready y0 a1=W.ready y0 a1)))∧W.nTlbs=W.nTlbs∧(∀b1:Nat,let c1:=W.tlbsN b1;b1<W.nTlbs→True∧c1=c1∧(∀d1:Nat,d1<c1→eEq (W.tlbs b1 d1) (W.tlbs b1 d1))))∧W.nDoms=W.nDoms∧(∀e1:Nat,e1<W.nDoms→True∧W.doms e1=W.doms e1))∧W.time=W.time;let g1:=h0∧True;let h1:=true=true∧True;let k1:=True∧Sm W∧Snd W;let l1:=hasE W s;let o1:=gdW l1 (dropBy (bur 400) W s);let q1:=o1.nRam;let r1:=o1.nKinds;let u1:=o1.nSlots;let v1:=o1.nTasks;let w1:=o1.nLines;let x1:=o1.nBits;let y1:=o1.nCores;let z1:=o1.nReady;let a2:=o1.nTlbs;let b2:=o1.nDoms;let c2:=o1.time;tn 2 ((g1∧True∧True)∧(hgB W=true→h1)∧(hgB W=false→((h0∧s=s∧True)∧k1)∧True∧tn 10 True∧tn 4 ((g1∧k1)∧True∧(((((((((((((True∧q1=q1∧(∀d2:Nat,d2<q1→True∧o1.ram d2=o1.ram d2))∧r1=r1∧(∀e2:Nat,e2<r1→True∧o1.kinds e2=o1.kinds e2))∧u1=u1∧(∀g2:Nat,g2<u1→sEq (o1.slots g2) (o1.slots g2)))∧v1=v1∧(∀h2:Nat,h2<v1→rEq (o1.tasks h2) (o1.tasks h2)))∧w1=w1∧
    (∀k2:Nat,let l2:=o1.linesN k2;k2<w1→True∧l2=l2∧(∀o2:Nat,o2<l2→True∧o1.lines k2 o2=o1.lines k2 o2)))∧x1=x1∧(∀q2:Nat,q2<x1→True∧o1.bits q2=o1.bits q2))∧y1=y1∧(∀r2:Nat,r2<y1→True∧o1.cores r2=o1.cores r2))∧z1=z1∧(∀u2:Nat,let v2:=o1.readyN u2;u2<z1→True∧v2=v2∧(∀w2:Nat,w2<v2→True∧o1.ready u2 w2=o1.ready u2 w2)))∧a2=a2∧(∀x2:Nat,let y2:=o1.tlbsN x2;x2<a2→True∧y2=y2∧(∀z2:Nat,z2<y2→eEq (o1.tlbs x2 z2) (o1.tlbs x2 z2))))∧b2=b2∧(∀a3:Nat,a3<b2→True∧o1.doms a3=o1.doms a3))∧c2=c2)∧(l1=l1∧((-1):Int)=(-1))∧h0∧(0:Int)=0∧tn 2 (s=s)∧True)∧k1)∧h1)))
set_option maxHeartbeats 2000000 in
theorem fc_treeDrops0: ∀x,s_treeDrops0.pre x→FnC Tryz.prog glE 12 (s_treeDrops0.args x) (s_treeDrops0.mem x) (s_treeDrops0.res x) (s_treeDrops0.mem' x):=fun x hp=>fn_of (.cons ok_drpL (.cons (ok_hugeWorld.up glN_glE) (.cons ok_sound0 (.cons ok_drpX .nil)))) false Tryz.func12 ((fun _=> []) x) (V:=V_treeDrops0 x) (by kernel_rfl)<|(fun ⟨W,s⟩ hp=>by
  dsimp only [s_treeDrops0] at hp
  dsimp only [V_treeDrops0,tn,w64,wEq,rEq,sEq,eEq]
  simp only [std,stb,eq_self,implies_true,Bool.cond_self]
  try simp only [wd_eta]
  intro h0
  have h0:=sm_of h0
  repeat' (first|exact h0|exact hp|exact lg_sm h0|exact trivial|rfl|refine And.intro ?_ ?_|fail)
  : ∀x,s_treeDrops0.pre x→V_treeDrops0 x) x hp
structure X_treeDrops8 where
  (W:Wd) (s:Int)
def s_treeDrops8:Sy.Spec:=⟨X_treeDrops8,fun ⟨W,s⟩=> [wSV W,.v (.int .i64 s)],fun _=> [],fun ⟨W,_⟩=>wE W≠0,fun _=> .v (.bool true),fun _=> [],
  fun args mem=>match args with| [a0,a1]=>some ⟨wSVD a0,intD (a1)⟩|_=>none⟩
def V_treeDrops8:X_treeDrops8→Prop:=fun ⟨W,s⟩=>let a0:=W.nKinds;let b0:=W.nSlots;let c0:=W.nTasks;let d0:=W.nLines;let e0:=W.nCores;let g0:=W.nReady;let h0:=((((((((((True∧W.nRam=W.nRam∧(∀k0:Nat,k0<W.nRam→True∧W.ram k0=W.ram k0))∧a0=a0∧(∀l0:Nat,l0<a0→True∧W.kinds l0=W.kinds l0))∧b0=b0∧(∀o0:Nat,o0<b0→sEq (W.slots o0) (W.slots o0)))∧c0=c0∧(∀q0:Nat,q0<c0→rEq (W.tasks q0) (W.tasks q0)))∧d0=d0∧(∀r0:Nat,let u0:=W.linesN r0;r0<d0→True∧u0=u0∧(∀v0:Nat,v0<u0→True∧W.lines r0 v0=W.lines r0 v0)))∧W.nBits=W.nBits∧(∀w0:Nat,w0<W.nBits→True∧W.bits w0=W.bits w0))∧e0=e0∧(∀x0:Nat,x0<e0→True∧W.cores x0=W.cores x0))∧g0=g0∧(∀y0:Nat,let z0:=W.readyN y0;y0<g0→True∧z0=z0∧(∀a1:Nat,a1<z0→True∧W.ready y0 a1=W.ready y0 a1)))∧W.nTlbs=W.nTlbs∧(∀b1:Nat,let c1:=W.tlbsN b1;b1<W.nTlbs→True∧c1=c1∧(∀d1:Nat,d1<c1→eEq (W.tlbs b1 d1) (W.tlbs b1 d1))))∧W.nDoms=W.nDoms∧(∀e1:Nat,e1<W.nDoms→True∧W.doms e1=W.doms e1))∧W.time=W.time;let g1:=h0∧True;let h1:=True∧True;let k1:=true=true∧True;let l1:=True∧Sm W∧wE W≠0;let o1:=0=0∧(∀q1:Nat,q1<0→True∧(0:Int)=0);let r1:=True∧o1;let u1:=Slt.mk 0 0 0 0 0 0 0;let v1:=Run.mk 0 0 0 0 0 0 0 0 0 0 0 (-1) (-1) (-1) (-1) 0 0 (-1) 0 0;let w1:=0=0∧(∀x1:Nat,x1<0→r1);let y1:=Ent4.mk 0 0 0 false;tn 2 ((g1∧h1)∧(hgB W=true→k1)∧(hgB W=false→((h0∧s=s∧True)∧l1)∧True∧tn 9 h1∧tn 4 ((g1∧l1)∧True∧((((((((((((r1∧o1)∧0=0∧(∀z1:Nat,z1<0→sEq u1 u1))∧0=0∧(∀a2:Nat,a2<0→rEq v1 v1))∧w1)∧o1)∧o1)∧w1)∧0=0∧(∀b2:Nat,b2<0→True∧0=0∧(∀c2:Nat,c2<0→eEq y1 y1)))∧o1)∧(0:Int)=0)∧((8:Int)=8∧((-1):Int)=(-1))∧h0∧(8:Int)=8∧h1)∧True∧
    s_did8.match_1 (fun d2:X_did8=>Prop) (X_did8.mk W) (fun e2:Wd=>Lg e2))∧k1)))
set_option maxHeartbeats 2000000 in
theorem fc_treeDrops8: ∀x,s_treeDrops8.pre x→FnC Tryz.prog glE 12 (s_treeDrops8.args x) (s_treeDrops8.mem x) (s_treeDrops8.res x) (s_treeDrops8.mem' x):=fun x hp=>fn_of (.cons (ok_hugeWorld.up glN_glE) (.cons ok_sound8 (.cons ok_did8 (.cons ok_drpY .nil)))) false Tryz.func12 ((fun _=> []) x) (V:=V_treeDrops8 x) (by kernel_rfl)<|(fun ⟨W,s⟩ hp=>by
  dsimp only [s_treeDrops8] at hp
  dsimp only [V_treeDrops8,tn,w64,wEq,rEq,sEq,eEq]
  simp only [std,stb,eq_self,implies_true,Bool.cond_self]
  try simp only [wd_eta]
  intro h0
  have h0:=sm_of h0
  repeat' (first|exact h0|exact hp|exact lg_sm h0|exact trivial|rfl|refine And.intro ?_ ?_|fail)
  : ∀x,s_treeDrops8.pre x→V_treeDrops8 x) x hp
structure X_treeDrops where
  (W:Wd) (s:Int)
def s_treeDrops:Sy.Spec:=⟨X_treeDrops,fun ⟨W,s⟩=> [wSV W,.v (.int .i64 s)],fun _=> [],fun _=>True,fun _=> .v (.bool true),fun _=> [],
  fun args mem=>match args with| [a0,a1]=>some ⟨wSVD a0,intD (a1)⟩|_=>none⟩
def c_treeDrops:Con:=⟨[],(s_treeDrops).g,none⟩
theorem ok_treeDrops:FnOK Tryz.prog glE 12 c_treeDrops:=fnOK_of Tryz.call12 fun ⟨W,s⟩ _=>if h:wE W=0 then fc_treeDrops0 ⟨W,s⟩ (Snd.iff.1 h) else fc_treeDrops8 ⟨W,s⟩ h
end Go.Proofs.YtdjilaofmdhikaaGreatDoor
namespace Go.Proofs.YtdjilaofmdhikaaGreatDoor
open Go.ChangeShapes Go.WideShapes Go.RowKit Go.Sy
theorem K.own:ownKnob Tryz.prog.godebug=none:=by kernel_rfl
theorem K.et : Tryz.prog.globalNamed "errors.errorType" = some 0 := by kernel_rfl
theorem K.rt : (Tryz.prog.cutTypes.find? (·.1 == "internal/reflectlite.rtype")).map (·.2) = some 182 := by kernel_rfl
theorem K.oneRow:((List.range Tryz.prog.types.size).filter fun t=>Tryz.prog.rowNamed t [101,114,114,111,114])= [31]:=by kernel_rfl
theorem K.handle {laid : List (String × DataW Unit)} {W : World} (h : laidMetH Tryz.prog laid W) (hm : ("errors.errorType", Rows.laid_errors_errorType) ∈ laid) : W.cell? ⟨0, 0, none⟩ = some A.eTy := by
  have hf : ("errors.errorType", Rows.laid_errors_errorType) ∈ laid.filter fun x => x.2.handleName?.isSome := List.mem_filter.2 ⟨hm, by rfl⟩
  unfold laidMetH at h
  split at h
  · next e=>rw [e] at hf;cases hf
  next x r e=>
  rw [e] at hf
  obtain ⟨name,u,ty,e1,e2,e3,e4,e5⟩:=h.2 _ hf
  have en:name= [101,114,114,111,114]:=(Option.some.inj e1).symm
  subst en
  obtain rfl:=Option.some.inj (K.rt.symm.trans e2)
  have hm:ty∈(List.range Tryz.prog.types.size).filter fun t=>Tryz.prog.rowNamed t [101,114,114,111,114]:=List.mem_filter.2 ⟨List.mem_range.2 e3,e4⟩
  rw [K.oneRow] at hm
  obtain rfl:=List.mem_singleton.1 hm
  have hh:typeHandle Tryz.prog 31= .pointer (some ⟨1,31,none⟩):=by kernel_rfl
  rw [hh] at e5
  unfold A.eTy
  simpa using World.var?_cell K.et e5 0
noncomputable def K.world (os:Os):World:=
  let w0:=World.holding Tryz.prog os ⟨#[],#[],[]⟩
  {w0 with heap:=w0.heap.modify 0 fun
   | .cells _ t frozen=> .cells #[A.eTy] t frozen
   |o=>o}
theorem K.met (os : Os) (args : Array Value) : laidMetH Tryz.prog [("errors.errorType", Rows.laid_errors_errorType)] ((K.world os).forCall (fun _ _ => 0) ⟨#[], args, []⟩).memory :=
  laidMetH_of_parts (laidMet_nil _ _) (by kernel_rfl)
theorem K.laidOut:laidOutB Tryz.prog=true:=by kernel_rfl
theorem K.trodAll {H:Type} {enc:TypeId×Value→H} {P:Program} (hl:laidOutB P=true) {W W':World} (hb:Below W.heap.size W W'): ∀{ts:List TypeId} {vs:List Value} {ds:List (DataW H)} {ps:List MemPlace},
    (ts.all fun t=>P.readableRec t&&decide (t<P.types.size))=true→DataW.TrodAll enc P W 0 (fun _=>true) true ts vs ds ps→(∀x∈ps,x.block<W.heap.size)→DataW.TrodAll enc P W' 0 (fun b=>decide (b<W.heap.size)) true ts vs ds ps
  | [],[],[],_,_,h,_=>h
  |t::ts,v::vs,d::ds,ps,hr,⟨p,q,h1,h2,e⟩,hlt=>by
   subst e
   simp only [List.all_cons,Bool.and_eq_true,decide_eq_true_eq] at hr
   exact ⟨p,q,Below.trod hl hr.1.1 hr.1.2 h1 hb (fun x hx=>hlt x (List.mem_append_left _ hx)),K.trodAll hl hb hr.2 h2 (fun x hx=>hlt x (List.mem_append_right _ hx)),rfl⟩
theorem K.underlying4:Tryz.prog.underlying 4=some .bool:=by kernel_rfl
theorem K.len {H:Type} {enc:TypeId×Value→H} {P:Program} {w:World} {base:Nat} {spare:Nat→Bool} {held:Bool}: ∀{ts:List TypeId} {vs:List Value} {ds:List (DataW H)} {ps:List MemPlace},DataW.TrodAll enc P w base spare held ts vs ds ps→ds.length=ts.length
  | [],[],[],_,_=>rfl
  |_::_,_::_,_::_,_,⟨_,_,_,h,_⟩=>by simp [K.len h]
theorem K.noStand {ps:Array TypeId} (h:(ps.toList.all fun t=>!Tryz.prog.wantsStandIn t)=true) {j:Nat} {t:TypeId} (ht:ps[j]? =some t):Tryz.prog.wantsStandIn t=false:=by
  have:=List.all_eq_true.1 h t (by rw [Array.mem_toList_iff];exact Array.mem_of_getElem? ht)
  simpa using this
set_option maxRecDepth 100000 in
theorem K.lift {f:FuncId} {fn:Func} {s:ChangeSpec} {X:World→Prop} (hX: ∀(w w':World),w.heap=w'.heap→X w→X w') (os:Os) (started:os.Started) (H:Type) (enc:TypeId×Value→H)
    (noInit:Tryz.checked.prog.inits.idxOf? f=none) (hfn:Tryz.checked.prog.funcs[f]? =some fn)
    (hs: ∀ds:List (DataW H),ds.length=fn.params.toList.length→s.fn H (ds++ [])={results:= [.lit (.bool true)],args:=ds}) (hv:s.vars= []) (hr:fn.resultTypes= #[4])
    (hrow:(fn.params.toList.all fun t=>Tryz.prog.readableRec t&&decide (t<Tryz.prog.types.size))=true)
    (witness: ∃(w:World) (tape:Tape) (i:Input),w.os=os∧(w.forCall tape i).Shaped Tryz.prog∧i.vars= []∧Input.okWide Tryz.prog (w.forCall tape i) .any w.heap.size f i∧
      ((s.pre enc Tryz.prog fn [] false (w.forCall tape i).memory i.args∧X (w.forCall tape i).memory)∧sizedMet enc Tryz.prog fn (OpenSpec.ofChange s) false (w.forCall tape i).memory i.args)∧({}:Assume).holds Tryz.prog (lone (Frame.enter Tryz.prog f i.args .normal) [] (w.forCall tape i)))
    (contract: ∀(W:World) (base:Nat) (args:Array Value) (ds:List (DataW H)) (p:List MemPlace),
      (∀(j:Nat) t v,fn.params[j]? =some t→args[j]? =some v→Value.okWide Tryz.prog W .any base t v)→
      DataW.TrodAll enc Tryz.prog W 0 (fun _=>true) true fn.params.toList args.toList ds p→X W→(∀x∈p,x.block<W.heap.size)→
      Calls Tryz.prog f args W fun e W'=>e= .returned (.bool true)∧Below W.heap.size W W'):
    ReturnsInHanded {} Tryz.checked os f .any (fun w args=>(s.pre enc Tryz.prog fn [] false w args∧X w)∧sizedMet enc Tryz.prog fn (OpenSpec.ofChange s) false w args) (s.post enc Tryz.prog fn false true false false):=by
  refine returnsInHanded_of_change_and (C:=Tryz.checked) (X:=fun w _=>X w) (fun w w' _ hh h=>hX w w' hh h) K.own started noInit hfn witness ?_
  intro W base args ds gs before hval hW _ _ hL _
  have hW':=hW
  obtain ⟨p,q,hA,hV,rfl,hfz,_⟩:=hW
  have hlt: ∀x∈p,x.block<W.heap.size:=fun x hx=>by simpa using hW'.lt x (List.mem_append_left _ hx)
  obtain ⟨rfl,rfl⟩:gs= []∧q= []:=by
    rw [hv] at hV
    cases gs with
    |nil=>exact ⟨rfl,hV⟩
    |cons g r=>exact absurd hV (by intro h;cases h)
  refine (contract W base args ds p hval hA hL hlt).mono fun e W' ⟨he,hb⟩=>?_
  have e1:=hs ds (K.len hA)
  refine ⟨_,he,_,_,_,[],p,[],hW',?_,?_,?_,hb.frame _,fun h=>by cases h⟩
  · rw [e1,hr];exact trodAll_mk1 (shut_bool K.underlying4 true)
  · rw [e1];exact K.trodAll K.laidOut hb hrow hA hlt
  · rw [e1,hv];rfl
theorem K.eT {laid : List (String × DataW Unit)} {W : World} (h : laidMetH Tryz.prog laid W) (hm : ("errors.errorType", Rows.laid_errors_errorType) ∈ laid) : Den W o0.bare (.pt false 1 fun _ => .v A.eTy) (.pointer (some ⟨0, 0, none⟩)) :=
  ⟨_,rfl,fun j hj=>⟨_,by obtain rfl:j=0:=by omega
                         exact K.handle h hm,⟨id,fun _=>id⟩,rfl⟩⟩
theorem K.gE {laid : List (String × DataW Unit)} {W : World} (h : laidMetH Tryz.prog laid W) (hm : ("errors.errorType", Rows.laid_errors_errorType) ∈ laid) (g : Nat) : Den W o0.bare (glE g) (.pointer (some ⟨g, 0, none⟩)) := by
  unfold glE
  split
  · exact K.eT h hm
  · trivial
end Go.Proofs.YtdjilaofmdhikaaGreatDoor
