/- Keys that are dropped: what stays so. -/
import Derived.Test.YtdjilaofmdhikaaGreatDoorYN
set_option linter.unusedVariables false
set_option linter.unusedSimpArgs false
set_option linter.unusedVariables false
set_option linter.unusedSimpArgs false
set_option maxRecDepth 100000
namespace Go.Proofs.YtdjilaofmdhikaaGreatDoor
open Go.RowKit Go.Sy
theorem kpT_mem {α:Type} {z:α} {p:Nat→Bool} {t:Nat→α}: ∀{n a:Nat},a<kpN p n→ ∃j,j<n∧p j=false∧kpT z p t n a=t j
  |0,a,h=>absurd h (by simp [kpN])
  |n+1,a,h=>by
   cases hp:p n with
   |true=>
    rw [kpN,hp] at h
    obtain ⟨j,h1,h2,h3⟩:=kpT_mem (z:=z) (t:=t) (show a<kpN p n from h)
    refine ⟨j,by omega,h2,?_⟩
    rw [kpT,hp]
    exact h3
   |false=>
    rw [kpN,hp] at h
    have h:a<kpN p n+1:=h
    rcases Nat.lt_or_ge a (kpN p n) with h4|h4
    · obtain ⟨j,h1,h2,h3⟩:=kpT_mem (z:=z) (t:=t) h4
      refine ⟨j,by omega,h2,?_⟩
      rw [kpT,beq_ne (by omega:a≠kpN p n),Bool.and_false]
      exact h3
    · obtain rfl:a=kpN p n:=by omega
      refine ⟨n,by omega,hp,?_⟩
      rw [kpT,hp,Nat.beq_refl];rfl
theorem fg_mem {p:Ent4→Bool} {W:Wd} {c a:Nat} (h:a<fgN p W c): ∃j,j<W.tlbsN c∧p (W.tlbs c j)=false∧fgT p W c a=W.tlbs c j:=kpT_mem (z:=zEn) (t:=W.tlbs c) h
structure KS (W W':Wd):Prop where
  ram:W'.nRam=W.nRam
  kinds:W'.nKinds=W.nKinds
  slots:W'.nSlots=W.nSlots
  tasks:W'.nTasks=W.nTasks
  lines:W'.nLines=W.nLines
  bits:W'.nBits=W.nBits
  cores:W'.nCores=W.nCores
  ready:W'.nReady=W.nReady
  tlbs:W'.nTlbs=W.nTlbs
  nDoms:W'.nDoms=W.nDoms
  doms:W'.doms=W.doms
  time:W'.time=W.time
  cnt:cntF W'≤cntF W
theorem KS.refl (W:Wd):KS W W:=⟨rfl,rfl,rfl,rfl,rfl,rfl,rfl,rfl,rfl,rfl,rfl,rfl,Nat.le_refl _⟩
theorem KS.trans {W W' W'':Wd} (h:KS W W') (k:KS W' W''):KS W W'':=
  ⟨k.ram.trans h.ram,k.kinds.trans h.kinds,k.slots.trans h.slots,k.tasks.trans h.tasks,k.lines.trans h.lines,k.bits.trans h.bits,k.cores.trans h.cores,k.ready.trans h.ready,k.tlbs.trans h.tlbs,k.nDoms.trans h.nDoms,k.doms.trans h.doms,k.time.trans h.time,Nat.le_trans k.cnt h.cnt⟩
def DOK (D:Wd→Int→Wd):Prop:= ∀W s,JJ W→JJ (D W s)∧KS W (D W s)
def GOK (G:Wd→Int→Wd):Prop:= ∀(W:Wd) (f:Int),JJ W→0≤f→f<(W.nKinds:Int)→JJ (G W f)∧KS W (G W f)
theorem kd0 {W:Wd} (h:JJ W) (f:Int): ∀i,i<W.nKinds→0≤updF W.kinds f.toNat 0 i∧updF W.kinds f.toNat 0 i≤8:=by
  intro i hi
  rcases Decidable.em (i=f.toNat) with e|e
  · subst e;rw [updF_at];exact ⟨Int.le_refl 0,by decide⟩
  · rw [updF_ne e];exact h.w.i.kd i hi
theorem hp_z {W:Wd} {g:Nat→Run} {f:Int} (h:JJ W) (h0:0≤f) (hg: ∀i,i<W.nTasks→(g i).helper=(W.tasks i).helper∨(g i).helper= -1) (hf: ∀i,i<W.nTasks→W.kinds f.toNat=7→(g i).helper≠f): ∀i,i<W.nTasks→ ∀f',f'<W.nKinds→(g i).helper=(f':Nat)→updF W.kinds f.toNat 0 f'=7:=by
  intro i hi f' hf' he
  rcases hg i hi with e|e
  · have h7:=h.w.hp i hi f' hf' (e▸he)
    rcases Decidable.em (f'=f.toNat) with q|q
    · subst q
      exact absurd (show (g i).helper=f by omega) (hf i hi h7)
    · rw [updF_ne q];exact h7
  · omega
theorem pg_of {W:Wd} (h:JJ W) (p:Ent4→Bool): ∀c,c<W.nTlbs→ ∀k,k<fgN p W c→0≤(fgT p W c k).pg∧(fgT p W c k).pg≤255:=by
  intro c hc k hk
  obtain ⟨j,h1,_,h3⟩:=fg_mem hk
  rw [h3];exact h.w.pg c hc j h1
theorem TkR.z {W:Wd} {x:Run} {g:Nat→Int} (h:TkR W x):TkR {W with kinds:=g} x:=h.of rfl rfl
theorem pg_ok {W:Wd} {f:Int} (h:JJ W) (h0:0≤f) (hk:W.kinds f.toNat≠7):JJ (pgW W f)∧KS W (pgW W f):=by
  refine ⟨⟨⟨inv_tl (inv_ram (g:=unR (kz W f) f) (inv_kd h.w.i (kd0 h f)) fun i hi=>unR_is (W:=kz W f) (f:=f) (h.w.i.ram i hi)) fun c hc=>Nat.le_trans (kpN_le _ _) (h.w.i.tl c hc),?_,?_⟩,?_⟩,⟨rfl,rfl,rfl,rfl,rfl,rfl,rfl,rfl,rfl,rfl,rfl,rfl,Nat.le_refl _⟩⟩
  · exact pg_of h _
  · exact hp_z h h0 (fun _ _=> .inl rfl) (fun _ _ e=>absurd e hk)
  · intro c hc k hk
    obtain ⟨j,h1,h2,h3⟩:=kpT_mem (z:=zEn) (t:=W.tlbs c) (show k<kpN (fun i=>wrB W.nRam (unR (kz W f) f) (W.tlbs c i)) (W.tlbsN c) from hk)
    show wrB W.nRam (unR (kz W f) f) (kpT zEn (fun i=>wrB W.nRam (unR (kz W f) f) (W.tlbs c i)) (W.tlbs c) (W.tlbsN c) k)=false
    rw [h3];exact h2
theorem kz_ok {W:Wd} {f:Int} (h:JJ W) (h0:0≤f) (hk:W.kinds f.toNat≠7):JJ (kz W f)∧KS W (kz W f):=
  ⟨⟨⟨inv_kd h.w.i (kd0 h f),h.w.pg,hp_z h h0 (fun _ _=> .inl rfl) (fun _ _ e=>absurd e hk)⟩,h.t⟩,⟨rfl,rfl,rfl,rfl,rfl,rfl,rfl,rfl,rfl,rfl,rfl,rfl,Nat.le_refl _⟩⟩
theorem sp_ok {W:Wd} {f:Int} (h:JJ W) (h0:0≤f) (hk:W.kinds f.toNat≠7):JJ (spW W f)∧KS W (spW W f):=by
  refine ⟨⟨⟨inv_tl (inv_tk (g:=fun i=>spT f (W.tasks i)) (inv_kd h.w.i (kd0 h f)) fun i hi=>(h.w.i.tk i hi).z.sp) fun c hc=>Nat.le_trans (kpN_le _ _) (h.w.i.tl c hc),pg_of h _,hp_z h h0 (fun _ _=> .inl rfl) (fun _ _ e=>absurd e hk)⟩,?_⟩,⟨rfl,rfl,rfl,rfl,rfl,rfl,rfl,rfl,rfl,rfl,rfl,rfl,Nat.le_refl _⟩⟩
  intro c hc k hk
  obtain ⟨j,h1,_,h3⟩:=fg_mem (p:=spB f) (W:=W) hk
  show wrB W.nRam W.ram (fgT (spB f) W c k)=false
  rw [h3];exact h.t c hc j h1
theorem nd0_ok {W:Wd} {f:Int} (h:JJ W) (h0:0≤f) (hk:W.kinds f.toNat≠7):JJ (nd0 W f)∧KS W (nd0 W f):=
  ⟨⟨⟨inv_tk (g:=fun i=>ndT f (W.tasks i)) (inv_kd h.w.i (kd0 h f)) fun i hi=>(h.w.i.tk i hi).z.nd,h.w.pg,hp_z h h0 (fun _ _=> .inl rfl) (fun _ _ e=>absurd e hk)⟩,h.t⟩,⟨rfl,rfl,rfl,rfl,rfl,rfl,rfl,rfl,rfl,rfl,rfl,rfl,Nat.le_refl _⟩⟩
theorem ndK_ok {D:Wd→Int→Wd} {W:Wd} {f:Int} (hD:DOK D) (h:JJ W) (h0:0≤f) (hk:W.kinds f.toNat≠7): ∀i,JJ (ndK D W f i)∧KS W (ndK D W f i)
  |0=>nd0_ok h h0 hk
  |i+1=>by
   obtain ⟨h1,h2⟩:=ndK_ok hD h h0 hk i
   obtain ⟨h3,h4⟩:=hD (ndK D W f i) (f*16+(15 -i)) h1
   exact ⟨h3,h2.trans h4⟩
theorem dr_ok {W:Wd} {f:Int} (h:JJ W) (h0:0≤f):JJ (drW W f)∧KS W (drW W f):=by
  refine ⟨⟨⟨inv_lb (p:=updF W.linesN f.toNat 0) (b:=updF W.bits f.toNat 0) (inv_tk (g:=drT W f) (inv_kd h.w.i (kd0 h f)) fun i hi=>?_) (fun i hi=>?_) (fun i hi=>?_),h.w.pg,hp_z (g:=drT W f) h h0 (fun i _=>?_) (fun i hi e=>?_)⟩,h.t⟩,⟨rfl,rfl,rfl,rfl,rfl,rfl,rfl,rfl,rfl,rfl,rfl,rfl,Nat.le_refl _⟩⟩
  · unfold drT
    refine TkR.hp ?_
    have:=(h.w.i.tk i hi).z (g:=updF W.kinds f.toNat 0)
    cases inB' (W.linesN f.toNat) (W.lines f.toNat) i
    · exact this
    · exact this.still.off
  · show updF W.linesN f.toNat 0 i≤W.linesN i
    rcases Decidable.em (i=f.toNat) with e|e
    · subst e;rw [updF_at];exact Nat.zero_le _
    · rw [updF_ne e];exact Nat.le_refl _
  · rcases Decidable.em (i=f.toNat) with e|e
    · subst e;rw [updF_at];exact ⟨Int.le_refl 0,by decide⟩
    · rw [updF_ne e];exact h.w.i.bt i hi
  · unfold drT hpT
    have e:(bif inB' (W.linesN f.toNat) (W.lines f.toNat) i then {W.tasks i with st:=0,loc:= -1} else W.tasks i:Run).helper=(W.tasks i).helper:=by cases inB' (W.linesN f.toNat) (W.lines f.toNat) i<;>rfl
    simp only [e]
    cases W.kinds f.toNat==7&&(W.tasks i).helper==f
    · exact .inl rfl
    · exact .inr rfl
  · unfold drT hpT
    have e2:(bif inB' (W.linesN f.toNat) (W.lines f.toNat) i then {W.tasks i with st:=0,loc:= -1} else W.tasks i:Run).helper=(W.tasks i).helper:=by cases inB' (W.linesN f.toNat) (W.lines f.toNat) i<;>rfl
    simp only [e2,e]
    cases hq:(W.tasks i).helper==f
    · simpa using hq
    · have:((7:Int)==7&&true)=true:=rfl
      rw [this]
      show (-1:Int)≠f
      omega
theorem inv_stp {W:Wd} (h:Inv 1000 W) {t:Int} (t0:0≤t) (t1:t<W.nTasks):Inv 1000 (stpW W t):=by
  have hm: ∀{n:Nat} {l:Nat→Int} {k:Nat},k<woN n l t→ ∃j,j<n∧woF n l t k=l j:=fun {n l k} hk=>by
    obtain ⟨j,h1,_,h3⟩:=kpT_mem (z:=(0:Int)) (t:=l) hk
    exact ⟨j,h1,h3⟩
  refine ⟨⟨h.z.k0,h.z.k1,h.z.c0,h.z.c1,h.z.ram,h.z.slots,h.z.tasks,h.z.lines,h.z.bits,h.z.ready,h.z.tlbs,h.z.d0,h.z.d1,h.z.t0,h.z.t1⟩,h.ram,h.kd,h.dm,h.sl,fun i hi=>?_,fun i hi=>⟨Nat.le_trans (kpN_le _ _) (h.ln i hi).1,fun k hk=>?_⟩,fun i hi=>⟨Nat.le_trans (kpN_le _ _) (h.rd i hi).1,fun k hk=>?_⟩,fun c hc=>?_,h.bt,h.tl⟩
  · show TkR (stpW W t) (lvS W t i)
    unfold lvS
    refine TkR.owe ?_
    unfold sdS
    rcases Decidable.em (i=t.toNat) with e|e
    · subst e;rw [updF_at];exact (((h.tk t.toNat hi).still).off).of rfl rfl
    · rw [updF_ne e];exact (h.tk i hi).of rfl rfl
  · obtain ⟨j,h1,h2⟩:=hm hk
    show 0≤woF (W.linesN i) (W.lines i) t k∧_
    rw [show (stpW W t).lines i k=woF (W.linesN i) (W.lines i) t k from rfl,h2]
    exact (h.ln i hi).2 j h1
  · obtain ⟨j,h1,h2⟩:=hm hk
    show 0≤woF (W.readyN i) (W.ready i) t k∧_
    rw [show (stpW W t).ready i k=woF (W.readyN i) (W.ready i) t k from rfl,h2]
    exact (h.rd i hi).2 j h1
  · show -1≤ofC W t c∧ofC W t c<W.nTasks
    unfold ofC
    have:=h.co c hc
    cases W.cores c==t
    · exact this
    · exact ⟨Int.le_refl _,show (-1:Int)<_ by omega⟩
theorem td_ok {W:Wd} {f:Int} (h:JJ W) (h0:0≤f) (h1:f<W.nTasks) (hk:W.kinds f.toNat≠7):JJ (tdW W f)∧KS W (tdW W f):=by
  have hi:=inv_stp (W:=kz W f) (inv_kd h.w.i (kd0 h f)) h0 h1
  have hh: ∀i,(lvS (kz W f) f i).helper=(W.tasks i).helper:=fun i=>by
    unfold lvS oweF sdS
    rcases Decidable.em (i=f.toNat) with e|e
    · subst e;rw [updF_at];rfl
    · rw [updF_ne e];rfl
  refine ⟨⟨⟨inv_tk (g:=tdT (stpW (kz W f) f) f) hi fun i hti=>?_,h.w.pg,hp_z (g:=tdT (stpW (kz W f) f) f) h h0 (fun i _=>?_) (fun _ _ e=>absurd e hk)⟩,h.t⟩,⟨rfl,rfl,rfl,rfl,rfl,rfl,rfl,rfl,rfl,rfl,rfl,rfl,Nat.le_refl _⟩⟩
  · unfold tdT
    cases Nat.beq i f.toNat
    · show TkR _ (bif _ then _ else _)
      cases decide (0≤((stpW (kz W f) f).tasks f.toNat).owes)&&Nat.beq i ((stpW (kz W f) f).tasks f.toNat).owes.toNat
      · exact hi.tk i hti
      · exact (hi.tk i hti).still
    · exact TkR.blk hi.z
  · unfold tdT
    cases Nat.beq i f.toNat
    · left
      show (bif _ then _ else _:Run).helper=_
      cases decide (0≤((stpW (kz W f) f).tasks f.toNat).owes)&&Nat.beq i ((stpW (kz W f) f).tasks f.toNat).owes.toNat
      · exact hh i
      · exact hh i
    · right;rfl
theorem gone_ok {D:Wd→Int→Wd} (hD:DOK D):GOK (goneW D):=by
  intro W f h h0 h1
  have hz:=h.w.i.z.tasks
  have hk:=h.w.i.kd f.toNat (by omega)
  obtain ⟨k,hkk⟩: ∃k,W.kinds f.toNat=k:=⟨_,rfl⟩
  rw [hkk] at hk
  have hc:(k=2∨k=3)∨k=4∨k=5∨k=6∨(k=7∨k=8)∨(k=0∨k=1):=by omega
  subst hkk
  rcases hc with e|e|e|e|e|e
  · rw [gone_pg e];exact pg_ok h h0 (by omega)
  · rw [gone_sp e];exact sp_ok h h0 (by omega)
  · rw [gone_nd e];exact ndK_ok hD h h0 (by omega) 16
  · rw [gone_td e];exact td_ok h h0 (by omega) (by omega)
  · rw [gone_dr e];exact dr_ok h h0
  · rw [gone_no e];exact kz_ok h h0 (by omega)
theorem has_in {W:Wd} {s:Int} (h:(hasE W s==0)=true):(0≤s∧s<W.nSlots)∧(W.slots s.toNat).kind≠0:=by
  have h1:=eq_of_beq h
  unfold hasE at h1
  cases d1:decide (s<0)<;>cases d2:decide ((W.nSlots:Int)≤s)<;>rw [d1,d2] at h1<;>(try simp only [Bool.or_true,Bool.true_or,Bool.or_false,cond_true,cond_false] at h1)<;>(try exact absurd h1 (by decide))
  have d1:=of_decide_eq_false d1
  have d2:=of_decide_eq_false d2
  refine ⟨by omega,fun e=>?_⟩
  rw [e] at h1;exact absurd h1 (by decide)
theorem cntB_le_of {n:Nat} {p q:Nat→Bool} (h: ∀i,i<n→p i=true→q i=true):cntB n p≤cntB n q:=by
  induction n with
  |zero=>exact Nat.le_refl _
  |succ n ih=>
   have h1:=ih fun i hi=>h i (by omega)
   have h2:=h n (by omega)
   unfold cntB
   cases hp:p n
   · cases q n<;>simp<;>omega
   · rw [h2 hp];simp;omega
theorem cntB_lt_of {n s:Nat} {p q:Nat→Bool} (h: ∀i,i<n→p i=true→q i=true) (hs:s<n) (h1:p s=false) (h2:q s=true):cntB n p<cntB n q:=by
  induction n with
  |zero=>omega
  |succ n ih=>
   have h3:=h n (by omega)
   unfold cntB
   rcases Nat.lt_or_ge s n with hl|hl
   · have h4:=ih (fun i hi=>h i (by omega)) hl
     cases hp:p n
     · cases q n<;>simp<;>omega
     · rw [h3 hp];simp;omega
   · obtain rfl:s=n:=by omega
     have h4:=cntB_le_of (n:=s) (p:=p) (q:=q) fun i hi=>h i (by omega)
     rw [h1,h2];simp;omega
theorem trn_kind (a b:Int) (x:Slt):(trn a b x).kind=x.kind:=by unfold trn;cases x.from_==a<;>rfl
theorem clr_cnt {W:Wd} {s:Int} (h:(hasE W s==0)=true):cntF (clrW W s)+1≤cntF W:=by
  obtain ⟨h1,h2⟩:=has_in h
  refine cntB_lt_of (n:=W.nSlots) (s:=s.toNat) (fun i hi hp=>?_) (by omega) ?_ ?_
  · have hp:(updF (fun j=>trn s (W.slots s.toNat).from_ (W.slots j)) s.toNat blS i).kind !=0:=hp
    rcases Decidable.em (i=s.toNat) with e|e
    · subst e;rw [updF_at] at hp;exact absurd hp (by decide)
    · rw [updF_ne e,trn_kind] at hp;exact hp
  · show ((updF (fun j=>trn s (W.slots s.toNat).from_ (W.slots j)) s.toNat blS s.toNat).kind !=0)=false
    rw [updF_at];decide
  · simpa using h2
theorem clr_ok {W:Wd} {s:Int} (h:JJ W) (hs:(hasE W s==0)=true):JJ (clrW W s)∧KS W (clrW W s):=by
  obtain ⟨h1,h2⟩:=has_in hs
  have hf:=(h.w.i.sl s.toNat (by omega)).2.2
  refine ⟨⟨⟨inv_sl h.w.i fun i hi=>?_,h.w.pg,h.w.hp⟩,h.t⟩,⟨rfl,rfl,rfl,rfl,rfl,rfl,rfl,rfl,rfl,rfl,rfl,rfl,Nat.le_of_lt (clr_cnt hs)⟩⟩
  rcases Decidable.em (i=s.toNat) with e|e
  · subst e;rw [updF_at]
    exact ⟨by decide,fun h=>absurd rfl h,by decide,show (-1:Int)<_ by omega⟩
  · rw [updF_ne e]
    have hi':=h.w.i.sl i hi
    unfold trn
    cases (W.slots i).from_==s
    · exact hi'
    · exact ⟨hi'.1,hi'.2.1,hf⟩
theorem bas_in {W:Wd} {s:Int} (h:Inv 1000 W) (hs:(hasE W s==0)=true):0≤(W.slots s.toNat).base∧(W.slots s.toNat).base<W.nKinds:=by
  obtain ⟨h1,h2⟩:=has_in hs
  obtain ⟨h3,h4,_⟩:=h.sl s.toNat (by omega)
  have h5:=slNo_range h3
  have h6:=h4 h2
  have h7:=slB_len h3 h2
  omega
theorem drop_ok {G:Wd→Int→Wd} (hG:GOK G):DOK (dropBy G):=by
  intro W s h
  unfold dropBy
  cases hs:hasE W s==0
  · exact ⟨h,KS.refl W⟩
  · obtain ⟨h1,h2⟩:=clr_ok h hs
    have hb:=bas_in h.w.i hs
    show JJ (bif _ then _ else _)∧KS W (bif _ then _ else _)
    cases (W.slots s.toNat).kind==1||sameK (clrW W s) (W.slots s.toNat)
    · obtain ⟨h3,h4⟩:=hG (clrW W s) (W.slots s.toNat).base h1 hb.1 hb.2
      exact ⟨h3,h2.trans h4⟩
    · exact ⟨h1,h2⟩
theorem bur_ok: ∀n,GOK (bur n)
  |0=>gone_ok fun W _ h=>⟨h,KS.refl W⟩
  |n+1=>gone_ok (drop_ok (bur_ok n))
theorem dropN_ok (n:Nat):DOK (dropBy (bur n)):=drop_ok (bur_ok n)
end Go.Proofs.YtdjilaofmdhikaaGreatDoor
set_option linter.unusedVariables false
set_option linter.unusedSimpArgs false
set_option maxRecDepth 100000
namespace Go.Proofs.YtdjilaofmdhikaaGreatDoor
open Go.RowKit Go.Sy
structure X_goneR where
  (f:Int) (W:Wd)
def s_goneR (N_:Nat):Sy.Spec:=⟨X_goneR,fun ⟨f,_⟩=> [.ptr 0 0 none 0 0,.v (.int .i64 f)],fun ⟨_,W⟩=>wMem W,fun ⟨f,W⟩=>JJ W∧cntF W+1≤N_∧0≤f∧f<W.nKinds,fun _=> .tp 0 (lsv []),fun ⟨f,W⟩=>wMem (bur N_ W f),fun args mem=>match args with| [_,a1]=>some ⟨intD a1,wMJD mem 0⟩|_=>none⟩
def c_goneR (N_:Nat):Con:=⟨[true],(s_goneR N_).g,none⟩
def an_dk (W:Wd) (s:Int) (r:Nat):Ann where
  σ:=Nat
  rt:= [(6,6)]
  sh i:= [(0,pt0 0),(6,pt0 r),(7,.v (.int .i64 i))]
  mh _:= []
  inv i:=i≤W.nSlots∧ ∀j,j<i→(((clrW W s).slots j).kind==(W.slots s.toNat).kind&&((clrW W s).slots j).base==(W.slots s.toNat).base)=false
  μ i:=W.nSlots -i
  init:=0
theorem clrS {W:Wd} {s:Int} (j:Nat):(⟨(bif Nat.beq j s.toNat then 0 else (trn s (W.slots s.toNat).from_ (W.slots j)).kind),(bif Nat.beq j s.toNat then 0 else (trn s (W.slots s.toNat).from_ (W.slots j)).base),(bif Nat.beq j s.toNat then 0 else (trn s (W.slots s.toNat).from_ (W.slots j)).len),(bif Nat.beq j s.toNat then 0 else (trn s (W.slots s.toNat).from_ (W.slots j)).mark),(bif Nat.beq j s.toNat then 0 else (trn s (W.slots s.toNat).from_ (W.slots j)).rights),(bif Nat.beq j s.toNat then 0 else (trn s (W.slots s.toNat).from_ (W.slots j)).badge),(bif Nat.beq j s.toNat then -1 else (trn s (W.slots s.toNat).from_ (W.slots j)).from_)⟩:Slt)=(clrW W s).slots j:=by
  show _=updF (fun j=>trn s (W.slots s.toNat).from_ (W.slots j)) s.toNat blS j
  unfold updF
  cases Nat.beq j s.toNat<;>rfl
theorem clr7 {W:Wd} {s:Int} {j:Nat}:(((((((bif Nat.beq j s.toNat then 0 else (trn s (W.slots s.toNat).from_ (W.slots j)).kind)=((clrW W s).slots j).kind∧(bif Nat.beq j s.toNat then 0 else (trn s (W.slots s.toNat).from_ (W.slots j)).base)=((clrW W s).slots j).base)∧(bif Nat.beq j s.toNat then 0 else (trn s (W.slots s.toNat).from_ (W.slots j)).len)=((clrW W s).slots j).len)∧(bif Nat.beq j s.toNat then 0 else (trn s (W.slots s.toNat).from_ (W.slots j)).mark)=((clrW W s).slots j).mark)∧(bif Nat.beq j s.toNat then 0 else (trn s (W.slots s.toNat).from_ (W.slots j)).rights)=((clrW W s).slots j).rights)∧(bif Nat.beq j s.toNat then 0 else (trn s (W.slots s.toNat).from_ (W.slots j)).badge)=((clrW W s).slots j).badge)∧(bif Nat.beq j s.toNat then -1 else (trn s (W.slots s.toNat).from_ (W.slots j)).from_)=((clrW W s).slots j).from_):=by
  rw [←clrS]
  exact ⟨⟨⟨⟨⟨⟨rfl,rfl⟩,rfl⟩,rfl⟩,rfl⟩,rfl⟩,rfl⟩
theorem clr_eta (W:Wd) (s:Int):(⟨W.nRam,W.ram,W.nKinds,W.kinds,W.nSlots,(clrW W s).slots,W.nTasks,W.tasks,W.nLines,W.linesN,W.lines,W.nBits,W.bits,W.nCores,W.cores,W.nReady,W.readyN,W.ready,W.nTlbs,W.tlbsN,W.tlbs,W.nDoms,W.doms,W.time⟩:Wd)=clrW W s:=rfl
structure X_dropR where
  (s:Int) (W:Wd)
def s_dropR (N_:Nat):Sy.Spec:=⟨X_dropR,fun ⟨s,_⟩=> [.ptr 0 0 none 0 0,.v (.int .i64 s)],fun ⟨_,W⟩=>wMem W,fun ⟨_,W⟩=>JJ W∧cntF W≤N_,fun ⟨s,W⟩=> .v (.int .i64 (hasE W s)),fun ⟨s,W⟩=>wMem (dropBy (bur N_) W s),
  fun args mem=>match args with| [a0,a1]=>some ⟨intD (a1),wMJD mem 0⟩|_=>none⟩
def c_dropR (N_:Nat):Con:=⟨[true],(s_dropR N_).g,none⟩
def V_dropR (N_:Nat):X_dropR→Prop:=fun ⟨s,W⟩=>let a0:=W.nRam;let b0:=W.nKinds;let c0:=W.nSlots;let d0:=W.nTasks;let e0:=W.nLines;let g0:=W.nBits;let h0:=W.nCores;let k0:=W.nReady;let l0:=W.nTlbs;let o0:=W.nDoms;let q0:=hasE (Wd.mk a0 (fun r0:Nat=>W.ram (0+r0)) b0 (fun u0:Nat=>W.kinds (0+u0)) c0 (fun v0:Nat=>W.slots (0+v0)) d0 (fun w0:Nat=>W.tasks (0+w0)) e0 (fun x0:Nat=>W.linesN (0+x0)) (fun y0:Nat=>fun z0:Nat=>W.lines (0+y0) (0+z0)) g0 (fun a1:Nat=>W.bits (0+a1)) h0 (fun b1:Nat=>W.cores (0+b1)) k0 (fun c1:Nat=>W.readyN (0+c1)) (fun d1:Nat=>fun e1:Nat=>W.ready (0+d1) (0+e1)) l0 (fun g1:Nat=>W.tlbsN (0+g1)) (fun h1:Nat=>fun k1:Nat=>W.tlbs (0+h1) (0+k1)) o0 (fun l1:Nat=>W.doms (0+l1)) W.time) s;let o1:=q0 !=0;let q1:=dropBy (bur N_) W s;let r1:=(c0:Int);let u1:=0≤s∧s<r1;let v1:=SV.ptr 0 0 none 0 0=SV.ptr 0 0 none 0 0;let w1:=Int.toNat s;let x1:=0+w1;let y1:=W.slots x1;let z1:=y1.from_;let a2:=false=false;let b2:=SV.ptr (0+1+1+1+1+1+1+1+1+1+1+1) 0 none 0 0=SV.ptr 11 0 none 0 0;let c2:={W with slots:=fun d2:Nat=>let e2:=Nat.beq d2 x1;let g2:=trn s z1 (W.slots d2);Slt.mk (cond e2 0 g2.kind) (cond e2 0 g2.base) (cond e2 0 g2.len) (cond e2 0 g2.mark) (cond e2 0 g2.rights) (cond e2 0 g2.badge) (cond e2 (-1) g2.from_)};let h2:=y1.kind;let k2:=y1.base;let l2:=k2=k2;let o2:=y1.len;let q2:=y1.mark;let r2:=y1.rights;let u2:=y1.badge;let v2:=wEq c2 c2 (((((((True∧h2=h2)∧l2)∧o2=o2)∧q2=q2)∧r2=r2)∧u2=u2)∧True);let w2:=W.slots w1;let x2:=w2.from_;let y2:=Slt.mk 0 0 0 0 0 0 (-1);let z2:=w2.kind;let a3:=w2.base;let b3:=0=hasE W s;
    let c3:=b3∧wEq c2 q1 True;let d3:=h2 !=1;(((((((((((((True∧a0=a0∧(∀e3:Nat,e3<a0→True∧W.ram (0+e3)=W.ram (0+e3)))∧b0=b0∧(∀g3:Nat,let h3:=W.kinds (0+g3);g3<b0→True∧h3=h3))∧c0=c0∧(∀k3:Nat,let l3:=W.slots (0+k3);k3<c0→sEq l3 l3))∧d0=d0∧(∀o3:Nat,let q3:=W.tasks (0+o3);o3<d0→rEq q3 q3))∧e0=e0∧(∀r3:Nat,let u3:=W.linesN (0+r3);r3<e0→True∧u3=u3∧(∀v3:Nat,let w3:=W.lines (0+r3) (0+v3);v3<u3→True∧w3=w3)))∧g0=g0∧(∀x3:Nat,x3<g0→True∧W.bits (0+x3)=W.bits (0+x3)))∧h0=h0∧(∀y3:Nat,let z3:=W.cores (0+y3);y3<h0→True∧z3=z3))∧k0=k0∧(∀a4:Nat,let b4:=W.readyN (0+a4);a4<k0→True∧b4=b4∧(∀c4:Nat,let d4:=W.ready (0+a4) (0+c4);c4<b4→True∧d4=d4)))∧l0=l0∧(∀e4:Nat,let g4:=W.tlbsN (0+e4);e4<l0→True∧g4=g4∧(∀h4:Nat,let k4:=W.tlbs (0+e4) (0+h4);h4<g4→eEq k4 k4)))∧o0=o0∧(∀l4:Nat,l4<o0→True∧W.doms (0+l4)=W.doms (0+l4)))∧W.time=W.time)∧s=s∧True)∧True∧True)∧(o1=true→q0=hasE W s∧wEq W q1 True)∧(o1=false→u1∧True∧tn 5 True∧u1∧((v1∧s=s∧z1=z1∧True)∧wEq W W True∧s_turn.match_1 (fun o4:X_turn=>Prop) (X_turn.mk s z1 W) (fun q4:Int=>fun r4:Int=>fun u4:Wd=>u4.nSlots≤100000))∧u1∧((∀v4:Nat,a2)∧(∀w4:Nat,a2)∧(∀x4:Nat,a2)∧(∀y4:Nat,a2)∧(∀z4:Nat,a2)∧(∀a5:Nat,a2)∧(∀b5:Nat,a2))∧v1∧b2∧0=((0:Nat):Int)∧v2∧(0≤c0∧(∀c5:Nat,let d5:=updF (fun e5:Nat=>trn s x2 (W.slots e5)) w1 y2 c5;c5<0→(d5.kind==z2&&d5.base==a3)=false))∧(∀g5:Nat,let h5:=(g5:Int);let k5:=decide (h5<r1);let l5:=0≤h5∧h5<r1;let o5:=0+Int.toNat h5;let q5:=Nat.beq o5 x1;let r5:=trn s z1 (W.slots o5);let u5:=cond q5 0 r5.kind==h2;let v5:=cond u5 (cond q5 0 r5.base==k2) false;
    let w5:Int:=h5+1;g5≤c0∧(∀x5:Nat,let y5:=updF (fun z5:Nat=>trn s x2 (W.slots z5)) w1 y2 x5;x5<g5→(y5.kind==z2&&y5.base==a3)=false)→r1≤9223372036854775807→(k5=true→tn 5 (l5∧tn 12 ((u5=true→l5)∧tn 5 ((v5=true→c3)∧(v5=false→w64 w5=w5∧(∃a6:Nat,v1∧b2∧w5=(a6:Int)∧v2∧(a6≤c0∧(∀b6:Nat,let c6:=updF (fun d6:Nat=>trn s x2 (W.slots d6)) w1 y2 b6;b6<a6→(c6.kind==z2&&c6.base==a3)=false))∧c0-a6<c0-g5))))))∧(k5=false→(d3=true→((v1∧l2∧True)∧wEq c2 c2 True∧JJ c2∧cntF c2+1≤N_∧0≤k2∧k2<(b0:Int))∧b3∧wEq (bur N_ c2 k2) q1 True)∧(d3=false→c3))))
set_option maxHeartbeats 1000000 in
theorem ok_dropR (N_:Nat) (h_:FnOK Tryz.prog glN 125 (c_goneR N_)):FnOK Tryz.prog glN 65 (c_dropR N_):=ok_of (.cons ok_turn (.cons ok_has_ (.cons h_ .nil))) false Tryz.call65 Tryz.func65 (fun ⟨s,W⟩=> [.inv (an_dk W s 11)]) (V:=V_dropR N_) (fun _=>by kernel_rfl) fun ⟨s,W⟩ hp=>by
  dsimp only [s_dropR] at hp
  dsimp only [V_dropR,tn,w64,wEq,rEq,sEq,eEq]
  simp only [std,stb,eq_self,implies_true,Bool.cond_self]
  try simp only [wd_eta]
  obtain ⟨hJ,hn⟩:=hp
  have z1:=hJ.w.i.z.slots
  have z2:=hJ.w.i.z.k1
  have eS:(fun j=>(⟨(bif Nat.beq j s.toNat then 0 else (trn s (W.slots s.toNat).from_ (W.slots j)).kind),(bif Nat.beq j s.toNat then 0 else (trn s (W.slots s.toNat).from_ (W.slots j)).base),(bif Nat.beq j s.toNat then 0 else (trn s (W.slots s.toNat).from_ (W.slots j)).len),(bif Nat.beq j s.toNat then 0 else (trn s (W.slots s.toNat).from_ (W.slots j)).mark),(bif Nat.beq j s.toNat then 0 else (trn s (W.slots s.toNat).from_ (W.slots j)).rights),(bif Nat.beq j s.toNat then 0 else (trn s (W.slots s.toNat).from_ (W.slots j)).badge),(bif Nat.beq j s.toNat then -1 else (trn s (W.slots s.toNat).from_ (W.slots j)).from_)⟩:Slt))=(clrW W s).slots:=funext clrS
  refine ⟨fun h=>?_,fun h=>?_⟩
  · have e:dropBy (bur N_) W s=W:=by unfold dropBy;rw [ne0 h];rfl
    simp only [e]
    repeat' (first|exact trivial|exact run20 rfl|rfl|refine And.intro ?_ ?_|intro _)
  · have hs:=eq0 h
    have he:=(eq_of_beq hs).symm
    obtain ⟨⟨s0,s1⟩,hk⟩:=has_in hs
    have eu: ∀j,(⟨(bif Nat.beq j s.toNat then 0 else (trn s (W.slots s.toNat).from_ (W.slots j)).kind),(bif Nat.beq j s.toNat then 0 else (trn s (W.slots s.toNat).from_ (W.slots j)).base),(bif Nat.beq j s.toNat then 0 else (trn s (W.slots s.toNat).from_ (W.slots j)).len),(bif Nat.beq j s.toNat then 0 else (trn s (W.slots s.toNat).from_ (W.slots j)).mark),(bif Nat.beq j s.toNat then 0 else (trn s (W.slots s.toNat).from_ (W.slots j)).rights),(bif Nat.beq j s.toNat then 0 else (trn s (W.slots s.toNat).from_ (W.slots j)).badge),(bif Nat.beq j s.toNat then -1 else (trn s (W.slots s.toNat).from_ (W.slots j)).from_)⟩:Slt)=updF (fun j=>trn s (W.slots s.toNat).from_ (W.slots j)) s.toNat blS j:=clrS
    refine ⟨⟨s0,s1⟩,⟨s0,s1⟩,by omega,⟨s0,s1⟩,fun i hi hm=>⟨fun h2=>?_,fun h2=>?_⟩⟩
    · have hlt:=lt_of_dec h2
      have ek:=congrArg Slt.kind (eu i)
      have eb:=congrArg Slt.base (eu i)
      simp only at ek eb
      rw [ek,eb]
      refine ⟨by omega,fun _=>by omega,fun h3=>?_,fun h3=>?_⟩
      · have e:dropBy (bur N_) W s=clrW W s:=by
          unfold dropBy
          rw [hs]
          have:sameK (clrW W s) (W.slots s.toNat)=true:=anyB_iff.2 ⟨i,hlt,h3⟩
          rw [this,Bool.or_true];rfl
        simp only [e]
        refine ⟨he,?_⟩
        repeat' (first|exact trivial|exact clr7|exact run20 rfl|rfl|refine And.intro ?_ ?_|intro _)
      · refine ⟨wr_in (by omega) (by omega),i+1,by omega,⟨by omega,fun j hj=>?_⟩,by omega⟩
        rcases Nat.lt_or_ge j i with h4|h4
        · exact hi.2 j h4
        · obtain rfl:j=i:=by omega
          exact h3
    · have hge:=ge_of_dec h2
      obtain rfl:i=W.nSlots:=by omega
      have hno:sameK (clrW W s) (W.slots s.toNat)=false:=anyB_false.2 hi.2
      rw [eS]
      simp only [clr_eta]
      refine ⟨fun h3=>?_,fun h3=>?_⟩
      · have e:dropBy (bur N_) W s=bur N_ (clrW W s) (W.slots s.toNat).base:=by
          unfold dropBy
          rw [hs,hno,show ((W.slots s.toNat).kind==1)=false by simpa [bne] using h3];rfl
        obtain ⟨b1,b2⟩:=bas_in hJ.w.i hs
        have hc:=clr_cnt hs
        simp only [e]
        refine ⟨⟨(clr_ok hJ hs).1,by omega,b1,b2⟩,he,?_⟩
        repeat' (first|exact trivial|exact run20 rfl|rfl|refine And.intro ?_ ?_|intro _)
      · have e:dropBy (bur N_) W s=clrW W s:=by
          unfold dropBy
          rw [hs,show ((W.slots s.toNat).kind==1)=true by simpa [bne] using h3];rfl
        simp only [e]
        refine ⟨he,?_⟩
        repeat' (first|exact trivial|exact clr7|exact run20 rfl|rfl|refine And.intro ?_ ?_|intro _)
end Go.Proofs.YtdjilaofmdhikaaGreatDoor
set_option linter.unusedVariables false
set_option linter.unusedSimpArgs false
set_option maxRecDepth 100000
namespace Go.Proofs.YtdjilaofmdhikaaGreatDoor
open Go.RowKit Go.Sy
def cutG (W:Wd) (f k:Int) (z:Nat):Cut where
  σ:=Nat
  rt:= []
  sh _:= [(0,pt0 0),(z,.v (.int .i64 k))]
  mem _:=wMem (kz W f)
  inv _:=True
  dec _ _:=0
def tkK (k:Nat) (f:Int) (x:Run):Run:=bif Nat.beq k 4 then spT f x else bif Nat.beq k 5 then ndT f x else bif Nat.beq k 7 then hpT 7 f x else x
def mixK (k:Nat) (W:Wd) (f:Int) (i q:Nat):Run:=bif Nat.blt q i then tkK k f (W.tasks q) else W.tasks q
theorem mixK_lt {k:Nat} {W:Wd} {f:Int} {i q:Nat} (h:q<i):mixK k W f i q=tkK k f (W.tasks q):=by unfold mixK;rw [blt_t h];rfl
theorem mixK_ge {k:Nat} {W:Wd} {f:Int} {i q:Nat} (h:i≤q):mixK k W f i q=W.tasks q:=by unfold mixK;rw [blt_f h];rfl
def an_tk (k:Nat) (W:Wd) (f:Int) (l:List (Nat×SV)) (z:Nat):Ann where
  σ:=Nat
  rt:= []
  sh i:=l++ [(z,.v (.int .i64 i))]
  mh i:= [(4,.row 20 W.nTasks (rF fun q=>runL (mixK k W f i q)))]
  inv i:=i≤W.nTasks
  μ i:=W.nTasks -i
  init:=0
def an_no (n:Nat) (l:List (Nat×SV)) (z:Nat):Ann where
  σ:=Nat
  rt:= []
  sh i:=l++ [(z,.v (.int .i64 i))]
  mh _:= []
  inv i:=i≤n
  μ i:=n -i
  init:=0
def mhW (W:Wd):List (Nat×Blk):= [(0,wCel 1 W),(1,.row 1 W.nRam (iF W.ram)),(2,.row 1 W.nKinds (iF W.kinds)),(3,.row 7 W.nSlots (rF fun i=>slL (W.slots i))),(4,.row 20 W.nTasks (rF fun i=>runL (W.tasks i))),(5,.row 1 W.nLines (fun i _=> .il 1 (W.linesN i) (iF (W.lines i)))),(6,.row 1 W.nBits (iF W.bits)),(7,.row 1 W.nCores (iF W.cores)),(8,.row 1 W.nReady (fun i _=> .il 1 (W.readyN i) (iF (W.ready i)))),(9,.row 1 W.nTlbs (fun i _=> .il 4 (W.tlbsN i) (rF fun k=>enL (W.tlbs i k)))),(10,.row 1 W.nDoms (iF W.doms))]
def an_nd (D:Wd→Int→Wd) (W:Wd) (f:Int) (l:List (Nat×SV)) (z:Nat):Ann where
  σ:=Nat
  rt:= []
  sh i:=l++ [(z,.v (.int .i64 (15 -i)))]
  mh i:=mhW (ndK D W f i)
  inv i:=i≤16
  μ i:=16 -i
  init:=0
def drS (k:Nat) (W:Wd) (f:Int) (s i:Nat):Run:=bif inB' s (W.lines f.toNat) i then {mixK k W f W.nTasks i with st:=0,loc:= -1} else mixK k W f W.nTasks i
def an_dr (k:Nat) (W:Wd) (f:Int) (l:List (Nat×SV)) (z:Nat):Ann where
  σ:=Nat
  rt:= []
  sh i:=l++ [(z,.v (.int .i64 i))]
  mh i:= [(4,.row 20 W.nTasks (rF fun q=>runL (drS k W f i q)))]
  inv i:=i≤W.linesN f.toNat
  μ i:=W.linesN f.toNat -i
  init:=0
theorem td20a {W:Wd} {f:Int} {j:Nat} (h:decide (0≤(bif (sdS (kz W f) f.toNat (-1) 0 f.toNat).owes==f then -1 else (sdS (kz W f) f.toNat (-1) 0 f.toNat).owes))=true):((((((((((((((((((((bif Nat.beq j f.toNat then 0 else (sdS (kz W f) f.toNat (-1) 0 j).r0)=(tdT (stpW (kz W f) f) f j).r0∧(bif Nat.beq j f.toNat then 0 else (sdS (kz W f) f.toNat (-1) 0 j).r1)=(tdT (stpW (kz W f) f) f j).r1)∧(bif Nat.beq j f.toNat then 0 else (sdS (kz W f) f.toNat (-1) 0 j).r2)=(tdT (stpW (kz W f) f) f j).r2)∧(bif Nat.beq j f.toNat then 0 else (sdS (kz W f) f.toNat (-1) 0 j).r3)=(tdT (stpW (kz W f) f) f j).r3)∧(bif Nat.beq j f.toNat then 0 else (sdS (kz W f) f.toNat (-1) 0 j).r4)=(tdT (stpW (kz W f) f) f j).r4)∧(bif Nat.beq j f.toNat then 0 else (sdS (kz W f) f.toNat (-1) 0 j).r5)=(tdT (stpW (kz W f) f) f j).r5)∧(bif Nat.beq j f.toNat then 0 else (sdS (kz W f) f.toNat (-1) 0 j).r6)=(tdT (stpW (kz W f) f) f j).r6)∧(bif Nat.beq j f.toNat then 0 else (sdS (kz W f) f.toNat (-1) 0 j).r7)=(tdT (stpW (kz W f) f) f j).r7)∧(bif Nat.beq j f.toNat then 0 else (sdS (kz W f) f.toNat (-1) 0 j).pc)=(tdT (stpW (kz W f) f) f j).pc)∧(bif Nat.beq j f.toNat then 0 else (bif Nat.beq j (bif (sdS (kz W f) f.toNat (-1) 0 f.toNat).owes==f then -1 else (sdS (kz W f) f.toNat (-1) 0 f.toNat).owes).toNat then 0 else (sdS (kz W f) f.toNat (-1) 0 j).st))=(tdT (stpW (kz W f) f) f j).st)∧(bif Nat.beq j f.toNat then 0 else (sdS (kz W f) f.toNat (-1) 0 j).prio)=(tdT (stpW (kz W f) f) f j).prio)∧(bif Nat.beq j f.toNat then -1 else (sdS (kz W f) f.toNat (-1) 0 j).node)=(tdT (stpW (kz W f) f) f j).node)∧(bif Nat.beq j f.toNat then -1 else (sdS (kz W f) f.toNat (-1) 0 j).space)=(tdT (stpW (kz W f) f) f j).space)∧(bif Nat.beq j f.toNat then -1 else (sdS (kz W f) f.toNat (-1) 0 j).helper)=(tdT (stpW (kz W f) f) f j).helper)∧(bif Nat.beq j f.toNat then -1 else (sdS (kz W f) f.toNat (-1) 0 j).loc)=(tdT (stpW (kz W f) f) f j).loc)∧(bif Nat.beq j f.toNat then 0 else (sdS (kz W f) f.toNat (-1) 0 j).word)=(tdT (stpW (kz W f) f) f j).word)∧(bif Nat.beq j f.toNat then 0 else (sdS (kz W f) f.toNat (-1) 0 j).badge)=(tdT (stpW (kz W f) f) f j).badge)∧(bif Nat.beq j f.toNat then -1 else (bif (sdS (kz W f) f.toNat (-1) 0 j).owes==f then -1 else (sdS (kz W f) f.toNat (-1) 0 j).owes))=(tdT (stpW (kz W f) f) f j).owes)∧(bif Nat.beq j f.toNat then 0 else (sdS (kz W f) f.toNat (-1) 0 j).core)=(tdT (stpW (kz W f) f) f j).core)∧(bif Nat.beq j f.toNat then 0 else (sdS (kz W f) f.toNat (-1) 0 j).dom)=(tdT (stpW (kz W f) f) f j).dom):=by
  unfold tdT
  rw [show ((stpW (kz W f) f).tasks f.toNat).owes=(bif (sdS (kz W f) f.toNat (-1) 0 f.toNat).owes==f then -1 else (sdS (kz W f) f.toNat (-1) 0 f.toNat).owes) from rfl,h]
  generalize Nat.beq j f.toNat=b1
  generalize Nat.beq j (bif (sdS (kz W f) f.toNat (-1) 0 f.toNat).owes==f then -1 else (sdS (kz W f) f.toNat (-1) 0 f.toNat).owes).toNat=b2
  cases b1<;>cases b2<;>(repeat' (first|rfl|refine And.intro ?_ ?_))
theorem td20b {W:Wd} {f:Int} {j:Nat} (h:decide (0≤(bif (sdS (kz W f) f.toNat (-1) 0 f.toNat).owes==f then -1 else (sdS (kz W f) f.toNat (-1) 0 f.toNat).owes))=false):((((((((((((((((((((bif Nat.beq j f.toNat then 0 else (sdS (kz W f) f.toNat (-1) 0 j).r0)=(tdT (stpW (kz W f) f) f j).r0∧(bif Nat.beq j f.toNat then 0 else (sdS (kz W f) f.toNat (-1) 0 j).r1)=(tdT (stpW (kz W f) f) f j).r1)∧(bif Nat.beq j f.toNat then 0 else (sdS (kz W f) f.toNat (-1) 0 j).r2)=(tdT (stpW (kz W f) f) f j).r2)∧(bif Nat.beq j f.toNat then 0 else (sdS (kz W f) f.toNat (-1) 0 j).r3)=(tdT (stpW (kz W f) f) f j).r3)∧(bif Nat.beq j f.toNat then 0 else (sdS (kz W f) f.toNat (-1) 0 j).r4)=(tdT (stpW (kz W f) f) f j).r4)∧(bif Nat.beq j f.toNat then 0 else (sdS (kz W f) f.toNat (-1) 0 j).r5)=(tdT (stpW (kz W f) f) f j).r5)∧(bif Nat.beq j f.toNat then 0 else (sdS (kz W f) f.toNat (-1) 0 j).r6)=(tdT (stpW (kz W f) f) f j).r6)∧(bif Nat.beq j f.toNat then 0 else (sdS (kz W f) f.toNat (-1) 0 j).r7)=(tdT (stpW (kz W f) f) f j).r7)∧(bif Nat.beq j f.toNat then 0 else (sdS (kz W f) f.toNat (-1) 0 j).pc)=(tdT (stpW (kz W f) f) f j).pc)∧(bif Nat.beq j f.toNat then 0 else (sdS (kz W f) f.toNat (-1) 0 j).st)=(tdT (stpW (kz W f) f) f j).st)∧(bif Nat.beq j f.toNat then 0 else (sdS (kz W f) f.toNat (-1) 0 j).prio)=(tdT (stpW (kz W f) f) f j).prio)∧(bif Nat.beq j f.toNat then -1 else (sdS (kz W f) f.toNat (-1) 0 j).node)=(tdT (stpW (kz W f) f) f j).node)∧(bif Nat.beq j f.toNat then -1 else (sdS (kz W f) f.toNat (-1) 0 j).space)=(tdT (stpW (kz W f) f) f j).space)∧(bif Nat.beq j f.toNat then -1 else (sdS (kz W f) f.toNat (-1) 0 j).helper)=(tdT (stpW (kz W f) f) f j).helper)∧(bif Nat.beq j f.toNat then -1 else (sdS (kz W f) f.toNat (-1) 0 j).loc)=(tdT (stpW (kz W f) f) f j).loc)∧(bif Nat.beq j f.toNat then 0 else (sdS (kz W f) f.toNat (-1) 0 j).word)=(tdT (stpW (kz W f) f) f j).word)∧(bif Nat.beq j f.toNat then 0 else (sdS (kz W f) f.toNat (-1) 0 j).badge)=(tdT (stpW (kz W f) f) f j).badge)∧(bif Nat.beq j f.toNat then -1 else (bif (sdS (kz W f) f.toNat (-1) 0 j).owes==f then -1 else (sdS (kz W f) f.toNat (-1) 0 j).owes))=(tdT (stpW (kz W f) f) f j).owes)∧(bif Nat.beq j f.toNat then 0 else (sdS (kz W f) f.toNat (-1) 0 j).core)=(tdT (stpW (kz W f) f) f j).core)∧(bif Nat.beq j f.toNat then 0 else (sdS (kz W f) f.toNat (-1) 0 j).dom)=(tdT (stpW (kz W f) f) f j).dom):=by
  unfold tdT
  rw [show ((stpW (kz W f) f).tasks f.toNat).owes=(bif (sdS (kz W f) f.toNat (-1) 0 f.toNat).owes==f then -1 else (sdS (kz W f) f.toNat (-1) 0 f.toNat).owes) from rfl,h]
  generalize Nat.beq j f.toNat=b1
  generalize Nat.beq j (bif (sdS (kz W f) f.toNat (-1) 0 f.toNat).owes==f then -1 else (sdS (kz W f) f.toNat (-1) 0 f.toNat).owes).toNat=b2
  cases b1<;>cases b2<;>(repeat' (first|rfl|refine And.intro ?_ ?_))
theorem drS_at {k:Nat} {W:Wd} {f:Int} {s i:Nat} (h0:0≤W.lines f.toNat s) (e:i=(W.lines f.toNat s).toNat):drS k W f (s+1) i={mixK k W f W.nTasks i with st:=0,loc:= -1}:=by
  unfold drS inB'
  rw [anyB_succ,show (W.lines f.toNat s==(i:Int))=true from beq_iff_eq.2 (by omega),Bool.or_true];rfl
theorem drS_ne {k:Nat} {W:Wd} {f:Int} {s i:Nat} (h0:0≤W.lines f.toNat s) (e:i≠(W.lines f.toNat s).toNat):drS k W f (s+1) i=drS k W f s i:=by
  unfold drS inB'
  rw [anyB_succ,show (W.lines f.toNat s==(i:Int))=false from beq_eq_false_iff_ne.2 (by omega),Bool.or_false]
theorem drS_0 {k:Nat} {W:Wd} {f:Int} {i:Nat}:drS k W f 0 i=mixK k W f W.nTasks i:=rfl
theorem drS_col {k:Nat} {W:Wd} {f:Int} {s i:Nat}:({drS k W f s i with st:=0,loc:= -1}:Run)={mixK k W f W.nTasks i with st:=0,loc:= -1}:=by
  unfold drS
  cases inB' s (W.lines f.toNat) i<;>rfl
theorem drS_all {k:Nat} {W:Wd} {f:Int} {i:Nat} (hi:i<W.nTasks) (hk:tkK k f=hpT (W.kinds f.toNat) f):drS k W f (W.linesN f.toNat) i=drT W f i:=by
  unfold drS drT
  rw [mixK_lt hi,hk]
  cases inB' (W.linesN f.toNat) (W.lines f.toNat) i<;>rfl
theorem wrK_ne {n:Nat} {ram:Nat→Int} {k f:Int} (h:(k==4)=false):wrK n ram k f=wrB n ram:=by
  funext e
  unfold wrK
  rw [h]
  exact Bool.or_false _
theorem kpN_congr {p q:Nat→Bool}: ∀{n:Nat},(∀i,i<n→p i=q i)→kpN p n=kpN q n
  |0,_=>rfl
  |n+1,h=>by rw [kpN,kpN,h n (by omega),kpN_congr fun i hi=>h i (by omega)]
theorem kpT_congr {α:Type} {z:α} {t:Nat→α} {p q:Nat→Bool}: ∀{n:Nat},(∀i,i<n→p i=q i)→kpT z p t n=kpT z q t n
  |0,_=>rfl
  |n+1,h=>by
   funext a
   rw [kpT,kpT,h n (by omega),kpN_congr fun i hi=>h i (by omega),kpT_congr fun i hi=>h i (by omega)]
theorem fg_congr {p q:Ent4→Bool} {W:Wd} {c:Nat} (h: ∀k,k<W.tlbsN c→p (W.tlbs c k)=q (W.tlbs c k)):fgN p W c=fgN q W c∧fgT p W c=fgT q W c:=⟨kpN_congr h,kpT_congr h⟩
theorem fg_none {p:Ent4→Bool} {W:Wd} {c:Nat} (h: ∀k,k<W.tlbsN c→p (W.tlbs c k)=false):fgN p W c=W.tlbsN c∧ ∀a,a<W.tlbsN c→fgT p W c a=W.tlbs c a:=
  ⟨kpN_pre h,fun a ha=>kpT_pre h ha⟩
theorem fg_no7 {p:Ent4→Bool} {W:Wd} (h: ∀c,c<W.nTlbs→ ∀k,k<W.tlbsN c→p (W.tlbs c k)=false): ∀c,c<W.nTlbs→fgN p W c=W.tlbsN c∧ ∀a,a<W.tlbsN c→((((fgT p W c a).sp=(W.tlbs c a).sp∧(fgT p W c a).pg=(W.tlbs c a).pg)∧(fgT p W c a).fr=(W.tlbs c a).fr)∧(fgT p W c a).wr=(W.tlbs c a).wr):=by
  intro c hc
  obtain ⟨h1,h2⟩:=fg_none (h c hc)
  exact ⟨h1,fun a ha=>by rw [h2 a ha];exact ent4 rfl⟩
theorem TlR.kz {W:Wd} (h:JJ W) (f:Int) {g:Nat→Run}:TlR {W with kinds:=updF W.kinds f.toNat 0,tasks:=g}:=⟨⟨h.w.i.z.k0,h.w.i.z.k1,h.w.i.z.c0,h.w.i.z.c1,h.w.i.z.ram,h.w.i.z.slots,h.w.i.z.tasks,h.w.i.z.lines,h.w.i.z.bits,h.w.i.z.ready,h.w.i.z.tlbs,h.w.i.z.d0,h.w.i.z.d1,h.w.i.z.t0,h.w.i.z.t1⟩,h.w.i.ram,h.w.i.tl,h.w.pg⟩
structure X_gone0 where
  (f:Int) (W:Wd)
def s_gone0 (N_:Nat):Sy.Spec:=⟨X_gone0,fun ⟨f,_⟩=> [.ptr 0 0 none 0 0,.v (.int .i64 f)],fun ⟨_,W⟩=>wMem W,fun ⟨f,W⟩=>JJ W∧cntF W≤N_∧0≤f∧f<W.nKinds∧W.kinds f.toNat=0,fun _=> .tp 0 (lsv []),fun ⟨f,W⟩=>wMem (bur (N_+1) W f),
  fun args mem=>match args with| [a0,a1]=>some ⟨intD (a1),wMJD mem 0⟩|_=>none⟩
def V_gone0 (N_:Nat):X_gone0→Prop:=fun ⟨f,W⟩=>let a0:=0≤f∧f<((W.nKinds:Nat):Int);let b0:=SV.ptr 0 0 none 0 0=SV.ptr 0 0 none 0 0;let c0:=updF W.kinds (Int.toNat f) 0;let d0:={W with kinds:=c0};let e0:=wEq d0 d0 True;let g0:=W.nTasks;let h0:=(g0:Int);let k0:=wrK W.nRam W.ram 0 f;a0∧(a0∧(∀l0:Nat,false=false)∧b0∧W.kinds (0+Int.toNat f)=0∧wEq {W with kinds:=fun o0:Nat=>cond (Nat.beq o0 (0+Int.toNat f)) 0 (W.kinds o0)} d0 True∧True)∧(∀q0:Nat,True→b0∧0=((0:Nat):Int)∧e0∧0≤g0∧(∀r0:Nat,let u0:=(r0:Int);let v0:=decide (u0<h0);let w0:=0≤u0∧u0<h0;let x0:Int:=u0+1;r0≤g0→h0≤9223372036854775807→(v0=true→(((0:Int)==4)=true→w0)∧(((0:Int)==5)=true→w0)∧(((0:Int)==7)=true→w0)∧w64 x0=x0∧(∃y0:Nat,b0∧x0=(y0:Int)∧e0∧y0≤g0∧g0-y0<g0-r0))∧(v0=false→((b0∧(0:Int)=0∧f=f∧True)∧e0∧s_forgetR.match_1 (fun z0:X_forgetR=>Prop) (X_forgetR.mk 0 f (kz W f)) (fun a1:Int=>fun b1:Int=>fun c1:Wd=>TlR c1))∧True∧wEq {W with kinds:=c0,tlbsN:=fgN k0 (kz W f),tlbs:=fgT k0 (kz W f)} (bur (N_+1) W f) True)))
set_option maxHeartbeats 1000000 in
theorem fc_gone0 (N_:Nat) (h_:FnOK Tryz.prog glN 65 (c_dropR N_)): ∀x,(s_gone0 N_).pre x→FnC Tryz.prog glN 125 ((s_gone0 N_).args x) ((s_gone0 N_).mem x) ((s_gone0 N_).res x) ((s_gone0 N_).mem' x):=fun x hp=>fn_of (.cons ok_stopped (.cons ok_blank (.cons ok_forgetR (.cons h_ .nil)))) false Tryz.func125 ((fun ⟨f,W⟩=> [.decs [3,11,13,15,18,23,29],.cut 2 (cutG W f 0 4),.inv (an_un (kz W f) f [(0,pt0 0)] 5),.inv (an_no W.nTasks [(0,pt0 0)] 6),.inv (an_nd (dropBy (bur N_)) W f [(0,pt0 0)] 7),.inv (an_dr 0 W f [(0,pt0 0)] 9)]) x) (V:=V_gone0 N_ x) (by kernel_rfl)<|(fun ⟨f,W⟩ hp=>by
  dsimp only [s_gone0] at hp
  dsimp only [V_gone0,tn,w64,wEq,rEq,sEq,eEq]
  simp only [std,stb,eq_self,implies_true,Bool.cond_self]
  try simp only [wd_eta]
  obtain ⟨hJ,hn,f0,f1,hk⟩:=hp
  have z:=hJ.w.i.z
  have z1:=z.ram
  have z2:=z.slots
  have z3:=z.tasks
  have z4:=z.k1
  have z5:=z.lines
  have z6:=z.bits
  refine ⟨⟨f0,f1⟩,⟨⟨f0,f1⟩,hk,fun _ _=>rfl⟩,fun _ _=>?_⟩
  refine fun q hq _=>⟨fun h=>⟨fun h=>absurd h (by decide),fun h=>absurd h (by decide),fun h=>absurd h (by decide),wr_in (by have:=lt_of_dec h;omega) (by have:=lt_of_dec h;omega),q+1,by omega,by have:=lt_of_dec h;omega,by have:=lt_of_dec h;omega⟩,fun _=>?_⟩
  have e:bur (N_+1) W f=kz W f:=gone_no (.inl hk)
  simp only [e,wrK_ne (k:=0) (by decide)]
  refine ⟨TlR.kz hJ f,?_⟩
  have hf:=fg_no7 (p:=wrB W.nRam W.ram) (W:=kz W f) hJ.t
  repeat' (first|exact trivial|exact run20 rfl|exact slt7 rfl|exact ent4 rfl|exact hf|rfl|refine And.intro ?_ ?_|intro _)
  : ∀x,(s_gone0 N_).pre x→V_gone0 N_ x) x hp
structure X_gone1 where
  (f:Int) (W:Wd)
def s_gone1 (N_:Nat):Sy.Spec:=⟨X_gone1,fun ⟨f,_⟩=> [.ptr 0 0 none 0 0,.v (.int .i64 f)],fun ⟨_,W⟩=>wMem W,fun ⟨f,W⟩=>JJ W∧cntF W≤N_∧0≤f∧f<W.nKinds∧W.kinds f.toNat=1,fun _=> .tp 0 (lsv []),fun ⟨f,W⟩=>wMem (bur (N_+1) W f),
  fun args mem=>match args with| [a0,a1]=>some ⟨intD (a1),wMJD mem 0⟩|_=>none⟩
def V_gone1 (N_:Nat):X_gone1→Prop:=fun ⟨f,W⟩=>let a0:=0≤f∧f<((W.nKinds:Nat):Int);let b0:=SV.ptr 0 0 none 0 0=SV.ptr 0 0 none 0 0;let c0:=updF W.kinds (Int.toNat f) 0;let d0:={W with kinds:=c0};let e0:=wEq d0 d0 True;let g0:=W.nTasks;let h0:=(g0:Int);let k0:=wrK W.nRam W.ram 1 f;a0∧(a0∧(∀l0:Nat,false=false)∧b0∧W.kinds (0+Int.toNat f)=1∧wEq {W with kinds:=fun o0:Nat=>cond (Nat.beq o0 (0+Int.toNat f)) 0 (W.kinds o0)} d0 True∧True)∧(∀q0:Nat,True→b0∧0=((0:Nat):Int)∧e0∧0≤g0∧(∀r0:Nat,let u0:=(r0:Int);let v0:=decide (u0<h0);let w0:=0≤u0∧u0<h0;let x0:Int:=u0+1;r0≤g0→h0≤9223372036854775807→(v0=true→(((1:Int)==4)=true→w0)∧(((1:Int)==5)=true→w0)∧(((1:Int)==7)=true→w0)∧w64 x0=x0∧(∃y0:Nat,b0∧x0=(y0:Int)∧e0∧y0≤g0∧g0-y0<g0-r0))∧(v0=false→((b0∧(1:Int)=1∧f=f∧True)∧e0∧s_forgetR.match_1 (fun z0:X_forgetR=>Prop) (X_forgetR.mk 1 f (kz W f)) (fun a1:Int=>fun b1:Int=>fun c1:Wd=>TlR c1))∧True∧wEq {W with kinds:=c0,tlbsN:=fgN k0 (kz W f),tlbs:=fgT k0 (kz W f)} (bur (N_+1) W f) True)))
set_option maxHeartbeats 1000000 in
theorem fc_gone1 (N_:Nat) (h_:FnOK Tryz.prog glN 65 (c_dropR N_)): ∀x,(s_gone1 N_).pre x→FnC Tryz.prog glN 125 ((s_gone1 N_).args x) ((s_gone1 N_).mem x) ((s_gone1 N_).res x) ((s_gone1 N_).mem' x):=fun x hp=>fn_of (.cons ok_stopped (.cons ok_blank (.cons ok_forgetR (.cons h_ .nil)))) false Tryz.func125 ((fun ⟨f,W⟩=> [.decs [3,11,13,15,18,23,29],.cut 2 (cutG W f 1 4),.inv (an_un (kz W f) f [(0,pt0 0)] 5),.inv (an_no W.nTasks [(0,pt0 0)] 6),.inv (an_nd (dropBy (bur N_)) W f [(0,pt0 0)] 7),.inv (an_dr 1 W f [(0,pt0 0)] 9)]) x) (V:=V_gone1 N_ x) (by kernel_rfl)<|(fun ⟨f,W⟩ hp=>by
  dsimp only [s_gone1] at hp
  dsimp only [V_gone1,tn,w64,wEq,rEq,sEq,eEq]
  simp only [std,stb,eq_self,implies_true,Bool.cond_self]
  try simp only [wd_eta]
  obtain ⟨hJ,hn,f0,f1,hk⟩:=hp
  have z:=hJ.w.i.z
  have z1:=z.ram
  have z2:=z.slots
  have z3:=z.tasks
  have z4:=z.k1
  have z5:=z.lines
  have z6:=z.bits
  refine ⟨⟨f0,f1⟩,⟨⟨f0,f1⟩,hk,fun _ _=>rfl⟩,fun _ _=>?_⟩
  refine fun q hq _=>⟨fun h=>⟨fun h=>absurd h (by decide),fun h=>absurd h (by decide),fun h=>absurd h (by decide),wr_in (by have:=lt_of_dec h;omega) (by have:=lt_of_dec h;omega),q+1,by omega,by have:=lt_of_dec h;omega,by have:=lt_of_dec h;omega⟩,fun _=>?_⟩
  have e:bur (N_+1) W f=kz W f:=gone_no (.inr hk)
  simp only [e,wrK_ne (k:=1) (by decide)]
  refine ⟨TlR.kz hJ f,?_⟩
  have hf:=fg_no7 (p:=wrB W.nRam W.ram) (W:=kz W f) hJ.t
  repeat' (first|exact trivial|exact run20 rfl|exact slt7 rfl|exact ent4 rfl|exact hf|rfl|refine And.intro ?_ ?_|intro _)
  : ∀x,(s_gone1 N_).pre x→V_gone1 N_ x) x hp
structure X_gone2 where
  (f:Int) (W:Wd)
def s_gone2 (N_:Nat):Sy.Spec:=⟨X_gone2,fun ⟨f,_⟩=> [.ptr 0 0 none 0 0,.v (.int .i64 f)],fun ⟨_,W⟩=>wMem W,fun ⟨f,W⟩=>JJ W∧cntF W≤N_∧0≤f∧f<W.nKinds∧W.kinds f.toNat=2,fun _=> .tp 0 (lsv []),fun ⟨f,W⟩=>wMem (bur (N_+1) W f),
  fun args mem=>match args with| [a0,a1]=>some ⟨intD (a1),wMJD mem 0⟩|_=>none⟩
def V_gone2 (N_:Nat):X_gone2→Prop:=fun ⟨f,W⟩=>let a0:=((W.nKinds:Nat):Int);let b0:=0≤f∧f<a0;let c0:=SV.ptr 0 0 none 0 0=SV.ptr 0 0 none 0 0;let d0:=Int.toNat f;let e0:=W.kinds;let g0:=updF e0 d0 0;let h0:={W with kinds:=g0};let k0:=kz W f;let l0:=W.nRam;let o0:=(l0:Int);let q0:=W.nTasks;let r0:=(q0:Int);b0∧(b0∧(∀u0:Nat,false=false)∧c0∧e0 (0+d0)=2∧wEq {W with kinds:=fun v0:Nat=>cond (Nat.beq v0 (0+d0)) 0 (e0 v0)} h0 True∧True)∧(∀w0:Nat,True→c0∧0=((0:Nat):Int)∧wEq h0 {W with ram:=un1 k0 f 0,kinds:=g0} True∧0≤l0∧(∀x0:Nat,let y0:=(x0:Int);let z0:=decide (y0<o0);let a1:Int:=y0/16;let b1:=0≤y0∧(0:Int)<16∧w64 a1=a1;let c1:=0≤a1∧a1<a0;let d1:Int:=g0 (0+Int.toNat a1);let e1:=d1==3;let g1:=e1=false;let h1:=cond e1 true (d1==4);let k1:=0≤y0∧y0<o0;let l1:=0+Int.toNat y0;let o1:=un1 k0 f x0 l1;let q1:=cond h1 (o1 !=0) false;let r1:=q1=true;let u1:=cond q1 (o1%1024==f) false;let v1:Int:=y0+1;let w1:=w64 v1=v1;let x1:=un1 k0 f x0;let y1:={W with ram:=x1,kinds:=g0};let z1:=wEq y1 y1 True;let a2:=wrK l0 x1 2 f;x0≤l0→o0≤9223372036854775807→(z0=true→b1∧c1∧(g1→b1)∧(g1→c1)∧(h1=true→k1)∧(r1→k1)∧(r1→0≤o1∧(0:Int)<1024)∧(u1=true→k1∧(∀b2:Nat,false=false)∧w1∧(∃c2:Nat,c0∧v1=(c2:Int)∧wEq {W with ram:=fun d2:Nat=>cond (Nat.beq d2 l1) 0 (x1 d2),kinds:=g0} {W with ram:=un1 k0 f c2,kinds:=g0} True∧c2≤l0∧l0-c2<l0-x0))∧(u1=false→w1∧(∃e2:Nat,c0∧v1=(e2:Int)∧wEq y1 {W with ram:=un1 k0 f e2,kinds:=g0} True∧e2≤l0∧l0-e2<l0-x0)))∧(z0=false→c0∧0=((0:Nat):Int)∧z1∧0≤q0∧(∀g2:Nat,let h2:=(g2:Int);let k2:=decide (h2<r0);let l2:=0≤h2∧h2<r0;let o2:Int:=h2+1;g2≤q0→
    r0≤9223372036854775807→(k2=true→(((2:Int)==4)=true→l2)∧(((2:Int)==5)=true→l2)∧(((2:Int)==7)=true→l2)∧w64 o2=o2∧(∃q2:Nat,c0∧o2=(q2:Int)∧z1∧q2≤q0∧q0-q2<q0-g2))∧(k2=false→((c0∧(2:Int)=2∧f=f∧True)∧z1∧s_forgetR.match_1 (fun r2:X_forgetR=>Prop) (X_forgetR.mk 2 f y1) (fun u2:Int=>fun v2:Int=>fun w2:Wd=>TlR w2))∧True∧wEq {W with ram:=x1,kinds:=g0,tlbsN:=fgN a2 y1,tlbs:=fgT a2 y1} (bur (N_+1) W f) True)))))
set_option maxHeartbeats 1000000 in
theorem fc_gone2 (N_:Nat) (h_:FnOK Tryz.prog glN 65 (c_dropR N_)): ∀x,(s_gone2 N_).pre x→FnC Tryz.prog glN 125 ((s_gone2 N_).args x) ((s_gone2 N_).mem x) ((s_gone2 N_).res x) ((s_gone2 N_).mem' x):=fun x hp=>fn_of (.cons ok_stopped (.cons ok_blank (.cons ok_forgetR (.cons h_ .nil)))) false Tryz.func125 ((fun ⟨f,W⟩=> [.decs [3,11,13,15,18,23,29],.cut 2 (cutG W f 2 4),.inv (an_un (kz W f) f [(0,pt0 0)] 5),.inv (an_no W.nTasks [(0,pt0 0)] 6),.inv (an_nd (dropBy (bur N_)) W f [(0,pt0 0)] 7),.inv (an_dr 2 W f [(0,pt0 0)] 9)]) x) (V:=V_gone2 N_ x) (by kernel_rfl)<|(fun ⟨f,W⟩ hp=>by
  dsimp only [s_gone2] at hp
  dsimp only [V_gone2,tn,w64,wEq,rEq,sEq,eEq]
  simp only [std,stb,eq_self,implies_true,Bool.cond_self]
  try simp only [wd_eta]
  obtain ⟨hJ,hn,f0,f1,hk⟩:=hp
  have z:=hJ.w.i.z
  have z1:=z.ram
  have z2:=z.slots
  have z3:=z.tasks
  have z4:=z.k1
  have z5:=z.lines
  have z6:=z.bits
  refine ⟨⟨f0,f1⟩,⟨⟨f0,f1⟩,hk,fun _ _=>rfl⟩,fun _ _=>?_⟩
  refine ⟨fun q _=>(un1_ge (W:=kz W f) (f:=f) (Nat.zero_le _)).symm,fun s hs _=>⟨fun h=>?_,fun h=>?_⟩⟩
  · have hlt:=lt_of_dec h
    have hw:isW (W.ram s):=hJ.w.i.ram s (by omega)
    have ek:((s:Int)/16).toNat=s/16:=by omega
    have er:un1 (kz W f) f s s=W.ram s:=un1_ge (Nat.le_refl _)
    rw [er,ek]
    refine ⟨⟨by decide,wr_in (by omega) (by omega)⟩,⟨by omega,by omega⟩,fun _=>⟨by decide,wr_in (by omega) (by omega)⟩,fun _=>⟨by omega,by omega⟩,fun _=>by omega,fun _=>by omega,fun _=>⟨hw.1,by decide⟩,fun h1=>⟨by omega,wr_in (by omega) (by omega),s+1,by omega,fun q _=>?_,by omega,by omega⟩,fun h1=>⟨wr_in (by omega) (by omega),s+1,by omega,fun q _=>?_,by omega,by omega⟩⟩
    · rcases Nat.lt_trichotomy q s with e|e|e
      · rw [beq_ne (by omega),un1_lt e,un1_lt (by omega:q<s+1)];rfl
      · subst e;rw [Nat.beq_refl,un1_lt (Nat.lt_succ_self _)];unfold unR;rw [blt_t (show q<(kz W f).nRam from hlt)];show _=(bif true&&(_&&_&&_) then _ else _);rw [show ((kz W f).kinds (q/16)==3||(kz W f).kinds (q/16)==4)=(updF W.kinds f.toNat 0 (q/16)==3||updF W.kinds f.toNat 0 (q/16)==4) from rfl,show (kz W f).ram q=W.ram q from rfl,h1];rfl
      · rw [beq_ne (by omega),un1_ge (by omega:s≤q),un1_ge (by omega:s+1≤q)];rfl
    · rcases Nat.lt_trichotomy q s with e|e|e
      · rw [un1_lt e,un1_lt (by omega:q<s+1)]
      · subst e;rw [er,un1_lt (Nat.lt_succ_self _)];unfold unR;rw [blt_t (show q<(kz W f).nRam from hlt)];show _=(bif true&&(_&&_&&_) then _ else _);rw [show ((kz W f).kinds (q/16)==3||(kz W f).kinds (q/16)==4)=(updF W.kinds f.toNat 0 (q/16)==3||updF W.kinds f.toNat 0 (q/16)==4) from rfl,show (kz W f).ram q=W.ram q from rfl,h1];rfl
      · rw [un1_ge (by omega:s≤q),un1_ge (by omega:s+1≤q)]
  have hge:=ge_of_dec h
  obtain rfl:s=W.nRam:=by omega
  refine fun q hq _=>⟨fun h=>⟨fun h=>absurd h (by decide),fun h=>absurd h (by decide),fun h=>absurd h (by decide),wr_in (by have:=lt_of_dec h;omega) (by have:=lt_of_dec h;omega),q+1,by omega,by have:=lt_of_dec h;omega,by have:=lt_of_dec h;omega⟩,fun _=>?_⟩
  have eu:un1 (kz W f) f W.nRam=unR (kz W f) f:=un1_all (W:=kz W f)
  have e:bur (N_+1) W f=pgW W f:=gone_pg (.inl hk)
  simp only [eu,e,wrK_ne (k:=2) (by decide)]
  refine ⟨⟨⟨z.k0,z.k1,z.c0,z.c1,z.ram,z.slots,z.tasks,z.lines,z.bits,z.ready,z.tlbs,z.d0,z.d1,z.t0,z.t1⟩,fun i hi=>unR_is (W:=kz W f) (hJ.w.i.ram i hi),hJ.w.i.tl,hJ.w.pg⟩,?_⟩
  repeat' (first|exact trivial|exact run20 rfl|exact slt7 rfl|exact ent4 rfl|rfl|refine And.intro ?_ ?_|intro _)
  : ∀x,(s_gone2 N_).pre x→V_gone2 N_ x) x hp
structure X_gone3 where
  (f:Int) (W:Wd)
def s_gone3 (N_:Nat):Sy.Spec:=⟨X_gone3,fun ⟨f,_⟩=> [.ptr 0 0 none 0 0,.v (.int .i64 f)],fun ⟨_,W⟩=>wMem W,fun ⟨f,W⟩=>JJ W∧cntF W≤N_∧0≤f∧f<W.nKinds∧W.kinds f.toNat=3,fun _=> .tp 0 (lsv []),fun ⟨f,W⟩=>wMem (bur (N_+1) W f),
  fun args mem=>match args with| [a0,a1]=>some ⟨intD (a1),wMJD mem 0⟩|_=>none⟩
def V_gone3 (N_:Nat):X_gone3→Prop:=fun ⟨f,W⟩=>let a0:=((W.nKinds:Nat):Int);let b0:=0≤f∧f<a0;let c0:=SV.ptr 0 0 none 0 0=SV.ptr 0 0 none 0 0;let d0:=Int.toNat f;let e0:=W.kinds;let g0:=updF e0 d0 0;let h0:={W with kinds:=g0};let k0:=kz W f;let l0:=W.nRam;let o0:=(l0:Int);let q0:=W.nTasks;let r0:=(q0:Int);b0∧(b0∧(∀u0:Nat,false=false)∧c0∧e0 (0+d0)=3∧wEq {W with kinds:=fun v0:Nat=>cond (Nat.beq v0 (0+d0)) 0 (e0 v0)} h0 True∧True)∧(∀w0:Nat,True→c0∧0=((0:Nat):Int)∧wEq h0 {W with ram:=un1 k0 f 0,kinds:=g0} True∧0≤l0∧(∀x0:Nat,let y0:=(x0:Int);let z0:=decide (y0<o0);let a1:Int:=y0/16;let b1:=0≤y0∧(0:Int)<16∧w64 a1=a1;let c1:=0≤a1∧a1<a0;let d1:Int:=g0 (0+Int.toNat a1);let e1:=d1==3;let g1:=e1=false;let h1:=cond e1 true (d1==4);let k1:=0≤y0∧y0<o0;let l1:=0+Int.toNat y0;let o1:=un1 k0 f x0 l1;let q1:=cond h1 (o1 !=0) false;let r1:=q1=true;let u1:=cond q1 (o1%1024==f) false;let v1:Int:=y0+1;let w1:=w64 v1=v1;let x1:=un1 k0 f x0;let y1:={W with ram:=x1,kinds:=g0};let z1:=wEq y1 y1 True;let a2:=wrK l0 x1 3 f;x0≤l0→o0≤9223372036854775807→(z0=true→b1∧c1∧(g1→b1)∧(g1→c1)∧(h1=true→k1)∧(r1→k1)∧(r1→0≤o1∧(0:Int)<1024)∧(u1=true→k1∧(∀b2:Nat,false=false)∧w1∧(∃c2:Nat,c0∧v1=(c2:Int)∧wEq {W with ram:=fun d2:Nat=>cond (Nat.beq d2 l1) 0 (x1 d2),kinds:=g0} {W with ram:=un1 k0 f c2,kinds:=g0} True∧c2≤l0∧l0-c2<l0-x0))∧(u1=false→w1∧(∃e2:Nat,c0∧v1=(e2:Int)∧wEq y1 {W with ram:=un1 k0 f e2,kinds:=g0} True∧e2≤l0∧l0-e2<l0-x0)))∧(z0=false→c0∧0=((0:Nat):Int)∧z1∧0≤q0∧(∀g2:Nat,let h2:=(g2:Int);let k2:=decide (h2<r0);let l2:=0≤h2∧h2<r0;let o2:Int:=h2+1;g2≤q0→
    r0≤9223372036854775807→(k2=true→(((3:Int)==4)=true→l2)∧(((3:Int)==5)=true→l2)∧(((3:Int)==7)=true→l2)∧w64 o2=o2∧(∃q2:Nat,c0∧o2=(q2:Int)∧z1∧q2≤q0∧q0-q2<q0-g2))∧(k2=false→((c0∧(3:Int)=3∧f=f∧True)∧z1∧s_forgetR.match_1 (fun r2:X_forgetR=>Prop) (X_forgetR.mk 3 f y1) (fun u2:Int=>fun v2:Int=>fun w2:Wd=>TlR w2))∧True∧wEq {W with ram:=x1,kinds:=g0,tlbsN:=fgN a2 y1,tlbs:=fgT a2 y1} (bur (N_+1) W f) True)))))
set_option maxHeartbeats 1000000 in
theorem fc_gone3 (N_:Nat) (h_:FnOK Tryz.prog glN 65 (c_dropR N_)): ∀x,(s_gone3 N_).pre x→FnC Tryz.prog glN 125 ((s_gone3 N_).args x) ((s_gone3 N_).mem x) ((s_gone3 N_).res x) ((s_gone3 N_).mem' x):=fun x hp=>fn_of (.cons ok_stopped (.cons ok_blank (.cons ok_forgetR (.cons h_ .nil)))) false Tryz.func125 ((fun ⟨f,W⟩=> [.decs [3,11,13,15,18,23,29],.cut 2 (cutG W f 3 4),.inv (an_un (kz W f) f [(0,pt0 0)] 5),.inv (an_no W.nTasks [(0,pt0 0)] 6),.inv (an_nd (dropBy (bur N_)) W f [(0,pt0 0)] 7),.inv (an_dr 3 W f [(0,pt0 0)] 9)]) x) (V:=V_gone3 N_ x) (by kernel_rfl)<|(fun ⟨f,W⟩ hp=>by
  dsimp only [s_gone3] at hp
  dsimp only [V_gone3,tn,w64,wEq,rEq,sEq,eEq]
  simp only [std,stb,eq_self,implies_true,Bool.cond_self]
  try simp only [wd_eta]
  obtain ⟨hJ,hn,f0,f1,hk⟩:=hp
  have z:=hJ.w.i.z
  have z1:=z.ram
  have z2:=z.slots
  have z3:=z.tasks
  have z4:=z.k1
  have z5:=z.lines
  have z6:=z.bits
  refine ⟨⟨f0,f1⟩,⟨⟨f0,f1⟩,hk,fun _ _=>rfl⟩,fun _ _=>?_⟩
  refine ⟨fun q _=>(un1_ge (W:=kz W f) (f:=f) (Nat.zero_le _)).symm,fun s hs _=>⟨fun h=>?_,fun h=>?_⟩⟩
  · have hlt:=lt_of_dec h
    have hw:isW (W.ram s):=hJ.w.i.ram s (by omega)
    have ek:((s:Int)/16).toNat=s/16:=by omega
    have er:un1 (kz W f) f s s=W.ram s:=un1_ge (Nat.le_refl _)
    rw [er,ek]
    refine ⟨⟨by decide,wr_in (by omega) (by omega)⟩,⟨by omega,by omega⟩,fun _=>⟨by decide,wr_in (by omega) (by omega)⟩,fun _=>⟨by omega,by omega⟩,fun _=>by omega,fun _=>by omega,fun _=>⟨hw.1,by decide⟩,fun h1=>⟨by omega,wr_in (by omega) (by omega),s+1,by omega,fun q _=>?_,by omega,by omega⟩,fun h1=>⟨wr_in (by omega) (by omega),s+1,by omega,fun q _=>?_,by omega,by omega⟩⟩
    · rcases Nat.lt_trichotomy q s with e|e|e
      · rw [beq_ne (by omega),un1_lt e,un1_lt (by omega:q<s+1)];rfl
      · subst e;rw [Nat.beq_refl,un1_lt (Nat.lt_succ_self _)];unfold unR;rw [blt_t (show q<(kz W f).nRam from hlt)];show _=(bif true&&(_&&_&&_) then _ else _);rw [show ((kz W f).kinds (q/16)==3||(kz W f).kinds (q/16)==4)=(updF W.kinds f.toNat 0 (q/16)==3||updF W.kinds f.toNat 0 (q/16)==4) from rfl,show (kz W f).ram q=W.ram q from rfl,h1];rfl
      · rw [beq_ne (by omega),un1_ge (by omega:s≤q),un1_ge (by omega:s+1≤q)];rfl
    · rcases Nat.lt_trichotomy q s with e|e|e
      · rw [un1_lt e,un1_lt (by omega:q<s+1)]
      · subst e;rw [er,un1_lt (Nat.lt_succ_self _)];unfold unR;rw [blt_t (show q<(kz W f).nRam from hlt)];show _=(bif true&&(_&&_&&_) then _ else _);rw [show ((kz W f).kinds (q/16)==3||(kz W f).kinds (q/16)==4)=(updF W.kinds f.toNat 0 (q/16)==3||updF W.kinds f.toNat 0 (q/16)==4) from rfl,show (kz W f).ram q=W.ram q from rfl,h1];rfl
      · rw [un1_ge (by omega:s≤q),un1_ge (by omega:s+1≤q)]
  have hge:=ge_of_dec h
  obtain rfl:s=W.nRam:=by omega
  refine fun q hq _=>⟨fun h=>⟨fun h=>absurd h (by decide),fun h=>absurd h (by decide),fun h=>absurd h (by decide),wr_in (by have:=lt_of_dec h;omega) (by have:=lt_of_dec h;omega),q+1,by omega,by have:=lt_of_dec h;omega,by have:=lt_of_dec h;omega⟩,fun _=>?_⟩
  have eu:un1 (kz W f) f W.nRam=unR (kz W f) f:=un1_all (W:=kz W f)
  have e:bur (N_+1) W f=pgW W f:=gone_pg (.inr hk)
  simp only [eu,e,wrK_ne (k:=3) (by decide)]
  refine ⟨⟨⟨z.k0,z.k1,z.c0,z.c1,z.ram,z.slots,z.tasks,z.lines,z.bits,z.ready,z.tlbs,z.d0,z.d1,z.t0,z.t1⟩,fun i hi=>unR_is (W:=kz W f) (hJ.w.i.ram i hi),hJ.w.i.tl,hJ.w.pg⟩,?_⟩
  repeat' (first|exact trivial|exact run20 rfl|exact slt7 rfl|exact ent4 rfl|rfl|refine And.intro ?_ ?_|intro _)
  : ∀x,(s_gone3 N_).pre x→V_gone3 N_ x) x hp
structure X_gone4 where
  (f:Int) (W:Wd)
def s_gone4 (N_:Nat):Sy.Spec:=⟨X_gone4,fun ⟨f,_⟩=> [.ptr 0 0 none 0 0,.v (.int .i64 f)],fun ⟨_,W⟩=>wMem W,fun ⟨f,W⟩=>JJ W∧cntF W≤N_∧0≤f∧f<W.nKinds∧W.kinds f.toNat=4,fun _=> .tp 0 (lsv []),fun ⟨f,W⟩=>wMem (bur (N_+1) W f),
  fun args mem=>match args with| [a0,a1]=>some ⟨intD (a1),wMJD mem 0⟩|_=>none⟩
def V_gone4 (N_:Nat):X_gone4→Prop:=fun ⟨f,W⟩=>let a0:=0≤f∧f<((W.nKinds:Nat):Int);let b0:=SV.ptr 0 0 none 0 0=SV.ptr 0 0 none 0 0;let c0:=updF W.kinds (Int.toNat f) 0;let d0:={W with kinds:=c0};let e0:=W.nTasks;let g0:=(e0:Int);let h0:=(4:Int)==4;let k0:=((4:Int)==5)=true;let l0:=((4:Int)==7)=true;let o0:=wrK W.nRam W.ram 4 f;a0∧(a0∧(∀q0:Nat,false=false)∧b0∧W.kinds (0+Int.toNat f)=4∧wEq {W with kinds:=fun u0:Nat=>cond (Nat.beq u0 (0+Int.toNat f)) 0 (W.kinds u0)} d0 True∧True)∧(∀v0:Nat,True→b0∧0=((0:Nat):Int)∧wEq d0 {W with kinds:=c0,tasks:=mixK 4 W f 0} True∧0≤e0∧(∀w0:Nat,let x0:=(w0:Int);let y0:=decide (x0<g0);let z0:=0≤x0∧x0<g0;let a1:=0+Int.toNat x0;let b1:=cond h0 ((mixK 4 W f w0 a1).space==f) false;let c1:Int:=x0+1;let d1:=w64 c1=c1;let e1:=mixK 4 W f w0;let g1:={W with kinds:=c0,tasks:=e1};w0≤e0→g0≤9223372036854775807→(y0=true→(h0=true→z0)∧(b1=true→z0∧(∀h1:Nat,false=false)∧(k0→z0)∧(l0→z0)∧d1∧(∃k1:Nat,b0∧c1=(k1:Int)∧wEq {W with kinds:=c0,tasks:=fun l1:Nat=>{e1 l1 with space:=cond (Nat.beq l1 a1) (-1) (e1 l1).space}} {W with kinds:=c0,tasks:=mixK 4 W f k1} True∧k1≤e0∧e0-k1<e0-w0))∧(b1=false→(k0→z0)∧(l0→z0)∧d1∧(∃o1:Nat,b0∧c1=(o1:Int)∧wEq g1 {W with kinds:=c0,tasks:=mixK 4 W f o1} True∧o1≤e0∧e0-o1<e0-w0)))∧(y0=false→((b0∧(4:Int)=4∧f=f∧True)∧wEq g1 g1 True∧s_forgetR.match_1 (fun q1:X_forgetR=>Prop) (X_forgetR.mk 4 f g1) (fun u1:Int=>fun v1:Int=>fun w1:Wd=>TlR w1))∧True∧wEq {W with kinds:=c0,tasks:=e1,tlbsN:=fgN o0 g1,tlbs:=fgT o0 g1} (bur (N_+1) W f) True)))
set_option maxHeartbeats 1000000 in
theorem fc_gone4 (N_:Nat) (h_:FnOK Tryz.prog glN 65 (c_dropR N_)): ∀x,(s_gone4 N_).pre x→FnC Tryz.prog glN 125 ((s_gone4 N_).args x) ((s_gone4 N_).mem x) ((s_gone4 N_).res x) ((s_gone4 N_).mem' x):=fun x hp=>fn_of (.cons ok_stopped (.cons ok_blank (.cons ok_forgetR (.cons h_ .nil)))) false Tryz.func125 ((fun ⟨f,W⟩=> [.decs [3,13,15,18,23,29],.cut 2 (cutG W f 4 4),.inv (an_un (kz W f) f [(0,pt0 0)] 5),.inv (an_tk 4 W f [(0,pt0 0)] 6),.inv (an_nd (dropBy (bur N_)) W f [(0,pt0 0)] 7),.inv (an_dr 4 W f [(0,pt0 0)] 9)]) x) (V:=V_gone4 N_ x) (by kernel_rfl)<|(fun ⟨f,W⟩ hp=>by
  dsimp only [s_gone4] at hp
  dsimp only [V_gone4,tn,w64,wEq,rEq,sEq,eEq]
  simp only [std,stb,eq_self,implies_true,Bool.cond_self]
  try simp only [wd_eta]
  obtain ⟨hJ,hn,f0,f1,hk⟩:=hp
  have z:=hJ.w.i.z
  have z1:=z.ram
  have z2:=z.slots
  have z3:=z.tasks
  have z4:=z.k1
  have z5:=z.lines
  have z6:=z.bits
  refine ⟨⟨f0,f1⟩,⟨⟨f0,f1⟩,hk,fun _ _=>rfl⟩,fun _ _=>?_⟩
  refine ⟨fun q _=>run20 (mixK_ge (k:=4) (f:=f) (Nat.zero_le _)).symm,fun s hs _=>⟨fun h=>?_,fun h=>?_⟩⟩
  · have hlt:=lt_of_dec h
    rw [mixK_ge (Nat.le_refl _)]
    refine ⟨fun _=>by omega,fun h1=>⟨by omega,fun h=>absurd h (by decide),fun h=>absurd h (by decide),wr_in (by omega) (by omega),s+1,by omega,fun q _=>?_,by omega,by omega⟩,fun h1=>⟨fun h=>absurd h (by decide),fun h=>absurd h (by decide),wr_in (by omega) (by omega),s+1,by omega,fun q _=>?_,by omega,by omega⟩⟩
    · have h2:((W.tasks s).space==f)=true:=h1
      have e2:tkK 4 f (W.tasks s)={W.tasks s with space:= -1}:=by
        show ({W.tasks s with space:=bif (W.tasks s).space==f then -1 else (W.tasks s).space}:Run)=_
        rw [h2];rfl
      rcases Nat.lt_trichotomy q s with e|e|e
      · rw [beq_ne (by omega),mixK_lt e,mixK_lt (by omega:q<s+1)];exact run20 rfl
      · subst e
        rw [Nat.beq_refl,mixK_lt (Nat.lt_succ_self _),mixK_ge (Nat.le_refl _),e2]
        simp only [cond_true]
        repeat' (first|exact trivial|rfl|refine And.intro ?_ ?_)
      · rw [beq_ne (by omega),mixK_ge (by omega),mixK_ge (by omega:s+1≤q)];exact run20 rfl
    · have h2:((W.tasks s).space==f)=false:=h1
      have e2:tkK 4 f (W.tasks s)=W.tasks s:=by
        show ({W.tasks s with space:=bif (W.tasks s).space==f then -1 else (W.tasks s).space}:Run)=_
        rw [h2];rfl
      rcases Nat.lt_trichotomy q s with e|e|e
      · rw [mixK_lt e,mixK_lt (by omega:q<s+1)];exact run20 rfl
      · subst e;rw [mixK_ge (Nat.le_refl _),mixK_lt (Nat.lt_succ_self _),e2];exact run20 rfl
      · rw [mixK_ge (by omega),mixK_ge (by omega:s+1≤q)];exact run20 rfl
  have hge:=ge_of_dec h
  obtain rfl:s=W.nTasks:=by omega
  have e:bur (N_+1) W f=spW W f:=gone_sp hk
  simp only [e]
  have hf: ∀c,c<W.nTlbs→fgN (wrK W.nRam W.ram 4 f) W c=fgN (spB f) W c∧fgT (wrK W.nRam W.ram 4 f) W c=fgT (spB f) W c:=fun c hc=>fg_congr fun k hk=>by
    unfold wrK spB;rw [hJ.t c hc k hk];rfl
  refine ⟨⟨⟨z.k0,z.k1,z.c0,z.c1,z.ram,z.slots,z.tasks,z.lines,z.bits,z.ready,z.tlbs,z.d0,z.d1,z.t0,z.t1⟩,hJ.w.i.ram,hJ.w.i.tl,hJ.w.pg⟩,?_⟩
  repeat' (first|exact trivial|exact fun j hj=>run20 (mixK_lt hj)|exact fun c hc=>⟨(hf c hc).1,fun a _=>ent4 (congrFun (hf c hc).2 a)⟩|exact run20 rfl|exact slt7 rfl|exact ent4 rfl|rfl|refine And.intro ?_ ?_|intro _)
  : ∀x,(s_gone4 N_).pre x→V_gone4 N_ x) x hp
structure X_gone5 where
  (f:Int) (W:Wd)
def s_gone5 (N_:Nat):Sy.Spec:=⟨X_gone5,fun ⟨f,_⟩=> [.ptr 0 0 none 0 0,.v (.int .i64 f)],fun ⟨_,W⟩=>wMem W,fun ⟨f,W⟩=>JJ W∧cntF W≤N_∧0≤f∧f<W.nKinds∧W.kinds f.toNat=5,fun _=> .tp 0 (lsv []),fun ⟨f,W⟩=>wMem (bur (N_+1) W f),
  fun args mem=>match args with| [a0,a1]=>some ⟨intD (a1),wMJD mem 0⟩|_=>none⟩
def V_gone5 (N_:Nat):X_gone5→Prop:=fun ⟨f,W⟩=>let a0:=0≤f∧f<((W.nKinds:Nat):Int);let b0:=SV.ptr 0 0 none 0 0=SV.ptr 0 0 none 0 0;let c0:=updF W.kinds (Int.toNat f) 0;let d0:={W with kinds:=c0};let e0:=W.nTasks;let g0:=(e0:Int);let h0:=(5:Int)==5;let k0:=((5:Int)==7)=true;let l0:Int:=f*16;let o0:=dropBy (bur N_);a0∧(a0∧(∀q0:Nat,false=false)∧b0∧W.kinds (0+Int.toNat f)=5∧wEq {W with kinds:=fun u0:Nat=>cond (Nat.beq u0 (0+Int.toNat f)) 0 (W.kinds u0)} d0 True∧True)∧(∀v0:Nat,True→b0∧0=((0:Nat):Int)∧wEq d0 {W with kinds:=c0,tasks:=mixK 5 W f 0} True∧0≤e0∧(∀w0:Nat,let x0:=(w0:Int);let y0:=decide (x0<g0);let z0:=0≤x0∧x0<g0;let a1:=0+Int.toNat x0;let b1:=cond h0 ((mixK 5 W f w0 a1).node==f) false;let c1:Int:=x0+1;let d1:=w64 c1=c1;let e1:={W with kinds:=c0,tasks:=mixK 5 W f w0};w0≤e0→g0≤9223372036854775807→(y0=true→(((5:Int)==4)=true→z0)∧(h0=true→z0)∧(b1=true→z0∧(∀g1:Nat,false=false)∧(k0→z0)∧d1∧(∃h1:Nat,b0∧c1=(h1:Int)∧wEq {W with kinds:=c0,tasks:=fun k1:Nat=>let l1:=mixK 5 W f w0 k1;{l1 with node:=cond (Nat.beq k1 a1) (-1) l1.node}} {W with kinds:=c0,tasks:=mixK 5 W f h1} True∧h1≤e0∧e0-h1<e0-w0))∧(b1=false→(k0→z0)∧d1∧(∃o1:Nat,b0∧c1=(o1:Int)∧wEq e1 {W with kinds:=c0,tasks:=mixK 5 W f o1} True∧o1≤e0∧e0-o1<e0-w0)))∧(y0=false→b0∧15=15-((0:Nat):Int)∧wEq e1 {W with kinds:=c0,tasks:=fun q1:Nat=>let u1:=(W.tasks q1).node;{W.tasks q1 with node:=cond (u1==f) (-1) u1}} True∧0≤16∧(∀v1:Nat,let w1:Int:=15-(v1:Int);let x1:=decide (0≤w1);let y1:Int:=l0+w1;let z1:=ndK o0 W f v1;let a2:=wEq z1 z1 True;let b2:Int:=w1-1;
    let c2:=wrK z1.nRam z1.ram 5 f;v1≤16→(x1=true→w64 l0=l0∧w64 y1=y1∧((b0∧y1=y1∧True)∧a2∧JJ z1∧cntF z1≤N_)∧w64 b2=b2∧(∃d2:Nat,b0∧b2=15-(d2:Int)∧wEq (o0 z1 y1) (ndK o0 W f d2) True∧d2≤16∧16-d2<16-v1))∧(x1=false→((b0∧(5:Int)=5∧f=f∧True)∧a2∧s_forgetR.match_1 (fun e2:X_forgetR=>Prop) (X_forgetR.mk 5 f z1) (fun g2:Int=>fun h2:Int=>fun k2:Wd=>TlR k2))∧True∧wEq {z1 with tlbsN:=fgN c2 z1,tlbs:=fgT c2 z1} (bur (N_+1) W f) True)))))
set_option maxHeartbeats 1000000 in
theorem fc_gone5 (N_:Nat) (h_:FnOK Tryz.prog glN 65 (c_dropR N_)): ∀x,(s_gone5 N_).pre x→FnC Tryz.prog glN 125 ((s_gone5 N_).args x) ((s_gone5 N_).mem x) ((s_gone5 N_).res x) ((s_gone5 N_).mem' x):=fun x hp=>fn_of (.cons ok_stopped (.cons ok_blank (.cons ok_forgetR (.cons h_ .nil)))) false Tryz.func125 ((fun ⟨f,W⟩=> [.decs [3,11,15,18,23,29],.cut 2 (cutG W f 5 4),.inv (an_un (kz W f) f [(0,pt0 0)] 5),.inv (an_tk 5 W f [(0,pt0 0)] 6),.inv (an_nd (dropBy (bur N_)) W f [(0,pt0 0)] 7),.inv (an_dr 5 W f [(0,pt0 0)] 9)]) x) (V:=V_gone5 N_ x) (by kernel_rfl)<|(fun ⟨f,W⟩ hp=>by
  dsimp only [s_gone5] at hp
  dsimp only [V_gone5,tn,w64,wEq,rEq,sEq,eEq]
  simp only [std,stb,eq_self,implies_true,Bool.cond_self]
  try simp only [wd_eta]
  obtain ⟨hJ,hn,f0,f1,hk⟩:=hp
  have z:=hJ.w.i.z
  have z1:=z.ram
  have z2:=z.slots
  have z3:=z.tasks
  have z4:=z.k1
  have z5:=z.lines
  have z6:=z.bits
  refine ⟨⟨f0,f1⟩,⟨⟨f0,f1⟩,hk,fun _ _=>rfl⟩,fun _ _=>?_⟩
  refine ⟨fun q _=>run20 (mixK_ge (k:=5) (f:=f) (Nat.zero_le _)).symm,fun s hs _=>⟨fun h=>?_,fun h=>?_⟩⟩
  · have hlt:=lt_of_dec h
    rw [mixK_ge (Nat.le_refl _)]
    refine ⟨fun h=>absurd h (by decide),fun _=>by omega,fun h1=>⟨by omega,fun h=>absurd h (by decide),wr_in (by omega) (by omega),s+1,by omega,fun q _=>?_,by omega,by omega⟩,fun h1=>⟨fun h=>absurd h (by decide),wr_in (by omega) (by omega),s+1,by omega,fun q _=>?_,by omega,by omega⟩⟩
    · have h2:((W.tasks s).node==f)=true:=h1
      have e2:tkK 5 f (W.tasks s)={W.tasks s with node:= -1}:=by
        show ({W.tasks s with node:=bif (W.tasks s).node==f then -1 else (W.tasks s).node}:Run)=_
        rw [h2];rfl
      rcases Nat.lt_trichotomy q s with e|e|e
      · rw [beq_ne (by omega),mixK_lt e,mixK_lt (by omega:q<s+1)];exact run20 rfl
      · subst e
        rw [Nat.beq_refl,mixK_lt (Nat.lt_succ_self _),mixK_ge (Nat.le_refl _),e2]
        simp only [cond_true]
        repeat' (first|exact trivial|rfl|refine And.intro ?_ ?_)
      · rw [beq_ne (by omega),mixK_ge (by omega),mixK_ge (by omega:s+1≤q)];exact run20 rfl
    · have h2:((W.tasks s).node==f)=false:=h1
      have e2:tkK 5 f (W.tasks s)=W.tasks s:=by
        show ({W.tasks s with node:=bif (W.tasks s).node==f then -1 else (W.tasks s).node}:Run)=_
        rw [h2];rfl
      rcases Nat.lt_trichotomy q s with e|e|e
      · rw [mixK_lt e,mixK_lt (by omega:q<s+1)];exact run20 rfl
      · subst e;rw [mixK_ge (Nat.le_refl _),mixK_lt (Nat.lt_succ_self _),e2];exact run20 rfl
      · rw [mixK_ge (by omega),mixK_ge (by omega:s+1≤q)];exact run20 rfl
  have hge:=ge_of_dec h
  obtain rfl:s=W.nTasks:=by omega
  have hX:=ndK_ok (f:=f) (dropN_ok N_) hJ f0 (by rw [hk];decide)
  have e0: ∀j,j<W.nTasks→mixK 5 W f W.nTasks j=ndT f (W.tasks j):=fun j hj=>mixK_lt hj
  refine ⟨by decide,?_,fun i hi=>⟨fun h=>?_,fun h=>?_⟩⟩
  · repeat' (first|exact trivial|exact fun j hj=>run20 (e0 j hj)|exact run20 rfl|exact slt7 rfl|exact ent4 rfl|rfl|refine And.intro ?_ ?_|intro _)
  · have h15:=of_decide_eq_true h
    obtain ⟨h1,h2⟩:=hX i
    refine ⟨wr_in (by omega) (by omega),wr_in (by omega) (by omega),⟨h1,Nat.le_trans h2.cnt hn⟩,wr_in (by omega) (by omega),i+1,by omega,?_⟩
    have e1:dropBy (bur N_) (ndK (dropBy (bur N_)) W f i) (f*16+(15 -i))=ndK (dropBy (bur N_)) W f (i+1):=rfl
    simp only [e1]
    repeat' (first|exact trivial|omega|exact run20 rfl|exact slt7 rfl|exact ent4 rfl|rfl|refine And.intro ?_ ?_|intro _)
  · have h15:=of_decide_eq_false h
    obtain rfl:i=16:=by omega
    obtain ⟨h1,h2⟩:=hX 16
    have e:bur (N_+1) W f=ndK (dropBy (bur N_)) W f 16:=gone_nd hk
    simp only [e,wrK_ne (k:=5) (by decide)]
    generalize ndK (dropBy (bur N_)) W f 16=X at*
    have hf:=fg_no7 (p:=wrB X.nRam X.ram) (W:=X) h1.t
    refine ⟨h1.w.tl,?_⟩
    repeat' (first|exact trivial|exact hf|exact run20 rfl|exact slt7 rfl|exact ent4 rfl|rfl|refine And.intro ?_ ?_|intro _)
  : ∀x,(s_gone5 N_).pre x→V_gone5 N_ x) x hp
structure X_gone6 where
  (f:Int) (W:Wd)
def s_gone6 (N_:Nat):Sy.Spec:=⟨X_gone6,fun ⟨f,_⟩=> [.ptr 0 0 none 0 0,.v (.int .i64 f)],fun ⟨_,W⟩=>wMem W,fun ⟨f,W⟩=>JJ W∧cntF W≤N_∧0≤f∧f<W.nKinds∧W.kinds f.toNat=6,fun _=> .tp 0 (lsv []),fun ⟨f,W⟩=>wMem (bur (N_+1) W f),
  fun args mem=>match args with| [a0,a1]=>some ⟨intD (a1),wMJD mem 0⟩|_=>none⟩
def V_gone6 (N_:Nat):X_gone6→Prop:=fun ⟨f,W⟩=>let a0:=0≤f∧f<((W.nKinds:Nat):Int);let b0:=false=false;let c0:=SV.ptr 0 0 none 0 0=SV.ptr 0 0 none 0 0;let d0:=Int.toNat f;let e0:=0+d0;let g0:=updF W.kinds d0 0;let h0:={W with kinds:=g0};let k0:=wEq h0 h0 True;let l0:=W.nTasks;let o0:=(l0:Int);let q0:=f<o0;let u0:=kz W f;let v0:=0≤f∧q0;let w0:=(sdS u0 d0 (-1) 0 e0).owes;let x0:Int:=cond (w0==f) (-1) w0;let y0:=decide (0≤x0);let z0:=tn 2 True;let a1:=(∀b1:Nat,b0)∧(∀c1:Nat,b0)∧(∀d1:Nat,b0)∧(∀e1:Nat,b0)∧(∀g1:Nat,b0)∧(∀h1:Nat,b0)∧(∀k1:Nat,b0)∧(∀l1:Nat,b0)∧(∀o1:Nat,b0)∧(∀q1:Nat,b0)∧(∀u1:Nat,b0)∧(∀v1:Nat,b0)∧(∀w1:Nat,b0)∧(∀x1:Nat,b0)∧(∀y1:Nat,b0)∧(∀z1:Nat,b0)∧(∀a2:Nat,b0)∧(∀b2:Nat,b0)∧(∀c2:Nat,b0)∧(∀d2:Nat,b0);let e2:=c0∧(6:Int)=6∧f=f∧True;let g2:=0+Int.toNat x0;let h2:=lvLN u0 f;let k2:=lvL u0 f;let l2:=ofC u0 f;let o2:=lvRN u0 f;let q2:=lvR u0 f;let u2:={W with kinds:=g0,tasks:=fun v2:Nat=>let w2:=Nat.beq v2 e0;let x2:=sdS u0 d0 (-1) 0 v2;let y2:=x2.owes;Run.mk (cond w2 0 x2.r0) (cond w2 0 x2.r1) (cond w2 0 x2.r2) (cond w2 0 x2.r3) (cond w2 0 x2.r4) (cond w2 0 x2.r5) (cond w2 0 x2.r6) (cond w2 0 x2.r7) (cond w2 0 x2.pc) (cond w2 0 (cond (Nat.beq v2 g2) 0 x2.st)) (cond w2 0 x2.prio) (cond w2 (-1) x2.node) (cond w2 (-1) x2.space) (cond w2 (-1) x2.helper) (cond w2 (-1) x2.loc) (cond w2 0 x2.word) (cond w2 0 x2.badge) (cond w2 (-1) (cond (y2==f) (-1) y2)) (cond w2 0 x2.core) (cond w2 0 x2.dom),linesN:=h2,lines:=k2,cores:=l2,readyN:=o2,ready:=q2};let z2:=wrK W.nRam W.ram 6 f;let a3:=bur (N_+1) W f;
    let b3:={W with kinds:=g0,tasks:=fun c3:Nat=>let d3:=Nat.beq c3 e0;let e3:=sdS u0 d0 (-1) 0 c3;let g3:=e3.owes;Run.mk (cond d3 0 e3.r0) (cond d3 0 e3.r1) (cond d3 0 e3.r2) (cond d3 0 e3.r3) (cond d3 0 e3.r4) (cond d3 0 e3.r5) (cond d3 0 e3.r6) (cond d3 0 e3.r7) (cond d3 0 e3.pc) (cond d3 0 e3.st) (cond d3 0 e3.prio) (cond d3 (-1) e3.node) (cond d3 (-1) e3.space) (cond d3 (-1) e3.helper) (cond d3 (-1) e3.loc) (cond d3 0 e3.word) (cond d3 0 e3.badge) (cond d3 (-1) (cond (g3==f) (-1) g3)) (cond d3 0 e3.core) (cond d3 0 e3.dom),linesN:=h2,lines:=k2,cores:=l2,readyN:=o2,ready:=q2};a0∧(a0∧(∀h3:Nat,b0)∧c0∧W.kinds (0+d0)=6∧wEq {W with kinds:=fun k3:Nat=>cond (Nat.beq k3 e0) 0 (W.kinds k3)} h0 True∧True)∧(∀l3:Nat,True→c0∧0=((0:Nat):Int)∧k0∧0≤l0∧(∀o3:Nat,let q3:=(o3:Int);let u3:=decide (q3<o0);let v3:=0≤q3∧q3<o0;let w3:Int:=q3+1;o3≤l0→o0≤9223372036854775807→(u3=true→(((6:Int)==4)=true→v3)∧(((6:Int)==5)=true→v3)∧(((6:Int)==7)=true→v3)∧w64 w3=w3∧(∃x3:Nat,c0∧w3=(x3:Int)∧k0∧x3≤l0∧l0-x3<l0-o3))∧(u3=false→((c0∧f=f∧True)∧k0∧0≤f∧q0∧Inv 1000 u0)∧v0∧(y0=true→(0≤x0∧x0<o0)∧(∀y3:Nat,b0)∧tn 5 (z0∧v0∧a1∧(e2∧wEq u2 u2 True∧s_forgetR.match_1 (fun z3:X_forgetR=>Prop) (X_forgetR.mk 6 f u2) (fun a4:Int=>fun b4:Int=>fun c4:Wd=>TlR c4))∧True∧
    wEq {W with kinds:=g0,tasks:=fun d4:Nat=>let e4:=Nat.beq d4 e0;let g4:=sdS u0 d0 (-1) 0 d4;let h4:=g4.owes;Run.mk (cond e4 0 g4.r0) (cond e4 0 g4.r1) (cond e4 0 g4.r2) (cond e4 0 g4.r3) (cond e4 0 g4.r4) (cond e4 0 g4.r5) (cond e4 0 g4.r6) (cond e4 0 g4.r7) (cond e4 0 g4.pc) (cond e4 0 (cond (Nat.beq d4 g2) 0 g4.st)) (cond e4 0 g4.prio) (cond e4 (-1) g4.node) (cond e4 (-1) g4.space) (cond e4 (-1) g4.helper) (cond e4 (-1) g4.loc) (cond e4 0 g4.word) (cond e4 0 g4.badge) (cond e4 (-1) (cond (h4==f) (-1) h4)) (cond e4 0 g4.core) (cond e4 0 g4.dom),linesN:=h2,lines:=k2,cores:=l2,readyN:=o2,ready:=q2,tlbsN:=fgN z2 u2,tlbs:=fgT z2 u2} a3 True))∧(y0=false→tn 5 (z0∧v0∧a1∧(e2∧wEq b3 b3 True∧s_forgetR.match_1 (fun k4:X_forgetR=>Prop) (X_forgetR.mk 6 f b3) (fun l4:Int=>fun o4:Int=>fun q4:Wd=>TlR q4))∧True∧wEq {W with kinds:=g0,tasks:=fun u4:Nat=>let v4:=Nat.beq u4 e0;let w4:=sdS u0 d0 (-1) 0 u4;let x4:=w4.owes;Run.mk (cond v4 0 w4.r0) (cond v4 0 w4.r1) (cond v4 0 w4.r2) (cond v4 0 w4.r3) (cond v4 0 w4.r4) (cond v4 0 w4.r5) (cond v4 0 w4.r6) (cond v4 0 w4.r7) (cond v4 0 w4.pc) (cond v4 0 w4.st) (cond v4 0 w4.prio) (cond v4 (-1) w4.node) (cond v4 (-1) w4.space) (cond v4 (-1) w4.helper) (cond v4 (-1) w4.loc) (cond v4 0 w4.word) (cond v4 0 w4.badge) (cond v4 (-1) (cond (x4==f) (-1) x4)) (cond v4 0 w4.core) (cond v4 0 w4.dom),linesN:=h2,lines:=k2,cores:=l2,readyN:=o2,ready:=q2,tlbsN:=fgN z2 b3,tlbs:=fgT z2 b3} a3 True)))))
set_option maxHeartbeats 1000000 in
theorem fc_gone6 (N_:Nat) (h_:FnOK Tryz.prog glN 65 (c_dropR N_)): ∀x,(s_gone6 N_).pre x→FnC Tryz.prog glN 125 ((s_gone6 N_).args x) ((s_gone6 N_).mem x) ((s_gone6 N_).res x) ((s_gone6 N_).mem' x):=fun x hp=>fn_of (.cons ok_stopped (.cons ok_blank (.cons ok_forgetR (.cons h_ .nil)))) false Tryz.func125 ((fun ⟨f,W⟩=> [.decs [3,11,13,15,18,23,29],.cut 2 (cutG W f 6 4),.inv (an_un (kz W f) f [(0,pt0 0)] 5),.inv (an_no W.nTasks [(0,pt0 0)] 6),.inv (an_nd (dropBy (bur N_)) W f [(0,pt0 0)] 7),.inv (an_dr 6 W f [(0,pt0 0)] 9)]) x) (V:=V_gone6 N_ x) (by kernel_rfl)<|(fun ⟨f,W⟩ hp=>by
  dsimp only [s_gone6] at hp
  dsimp only [V_gone6,tn,w64,wEq,rEq,sEq,eEq]
  simp only [std,stb,eq_self,implies_true,Bool.cond_self]
  try simp only [wd_eta]
  obtain ⟨hJ,hn,f0,f1,hk⟩:=hp
  have z:=hJ.w.i.z
  have z1:=z.ram
  have z2:=z.slots
  have z3:=z.tasks
  have z4:=z.k1
  have z5:=z.lines
  have z6:=z.bits
  refine ⟨⟨f0,f1⟩,⟨⟨f0,f1⟩,hk,fun _ _=>rfl⟩,fun _ _=>?_⟩
  refine fun q hq _=>⟨fun h=>⟨fun h=>absurd h (by decide),fun h=>absurd h (by decide),fun h=>absurd h (by decide),wr_in (by have:=lt_of_dec h;omega) (by have:=lt_of_dec h;omega),q+1,by omega,by have:=lt_of_dec h;omega,by have:=lt_of_dec h;omega⟩,fun _=>?_⟩
  have hI:=inv_kd hJ.w.i (kd0 hJ f)
  have hS:=(inv_stp (W:=kz W f) hI f0 (by show f<W.nTasks;omega)).tk f.toNat (by show f.toNat<W.nTasks;omega)
  have ho:=hS.owes
  have e:bur (N_+1) W f=tdW W f:=gone_td hk
  simp only [e,wrK_ne (k:=6) (by decide)]
  have hf:=fg_no7 (p:=wrB W.nRam W.ram) (W:=W) hJ.t
  refine ⟨⟨f0,by omega,hI⟩,⟨f0,by omega⟩,fun h1=>?_,fun h1=>?_⟩
  · refine ⟨⟨of_decide_eq_true h1,Int.lt_of_lt_of_le ho.2 (by show (W.nKinds:Int)≤W.nTasks;omega)⟩,⟨f0,by omega⟩,⟨⟨z.k0,z.k1,z.c0,z.c1,z.ram,z.slots,z.tasks,z.lines,z.bits,z.ready,z.tlbs,z.d0,z.d1,z.t0,z.t1⟩,hJ.w.i.ram,hJ.w.i.tl,hJ.w.pg⟩,?_⟩
    repeat' (first|exact trivial|exact fun j hj=>td20a h1|exact hf|exact run20 rfl|exact slt7 rfl|exact ent4 rfl|rfl|refine And.intro ?_ ?_|intro _)
  · refine ⟨⟨f0,by omega⟩,⟨⟨z.k0,z.k1,z.c0,z.c1,z.ram,z.slots,z.tasks,z.lines,z.bits,z.ready,z.tlbs,z.d0,z.d1,z.t0,z.t1⟩,hJ.w.i.ram,hJ.w.i.tl,hJ.w.pg⟩,?_⟩
    repeat' (first|exact trivial|exact fun j hj=>td20b h1|exact hf|exact run20 rfl|exact slt7 rfl|exact ent4 rfl|rfl|refine And.intro ?_ ?_|intro _)
  : ∀x,(s_gone6 N_).pre x→V_gone6 N_ x) x hp
structure X_gone7 where
  (f:Int) (W:Wd)
def s_gone7 (N_:Nat):Sy.Spec:=⟨X_gone7,fun ⟨f,_⟩=> [.ptr 0 0 none 0 0,.v (.int .i64 f)],fun ⟨_,W⟩=>wMem W,fun ⟨f,W⟩=>JJ W∧cntF W≤N_∧0≤f∧f<W.nKinds∧W.kinds f.toNat=7,fun _=> .tp 0 (lsv []),fun ⟨f,W⟩=>wMem (bur (N_+1) W f),
  fun args mem=>match args with| [a0,a1]=>some ⟨intD (a1),wMJD mem 0⟩|_=>none⟩
def V_gone7 (N_:Nat):X_gone7→Prop:=fun ⟨f,W⟩=>let a0:=0≤f∧f<((W.nKinds:Nat):Int);let b0:=false=false;let c0:=SV.ptr 0 0 none 0 0=SV.ptr 0 0 none 0 0;let d0:=Int.toNat f;let e0:=0+d0;let g0:=updF W.kinds d0 0;let h0:={W with kinds:=g0};let k0:=W.nTasks;let l0:=(k0:Int);let o0:=(7:Int)==7;let q0:=W.linesN d0;let u0:=0≤f∧f<((W.nLines:Nat):Int);let v0:=((W.linesN e0:Nat):Int);let w0:=wrK W.nRam W.ram 7 f;a0∧(a0∧(∀x0:Nat,b0)∧c0∧W.kinds (0+d0)=7∧wEq {W with kinds:=fun y0:Nat=>cond (Nat.beq y0 e0) 0 (W.kinds y0)} h0 True∧True)∧(∀z0:Nat,True→c0∧0=((0:Nat):Int)∧wEq h0 {W with kinds:=g0,tasks:=mixK 7 W f 0} True∧0≤k0∧(∀a1:Nat,let b1:=(a1:Int);let c1:=decide (b1<l0);let d1:=0≤b1∧b1<l0;let e1:=0+Int.toNat b1;let g1:=cond o0 ((mixK 7 W f a1 e1).helper==f) false;let h1:Int:=b1+1;let k1:=w64 h1=h1;let l1:={W with kinds:=g0,tasks:=mixK 7 W f a1};a1≤k0→l0≤9223372036854775807→(c1=true→(((7:Int)==4)=true→d1)∧(((7:Int)==5)=true→d1)∧(o0=true→d1)∧(g1=true→d1∧(∀o1:Nat,b0)∧k1∧(∃q1:Nat,c0∧h1=(q1:Int)∧wEq {W with kinds:=g0,tasks:=fun u1:Nat=>let v1:=mixK 7 W f a1 u1;{v1 with helper:=cond (Nat.beq u1 e1) (-1) v1.helper}} {W with kinds:=g0,tasks:=mixK 7 W f q1} True∧q1≤k0∧k0-q1<k0-a1))∧(g1=false→k1∧(∃w1:Nat,c0∧h1=(w1:Int)∧wEq l1 {W with kinds:=g0,tasks:=mixK 7 W f w1} True∧w1≤k0∧k0-w1<k0-a1)))∧(c1=false→c0∧0=((0:Nat):Int)∧wEq l1 {W with kinds:=g0,tasks:=drS 7 W f 0} True∧0≤q0∧(∀x1:Nat,let y1:=(x1:Int);let z1:=decide (y1<v0);let a2:=0≤y1∧y1<v0;let b2:=W.lines e0 (0+Int.toNat y1);let c2:=0≤b2∧b2<l0;let d2:Int:=y1+1;let e2:=0+Int.toNat b2;
    let g2:={W with kinds:=g0,tasks:=drS 7 W f x1,linesN:=fun h2:Nat=>cond (Nat.beq h2 e0) 0 (W.linesN h2),lines:=fun k2:Nat=>fun l2:Nat=>cond (Nat.beq k2 e0) (W.lines e0 l2) (W.lines k2 l2),bits:=fun o2:Nat=>cond (Nat.beq o2 e0) 0 (W.bits o2)};x1≤q0→u0∧(v0≤9223372036854775807→(z1=true→tn 9 (u0∧tn 2 (a2∧True∧c2∧(∀q2:Nat,b0)∧tn 9 (u0∧tn 2 (a2∧True∧c2∧(∀u2:Nat,b0)∧w64 d2=d2∧(∃v2:Nat,c0∧d2=(v2:Int)∧wEq {W with kinds:=g0,tasks:=fun w2:Nat=>let x2:=drS 7 W f x1 w2;{x2 with st:=cond (Nat.beq w2 e2) 0 x2.st,loc:=cond (Nat.beq w2 e2) (-1) x2.loc}} {W with kinds:=g0,tasks:=drS 7 W f v2} True∧v2≤q0∧q0-v2<q0-x1))))))∧(z1=false→u0∧(∀y2:Nat,Nat.beq 1 1=true)∧(0≤f∧f<((W.nBits:Nat):Int))∧(∀z2:Nat,b0)∧((c0∧(7:Int)=7∧f=f∧True)∧wEq g2 g2 True∧s_forgetR.match_1 (fun a3:X_forgetR=>Prop) (X_forgetR.mk 7 f g2) (fun b3:Int=>fun c3:Int=>fun d3:Wd=>TlR d3))∧True∧wEq {W with kinds:=g0,tasks:=drS 7 W f x1,linesN:=fun e3:Nat=>cond (Nat.beq e3 e0) 0 (W.linesN e3),lines:=fun g3:Nat=>fun h3:Nat=>cond (Nat.beq g3 e0) (W.lines e0 h3) (W.lines g3 h3),bits:=fun k3:Nat=>cond (Nat.beq k3 e0) 0 (W.bits k3),tlbsN:=fgN w0 g2,tlbs:=fgT w0 g2} (bur (N_+1) W f) True))))))
set_option maxHeartbeats 1000000 in
theorem fc_gone7 (N_:Nat) (h_:FnOK Tryz.prog glN 65 (c_dropR N_)): ∀x,(s_gone7 N_).pre x→FnC Tryz.prog glN 125 ((s_gone7 N_).args x) ((s_gone7 N_).mem x) ((s_gone7 N_).res x) ((s_gone7 N_).mem' x):=fun x hp=>fn_of (.cons ok_stopped (.cons ok_blank (.cons ok_forgetR (.cons h_ .nil)))) false Tryz.func125 ((fun ⟨f,W⟩=> [.decs [3,11,13,18,23,29],.cut 2 (cutG W f 7 4),.inv (an_un (kz W f) f [(0,pt0 0)] 5),.inv (an_tk 7 W f [(0,pt0 0)] 6),.inv (an_nd (dropBy (bur N_)) W f [(0,pt0 0)] 7),.inv (an_dr 7 W f [(0,pt0 0)] 9)]) x) (V:=V_gone7 N_ x) (by kernel_rfl)<|(fun ⟨f,W⟩ hp=>by
  dsimp only [s_gone7] at hp
  dsimp only [V_gone7,tn,w64,wEq,rEq,sEq,eEq]
  simp only [std,stb,eq_self,implies_true,Bool.cond_self]
  try simp only [wd_eta]
  obtain ⟨hJ,hn,f0,f1,hk⟩:=hp
  have z:=hJ.w.i.z
  have z1:=z.ram
  have z2:=z.slots
  have z3:=z.tasks
  have z4:=z.k1
  have z5:=z.lines
  have z6:=z.bits
  refine ⟨⟨f0,f1⟩,⟨⟨f0,f1⟩,hk,fun _ _=>rfl⟩,fun _ _=>?_⟩
  refine ⟨fun q _=>run20 (mixK_ge (k:=7) (f:=f) (Nat.zero_le _)).symm,fun s hs _=>⟨fun h=>?_,fun h=>?_⟩⟩
  · have hlt:=lt_of_dec h
    rw [mixK_ge (Nat.le_refl _)]
    refine ⟨fun h=>absurd h (by decide),fun h=>absurd h (by decide),fun _=>by omega,fun h1=>⟨by omega,wr_in (by omega) (by omega),s+1,by omega,fun q _=>?_,by omega,by omega⟩,fun h1=>⟨wr_in (by omega) (by omega),s+1,by omega,fun q _=>?_,by omega,by omega⟩⟩
    · have h2:((W.tasks s).helper==f)=true:=h1
      have e2:tkK 7 f (W.tasks s)={W.tasks s with helper:= -1}:=by
        show ({W.tasks s with helper:=bif (W.tasks s).helper==f then -1 else (W.tasks s).helper}:Run)=_
        rw [h2];rfl
      rcases Nat.lt_trichotomy q s with e|e|e
      · rw [beq_ne (by omega),mixK_lt e,mixK_lt (by omega:q<s+1)];exact run20 rfl
      · subst e
        rw [Nat.beq_refl,mixK_lt (Nat.lt_succ_self _),mixK_ge (Nat.le_refl _),e2]
        simp only [cond_true]
        repeat' (first|exact trivial|rfl|refine And.intro ?_ ?_)
      · rw [beq_ne (by omega),mixK_ge (by omega),mixK_ge (by omega:s+1≤q)];exact run20 rfl
    · have h2:((W.tasks s).helper==f)=false:=h1
      have e2:tkK 7 f (W.tasks s)=W.tasks s:=by
        show ({W.tasks s with helper:=bif (W.tasks s).helper==f then -1 else (W.tasks s).helper}:Run)=_
        rw [h2];rfl
      rcases Nat.lt_trichotomy q s with e|e|e
      · rw [mixK_lt e,mixK_lt (by omega:q<s+1)];exact run20 rfl
      · subst e;rw [mixK_ge (Nat.le_refl _),mixK_lt (Nat.lt_succ_self _),e2];exact run20 rfl
      · rw [mixK_ge (by omega),mixK_ge (by omega:s+1≤q)];exact run20 rfl
  have hge:=ge_of_dec h
  obtain rfl:s=W.nTasks:=by omega
  refine ⟨fun q hq=>run20 ?_,fun s hs=>⟨⟨f0,by omega⟩,fun _=>⟨fun h=>?_,fun h=>?_⟩⟩⟩
  · rw [drS_0]
  · have hlt:=lt_of_dec h
    obtain ⟨l0,l1⟩:=(hJ.w.i.ln f.toNat (by omega)).2 s hlt
    have hll:=(hJ.w.i.ln f.toNat (by omega)).1
    refine ⟨⟨f0,by omega⟩,by omega,⟨l0,l1⟩,⟨f0,by omega⟩,by omega,⟨l0,l1⟩,wr_in (by omega) (by omega),s+1,by omega,fun q hq=>?_,by omega,by omega⟩
    rcases Decidable.em (q=(W.lines f.toNat s).toNat) with e|e
    · rw [drS_at l0 e,←drS_col (s:=s)]
      subst e
      simp only [Nat.beq_refl,cond_true]
      repeat' (first|exact trivial|rfl|refine And.intro ?_ ?_)
    · rw [drS_ne l0 e]
      simp only [beq_ne e,cond_false]
      repeat' (first|exact trivial|rfl|refine And.intro ?_ ?_)
  have hge:=ge_of_dec h
  obtain rfl:s=W.linesN f.toNat:=by omega
  have e:bur (N_+1) W f=drW W f:=gone_dr (.inl hk)
  simp only [e,wrK_ne (k:=7) (by decide)]
  have hf:=fg_no7 (p:=wrB W.nRam W.ram) (W:=W) hJ.t
  have hd: ∀j,j<W.nTasks→drS 7 W f (W.linesN f.toNat) j=drT W f j:=fun j hj=>drS_all hj (by rw [hk];rfl)
  have hl: ∀q v,(bif Nat.beq q f.toNat then W.lines f.toNat v else W.lines q v)=W.lines q v:=fun q v=>by
    rcases Decidable.em (q=f.toNat) with e|e
    · subst e;rw [Nat.beq_refl];rfl
    · rw [beq_ne e];rfl
  refine ⟨⟨f0,by omega⟩,fun _=>rfl,⟨f0,by omega⟩,⟨⟨z.k0,z.k1,z.c0,z.c1,z.ram,z.slots,z.tasks,z.lines,z.bits,z.ready,z.tlbs,z.d0,z.d1,z.t0,z.t1⟩,hJ.w.i.ram,hJ.w.i.tl,hJ.w.pg⟩,?_⟩
  repeat' (first|exact trivial|exact fun j hj=>run20 (hd j hj)|exact hf|exact fun q _=>⟨rfl,fun v _=>hl q v⟩|exact run20 rfl|exact slt7 rfl|exact ent4 rfl|rfl|refine And.intro ?_ ?_|intro _)
  : ∀x,(s_gone7 N_).pre x→V_gone7 N_ x) x hp
structure X_gone8 where
  (f:Int) (W:Wd)
def s_gone8 (N_:Nat):Sy.Spec:=⟨X_gone8,fun ⟨f,_⟩=> [.ptr 0 0 none 0 0,.v (.int .i64 f)],fun ⟨_,W⟩=>wMem W,fun ⟨f,W⟩=>JJ W∧cntF W≤N_∧0≤f∧f<W.nKinds∧W.kinds f.toNat=8,fun _=> .tp 0 (lsv []),fun ⟨f,W⟩=>wMem (bur (N_+1) W f),
  fun args mem=>match args with| [a0,a1]=>some ⟨intD (a1),wMJD mem 0⟩|_=>none⟩
def V_gone8 (N_:Nat):X_gone8→Prop:=fun ⟨f,W⟩=>let a0:=0≤f∧f<((W.nKinds:Nat):Int);let b0:=false=false;let c0:=SV.ptr 0 0 none 0 0=SV.ptr 0 0 none 0 0;let d0:=Int.toNat f;let e0:=0+d0;let g0:=updF W.kinds d0 0;let h0:={W with kinds:=g0};let k0:=wEq h0 h0 True;let l0:=W.nTasks;let o0:=(l0:Int);let q0:=W.linesN d0;let u0:=0≤f∧f<((W.nLines:Nat):Int);let v0:=((W.linesN e0:Nat):Int);let w0:=wrK W.nRam W.ram 8 f;a0∧(a0∧(∀x0:Nat,b0)∧c0∧W.kinds (0+d0)=8∧wEq {W with kinds:=fun y0:Nat=>cond (Nat.beq y0 e0) 0 (W.kinds y0)} h0 True∧True)∧(∀z0:Nat,True→c0∧0=((0:Nat):Int)∧k0∧0≤l0∧(∀a1:Nat,let b1:=(a1:Int);let c1:=decide (b1<o0);let d1:=0≤b1∧b1<o0;let e1:Int:=b1+1;a1≤l0→o0≤9223372036854775807→(c1=true→(((8:Int)==4)=true→d1)∧(((8:Int)==5)=true→d1)∧(((8:Int)==7)=true→d1)∧w64 e1=e1∧(∃g1:Nat,c0∧e1=(g1:Int)∧k0∧g1≤l0∧l0-g1<l0-a1))∧(c1=false→c0∧0=((0:Nat):Int)∧wEq h0 {W with kinds:=g0,tasks:=drS 8 W f 0} True∧0≤q0∧(∀h1:Nat,let k1:=(h1:Int);let l1:=decide (k1<v0);let o1:=0≤k1∧k1<v0;let q1:=W.lines e0 (0+Int.toNat k1);let u1:=0≤q1∧q1<o0;let v1:Int:=k1+1;let w1:=0+Int.toNat q1;let x1:={W with kinds:=g0,tasks:=drS 8 W f h1,linesN:=fun y1:Nat=>cond (Nat.beq y1 e0) 0 (W.linesN y1),lines:=fun z1:Nat=>fun a2:Nat=>cond (Nat.beq z1 e0) (W.lines e0 a2) (W.lines z1 a2),bits:=fun b2:Nat=>cond (Nat.beq b2 e0) 0 (W.bits b2)};h1≤q0→u0∧(v0≤9223372036854775807→(l1=true→tn 9 (u0∧tn 2 (o1∧True∧u1∧(∀c2:Nat,b0)∧tn 9 (u0∧tn 2 (o1∧True∧u1∧(∀d2:Nat,b0)∧w64 v1=v1∧(∃e2:Nat,c0∧v1=(e2:Int)∧
    wEq {W with kinds:=g0,tasks:=fun g2:Nat=>let h2:=drS 8 W f h1 g2;{h2 with st:=cond (Nat.beq g2 w1) 0 h2.st,loc:=cond (Nat.beq g2 w1) (-1) h2.loc}} {W with kinds:=g0,tasks:=drS 8 W f e2} True∧e2≤q0∧q0-e2<q0-h1))))))∧(l1=false→u0∧(∀k2:Nat,Nat.beq 1 1=true)∧(0≤f∧f<((W.nBits:Nat):Int))∧(∀l2:Nat,b0)∧((c0∧(8:Int)=8∧f=f∧True)∧wEq x1 x1 True∧s_forgetR.match_1 (fun o2:X_forgetR=>Prop) (X_forgetR.mk 8 f x1) (fun q2:Int=>fun u2:Int=>fun v2:Wd=>TlR v2))∧True∧wEq {W with kinds:=g0,tasks:=drS 8 W f h1,linesN:=fun w2:Nat=>cond (Nat.beq w2 e0) 0 (W.linesN w2),lines:=fun x2:Nat=>fun y2:Nat=>cond (Nat.beq x2 e0) (W.lines e0 y2) (W.lines x2 y2),bits:=fun z2:Nat=>cond (Nat.beq z2 e0) 0 (W.bits z2),tlbsN:=fgN w0 x1,tlbs:=fgT w0 x1} (bur (N_+1) W f) True))))))
set_option maxHeartbeats 1000000 in
theorem fc_gone8 (N_:Nat) (h_:FnOK Tryz.prog glN 65 (c_dropR N_)): ∀x,(s_gone8 N_).pre x→FnC Tryz.prog glN 125 ((s_gone8 N_).args x) ((s_gone8 N_).mem x) ((s_gone8 N_).res x) ((s_gone8 N_).mem' x):=fun x hp=>fn_of (.cons ok_stopped (.cons ok_blank (.cons ok_forgetR (.cons h_ .nil)))) false Tryz.func125 ((fun ⟨f,W⟩=> [.decs [3,11,13,15,18,23,29],.cut 2 (cutG W f 8 4),.inv (an_un (kz W f) f [(0,pt0 0)] 5),.inv (an_no W.nTasks [(0,pt0 0)] 6),.inv (an_nd (dropBy (bur N_)) W f [(0,pt0 0)] 7),.inv (an_dr 8 W f [(0,pt0 0)] 9)]) x) (V:=V_gone8 N_ x) (by kernel_rfl)<|(fun ⟨f,W⟩ hp=>by
  dsimp only [s_gone8] at hp
  dsimp only [V_gone8,tn,w64,wEq,rEq,sEq,eEq]
  simp only [std,stb,eq_self,implies_true,Bool.cond_self]
  try simp only [wd_eta]
  obtain ⟨hJ,hn,f0,f1,hk⟩:=hp
  have z:=hJ.w.i.z
  have z1:=z.ram
  have z2:=z.slots
  have z3:=z.tasks
  have z4:=z.k1
  have z5:=z.lines
  have z6:=z.bits
  refine ⟨⟨f0,f1⟩,⟨⟨f0,f1⟩,hk,fun _ _=>rfl⟩,fun _ _=>?_⟩
  refine fun q hq _=>⟨fun h=>⟨fun h=>absurd h (by decide),fun h=>absurd h (by decide),fun h=>absurd h (by decide),wr_in (by have:=lt_of_dec h;omega) (by have:=lt_of_dec h;omega),q+1,by omega,by have:=lt_of_dec h;omega,by have:=lt_of_dec h;omega⟩,fun _=>?_⟩
  refine ⟨fun q hq=>run20 ?_,fun s hs=>⟨⟨f0,by omega⟩,fun _=>⟨fun h=>?_,fun h=>?_⟩⟩⟩
  · rw [drS_0,mixK_lt hq];rfl
  · have hlt:=lt_of_dec h
    obtain ⟨l0,l1⟩:=(hJ.w.i.ln f.toNat (by omega)).2 s hlt
    have hll:=(hJ.w.i.ln f.toNat (by omega)).1
    refine ⟨⟨f0,by omega⟩,by omega,⟨l0,l1⟩,⟨f0,by omega⟩,by omega,⟨l0,l1⟩,wr_in (by omega) (by omega),s+1,by omega,fun q hq=>?_,by omega,by omega⟩
    rcases Decidable.em (q=(W.lines f.toNat s).toNat) with e|e
    · rw [drS_at l0 e,←drS_col (s:=s)]
      subst e
      simp only [Nat.beq_refl,cond_true]
      repeat' (first|exact trivial|rfl|refine And.intro ?_ ?_)
    · rw [drS_ne l0 e]
      simp only [beq_ne e,cond_false]
      repeat' (first|exact trivial|rfl|refine And.intro ?_ ?_)
  have hge:=ge_of_dec h
  obtain rfl:s=W.linesN f.toNat:=by omega
  have e:bur (N_+1) W f=drW W f:=gone_dr (.inr hk)
  simp only [e,wrK_ne (k:=8) (by decide)]
  have hf:=fg_no7 (p:=wrB W.nRam W.ram) (W:=W) hJ.t
  have hd: ∀j,j<W.nTasks→drS 8 W f (W.linesN f.toNat) j=drT W f j:=fun j hj=>drS_all hj (by rw [hk];rfl)
  have hl: ∀q v,(bif Nat.beq q f.toNat then W.lines f.toNat v else W.lines q v)=W.lines q v:=fun q v=>by
    rcases Decidable.em (q=f.toNat) with e|e
    · subst e;rw [Nat.beq_refl];rfl
    · rw [beq_ne e];rfl
  refine ⟨⟨f0,by omega⟩,fun _=>rfl,⟨f0,by omega⟩,⟨⟨z.k0,z.k1,z.c0,z.c1,z.ram,z.slots,z.tasks,z.lines,z.bits,z.ready,z.tlbs,z.d0,z.d1,z.t0,z.t1⟩,hJ.w.i.ram,hJ.w.i.tl,hJ.w.pg⟩,?_⟩
  repeat' (first|exact trivial|exact fun j hj=>run20 (hd j hj)|exact hf|exact fun q _=>⟨rfl,fun v _=>hl q v⟩|exact run20 rfl|exact slt7 rfl|exact ent4 rfl|rfl|refine And.intro ?_ ?_|intro _)
  : ∀x,(s_gone8 N_).pre x→V_gone8 N_ x) x hp
end Go.Proofs.YtdjilaofmdhikaaGreatDoor
