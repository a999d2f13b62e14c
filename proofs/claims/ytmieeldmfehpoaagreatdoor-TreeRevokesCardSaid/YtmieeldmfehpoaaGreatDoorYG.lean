/-
  Sy: regions that draw their order: evaluated.
-/
import Derived.Test.YtmieeldmfehpoaaGreatDoorYE
import Derived.Test.YtmieeldmfehpoaaGreatDoorYF
set_option linter.unusedVariables false
set_option linter.unusedSimpArgs false
set_option linter.unusedVariables false
set_option linter.unusedSimpArgs false
namespace Go.Sy
open Go.RowKit
/-! ### what is before an operation -/
def sR:List Nat->List Nat->List Nat
  | [],acc=>acc
  |x::r,acc=>match cO acc x with|true=>sR r acc|false=>sR r (x::acc)
theorem Bv: ∀{l acc:List Nat} {x:Nat},x∈sR l acc↔x∈l\/x∈acc
  | [],acc,x=>by simp[sR]
  |y::r,acc,x=>by
   unfold sR
   split
   · next h=>
     rw[Bv]
     have:=gC.1 h
     simp only[List.mem_cons]
     constructor
     · rintro (h|h)
       · exact .inl (.inr h)
       · exact .inr h
     · rintro ((rfl|h)|h)
       · exact .inr this
       · exact .inl h
       · exact .inr h
   · rw[Bv]
     simp only[List.mem_cons]
     constructor
     · rintro (h|rfl|h)
       · exact .inl (.inr h)
       · exact .inl (.inl rfl)
       · exact .inr h
     · rintro ((rfl|h)|h)
       · exact .inr (.inl rfl)
       · exact .inl h
       · exact .inr (.inr h)
def mb (R:List (List Nat)):List Edge->List Nat->List Nat
  | [],acc=>acc
  |e::r,acc=>match Region.binds .any e with|true=>mb R r (sR (e.on::R.getD e.on []) acc)|false=>mb R r acc
theorem uu {R:List (List Nat)}: ∀{es:List Edge} {acc:List Nat} {x:Nat},x∈mb R es acc↔x∈acc\/ ∃e∈es,Region.binds .any e=true/\(x=e.on\/x∈R.getD e.on [])
  | [],acc,x=>by simp[mb]
  |e::r,acc,x=>by
   unfold mb
   split
   · next hb=>
     rw[uu,Bv]
     simp only[List.mem_cons,exists_eq_or_imp]
     constructor
     · rintro ((h|h)|h)
       · exact .inr (.inl ⟨hb,h⟩)
       · exact .inl h
       · exact .inr (.inr h)
     · rintro (h|⟨_,h⟩|h)
       · exact .inl (.inr h)
       · exact .inl (.inl h)
       · exact .inr h
   · next hb=>
     rw[uu]
     simp only[List.mem_cons,exists_eq_or_imp]
     constructor
     · rintro (h|h)
       · exact .inl h
       · exact .inr (.inr h)
     · rintro (h|⟨h,_⟩|h)
       · exact .inl h
       · rw[hb]at h;cases h
       · exact .inr h
def dZ:List Oper->List (List Nat)->List (List Nat)
  | [],acc=>acc
  |o::r,acc=>dZ r (acc++ [mb acc o.after.toList []])
theorem Ho: ∀(l:List Oper) (acc:List (List Nat)),(∃t,dZ l acc=acc++t)/\ ∀k o,l[k]? =some o->(dZ l acc)[acc.length+k]? =some (mb ((dZ l acc).take (acc.length+k)) o.after.toList [])
  | [],acc=>⟨⟨[],by simp[dZ]⟩,λk o h=>by simp at h⟩
  |o::r,acc=>by
   obtain⟨⟨t,ht⟩,h⟩:=Ho r (acc++ [mb acc o.after.toList []])
   have e:dZ (o::r) acc=dZ r (acc++ [mb acc o.after.toList []]):=rfl
   refine⟨⟨[mb acc o.after.toList []]++t,by rw[e,ht];simp⟩,λk o' hk=>?_⟩
   cases k with
   |zero=>
    simp only[List.getElem?_cons_zero,Option.some.injEq]at hk
    subst hk
    rw[e,ht]
    simp
   |succ k=>
    have:=h k o' (by simpa using hk)
    rw[e]
    simpa [Nat.add_assoc,Nat.add_comm 1 k]using this
def qz:Nat->List Oper->Bool
  |_,[]=>true
  |i,o::r=>(o.after.toList.all λe=>!Region.binds .any e||Nat.blt e.on i)&&qz (i+1) r
theorem G3: ∀{l:List Oper} {i:Nat},qz i l=true-> ∀k o,l[k]? =some o-> ∀e∈o.after,Region.binds .any e=true->e.on<i+k
  | [],_,_,k,o,h=>by simp at h
  |x::r,i,hb,k,o,h=>by
   simp only[qz,Bool.and_eq_true]at hb
   intro e he Qb
   cases k with
   |zero=>
    simp only[List.getElem?_cons_zero,Option.some.injEq]at h
    subst h
    have:=List.all_eq_true.1 hb.1 e (by simpa using he)
    rw[Qb]at this
    exact Nat.le_of_ble_eq_true this
   |succ k=>
    have:=G3 hb.2 k o (by simpa using h) e he Qb
    omega
def yL (o:Oper):Bool:=
  match o.guard,o.op with
  |none,.extract _ _=>true
  |none,.binOp _ _ _ _ _=>true
  |none,.unOp _ _ _=>true
  |none,.convert _ _ _=>true
  |none,.move _=>true
  |none,.fieldAddr _ _ _=>true
  |none,.indexAddr _ _ _=>true
  |_,_=>false
def vo (ops:List Oper) (j:Nat):Bool:=match ops[j]? with|some o=>yL o|none=>false
def Ct (ops:List Oper):Nat->List (List Nat)->Nat->Nat
  |_,[],m=>m
  |i,p::r,m=>Ct ops (i+1) r (match Nat.beq p.length i||(List.range i).all λj=>cO p j||(vo ops j&&Nat.blt j m)with|true=>m|false=>i+1)
def YI (R:List (List Nat)) (m n:Nat) (gs:List Bool):Bool:=(List.range n).all λi=>Nat.blt i m||(List.range i).all λj=>cO (R.getD i []) j||(Nat.blt j m&&gs.getD j false)
def yM (ops:List Oper) (R:List (List Nat)) (gs:List Bool):Bool:=
  (List.range gs.length).all λi=>!(gs.getD i false)||
    (match ops[i]? with
     |some oi=>Region.noSelect ops.toArray&&(List.range ops.length).all λj=>Nat.beq j i||cO (R.getD i []) j||(match ops[j]? with|some oj=>(oj.after.toList.any λe=>Region.binds .any e&&Nat.beq e.on i)||oi.apart ops.toArray oj|none=>true)
     |none=>true)
def Dt (P:Program) (sg:Bool) (N:Nat) (V:Fr) (m:Nat->bk) (o:Oper):Option (Prop×Rc):=
  match yL o,pB P sg V m o.op with
  |true,.ok s=>some (True,⟨gK N o.dst s,[],[]⟩)
  |true,.jR _ s=>some (True,⟨gK N o.dst s,[],[]⟩)
  |true,.dz p s=>some (p,⟨gK N o.dst s,[],[]⟩)
  |_,_=>none
theorem R7 {P:Program} {sg:Bool} {N:Nat} {V:Fr} {m:Nat->bk} {o:Oper} {p:Prop} {rc:Rc} (h:Dt P sg N V m o=some (p,rc)) (hp:p):o.guard=none/\ ∃s,rc=⟨gK N o.dst s,[],[]⟩/\(pB P sg V m o.op).run (λs'=>s'=s):=by
  have hg: ∀{b},yL o=b->b=true->o.guard=none:=by
    intro b h hb
    subst hb
    unfold yL at h
    split at h<;>first|assumption|cases h
  unfold Dt at h
  split at h
  · next s J U=>
    simp only[Option.some.injEq,Prod.mk.injEq]at h
    exact⟨hg J rfl,s,h.2.symm,by rw[U];exact rfl⟩
  · next s J U=>
    simp only[Option.some.injEq,Prod.mk.injEq]at h
    exact⟨hg J rfl,s,h.2.symm,by rw[U];exactλ_=>rfl⟩
  · next s J U=>
    simp only[Option.some.injEq,Prod.mk.injEq]at h
    exact⟨hg J rfl,s,h.2.symm,by rw[U];exact⟨by rw[h.1];exact hp,rfl⟩⟩
  · cases h
/-! ### all operations, one behind the other -/
def jP (P:Program) (sg:Bool) (Gl:Nat->SV) (Γ:Table) (N:Nat) (M:Mem):List Oper->Fr->Nat->Fr
  | [],F,_=>F
  |o::r,F,nx=>
   match kP P sg Gl Γ F M nx [] [] o.op with
   | .ok s=>jP P sg Gl Γ N M r (f_ N F o.dst s) nx
   | .jR _ s=>jP P sg Gl Γ N M r (f_ N F o.dst s) nx
   | .dz _ s=>jP P sg Gl Γ N M r (f_ N F o.dst s) nx
   | .mem _ s _=>jP P sg Gl Γ N M r (f_ N F o.dst s) nx
   | .any _ _=>jP P sg Gl Γ N M r (f_ N F o.dst .aK) nx
   | .bad=>jP P sg Gl Γ N M r (f_ N F o.dst .aK) nx
def sS (Gl:Nat->SV) (F:Fr) (o:Oper):Option Nat:=
  match o.op with
  | .store _ x _=>(match cK Gl F x with| .ptr k _ none _ _=>some k|_=>none)
  |_=>none
def mc:List Nat->Mem->Mem
  | [],M=>M
  |k::r,M=>
   match (ae M k).hl,(ae M k).b with
   |none,.cells l=>(match l.all λs=>!cM s with|true=>mc r ((k,{ae M k with b:= .cells (lr l.length)})::M)|false=>mc r M)
   |_,_=>mc r M
def PD:SV->Bool
  | .aK=>true
  |_=>false
def Fe (e f:bk):Bool:=
  match e.hl,e.b,f.hl,f.b with
  |none,.cells l,none,.cells l'=>Nat.beq e.rs f.rs&&Nat.beq e.ds f.ds&&l.all PD&&Nat.beq l'.length l.length
  |_,_,_,_=>false
def nK (P:Program) (sg:Bool) (Gl:Nat->SV) (Γ:Table) (N:Nat) (ops:List Oper) (R:List (List Nat)) (F0:Fr) (M:Mem):List Oper->Nat->List Rc->List Bool->List Bool->Nat->(List Rc->List Bool->List Bool->Nat->Prop)->Prop
  | [],_,rs,gs,ws,nx,K=>K rs gs ws nx
  |o::r,i,rs,gs,ws,nx,K=>
   match Dt P sg N (vF rs F0 (R.getD i [])) (ae (vM rs M (R.getD i []))) o with
   |some (p,rc)=>p/\tq (rs++ [rc]) λwu=>nK P sg Gl Γ N ops R F0 M r (i+1) wu (gs++ [true]) (ws++ [false]) nx K
   |none=>
    match nL P sg Gl Γ N ops (vF rs F0 (R.getD i [])) (vM rs M (R.getD i [])) (vH rs (R.getD i [])) nx (R.getD i []) o with
    |some (p,rc)=>p/\tq (rs++ [rc]) λwu=>fh (nx+64) λdq=>nK P sg Gl Γ N ops R F0 M r (i+1) wu (gs++ [false]) (ws++ [false]) dq K
    |none=>
     match evalW P Gl N ops (vF rs F0 (R.getD i [])) (vM rs M (R.getD i [])) (vH rs (R.getD i [])) o with
     |some (k,u)=>(match cv (ae M) k with|false=>tq (rs++ [⟨[],[],u⟩]) λwu=>nK P sg Gl Γ N ops R F0 M r (i+1) wu (gs++ [false]) (ws++ [true]) nx K|true=>False)
     |none=>False
def tF:Option Nat->Nat->Bool
  |some x,y=>Nat.beq x y
  |none,_=>false
def vG (ops:List Oper) (i:Nat):Option Nat:=match ops[i]? with|some o=>o.dst|none=>none
def vI (N:Nat) (ops:List Oper) (R:List (List Nat)) (M:Mem) (rs:List Rc) (ws:List Bool):Bool:=
  nodupB (rs.map λrc=>rc.u.map (·.1)).flatten&&
  ((List.range rs.length).all λi=>
    ((cr rs i).fs.all λp=>tF (vG ops i) p.1&&Nat.blt p.1 N)&&
    ((cr rs i).hs.all λh=>tF (vG ops i) h.slot&&(R.getD i []).any λg=>tF (vG ops g) h.d)&&
    ((cr rs i).u.all λp=>(cv (ae M) p.1||(ws.getD i false&&!cv (ae M) p.1&&Fe (ae M p.1) p.2))&&Nat.beq p.2.rs (ae M p.1).rs&&Nat.beq p.2.ds (ae M p.1).ds))
def dO (l:List Oper) (F:Fr):Fr:=(l.filterMap (·.dst)).map (λt=>(t,SV.aK))++F
def yN (P:Program) (sg:Bool) (Gl:Nat->SV) (Γ:Table) (N:Nat) (ops:List Oper) (K:Fr->Mem->Nat->Prop) (F:Fr) (M:Mem) (nx:Nat):Prop:=
  qA (dZ ops []) λR=>
  fh (Ct ops 0 R 0) λm=>
  match qz 0 ops,nodupB ((ops.take m).map λo=>o.dst.toList).flatten,Nat.ble m ops.length,P.follows .mixedOrders with
  |true,true,true,true=>
   let MJ:=mc ((ops.take m).filterMap (sS Gl (jP P sg Gl Γ N M (ops.take m) F nx))) M
   nK P sg Gl Γ N ops R (dO (ops.take m) F) MJ (ops.take m) 0 [] [] [] nx λrs gs ws dq=>
    match vI N ops R MJ rs ws&&YI R m ops.length gs&&yM ops R gs with
    |true=>qS (vF rs (dO (ops.take m) F) (List.range m)) (vM rs MJ (List.range m)) dq (vH rs (List.range m)) λF M nx H=>j_ P sg Gl Γ N ops K (ops.drop m) F M nx H
    |false=>False
  |_,_,_,_=>False
def OH (R:List (List Nat)) (m n:Nat):Bool:=(List.range n).all λi=>Nat.ble i m||(List.range i).all λj=>cO (R.getD i []) j
def uD (P:Program) (Gl:Nat->SV) (ops:List Oper) (R:List (List Nat)) (F0:Fr) (M:Mem) (rs:List Rc) (gs:List Bool) (m:Nat):List Nat->Option (Prop×List Nat)
  | []=>some (True,[])
  |j::r=>
   match cO (R.getD m []) j||gs.getD j false,uD P Gl ops R F0 M rs gs m r with
   |true,x=>x
   |false,some (q,l)=>(match ops[j]? with|some o=>(match oO P Gl (vF rs F0 (R.getD j [])) (vM rs M (R.getD j [])) o with|some (p,ko)=>some (p/\q,ko.toList++l)|none=>none)|none=>none)
   |false,none=>none
def PE (M:Mem) (rs:List Rc) (KQ:List Nat):Bool:=KQ.all λk=>!cv (ae M) k&&rs.all λrc=>!cO (rc.u.map (·.1)) k
def AP (ops:List Oper) (R:List (List Nat)) (m:Nat):Bool:=
  match ops[m]? with
  |some oB=>Region.noSelect ops.toArray&&(List.range m).all λj=>cO (R.getD m []) j||(match ops[j]? with|some o=>o.apart ops.toArray oB|none=>true)
  |none=>false
def Cu (P:Program) (sg:Bool) (Gl:Nat->SV) (Γ:Table) (N:Nat) (ops:List Oper) (m:Nat) (K:Fr->Mem->Nat->Prop) (F:Fr) (M:Mem) (nx:Nat):Prop:=
  qA (dZ ops []) λR=>
  match qz 0 ops,nodupB ((ops.take m).map λo=>o.dst.toList).flatten,Nat.ble m ops.length,P.follows .mixedOrders with
  |true,true,true,true=>
   let MJ:=mc ((ops.take m).filterMap (sS Gl (jP P sg Gl Γ N M (ops.take m) F nx))) M
   nK P sg Gl Γ N ops R (dO (ops.take m) F) MJ (ops.take m) 0 [] [] [] nx λrs gs ws dq=>
    match vI N ops R MJ rs ws&&OH R m ops.length&&yM ops R gs&&AP ops R m,uD P Gl ops R (dO (ops.take m) F) MJ rs gs m (List.range m),ops[m]? with
    |true,some (p,KQ),some oB=>
     (match PE MJ rs KQ,yO P Gl (vF rs (dO (ops.take m) F) (R.getD m [])) (vM rs MJ (R.getD m [])) (dq+100) oB with
      |true,some (pr,κ)=>(match κ.all λk=>!cO KQ k with|true=>p/\pr/\qS (vF rs (dO (ops.take m) F) (List.range m)) (vM rs MJ (List.range m)) dq (vH rs (List.range m)) λF M nx H=>j_ P sg Gl Γ N ops K (ops.drop m) F M nx H|false=>False)
      |_,_=>False)
    |_,_,_=>False
  |_,_,_,_=>False
def ZX (R:List (List Nat)) (rs:List Rc) (ws:List Bool) (m:Nat):Bool:=(List.range m).all λj=>cO (R.getD m []) j||((match (cr rs j).u with| []=>true|_=>false)&&!(ws.getD j false))
def Cv (P:Program) (sg:Bool) (Gl:Nat->SV) (Γ:Table) (N:Nat) (ops:List Oper) (m:Nat) (K:Fr->Mem->Nat->Prop) (F:Fr) (M:Mem) (nx:Nat):Prop:=
  qA (dZ ops []) λR=>
  match qz 0 ops,nodupB ((ops.take m).map λo=>o.dst.toList).flatten,Nat.ble m ops.length,P.follows .mixedOrders with
  |true,true,true,true=>
   nK P sg Gl Γ N ops R (dO (ops.take m) F) M (ops.take m) 0 [] [] [] nx λrs gs ws dq=>
    match vI N ops R M rs ws&&OH R m ops.length&&yM ops R gs&&AP ops R m&&ZX R rs ws m,uD P Gl ops R (dO (ops.take m) F) M rs gs m (List.range m),ops[m]? with
    |true,some (p,KQ),some oB=>
     (match PE M rs KQ,AQ P Gl Γ (vF rs (dO (ops.take m) F) (R.getD m [])) (vM rs M (R.getD m [])) dq oB with
      |true,some (pr,sB,uB)=>
       (match (uB.map (·.1)).all (λk=>!cO KQ k),oV (vH rs (List.range m)) oB.dst with
        |true,true=>p/\pr/\qS (f_ N (vF rs (dO (ops.take m) F) (List.range m)) oB.dst sB) (uB++vM rs M (List.range m)) (dq+64) (vH rs (List.range m)) λF M nx H=>j_ P sg Gl Γ N ops K (ops.drop (m+1)) F M nx H
        |_,_=>False)
      |_,_=>False)
    |_,_,_=>False
  |_,_,_,_=>False
theorem xn {P:Program} {Gl:Nat->SV} {ops:List Oper} {R:List (List Nat)} {F0:Fr} {M:Mem} {rs:List Rc} {gs:List Bool} {m:Nat}: ∀{l:List Nat} {p:Prop} {KQ:List Nat},uD P Gl ops R F0 M rs gs m l=some (p,KQ)->p-> ∀j∈l,∀o,ops[j]? =some o->j∉R.getD m []->gs.getD j false=false->
    ∃q ko,oO P Gl (vF rs F0 (R.getD j [])) (vM rs M (R.getD j [])) o=some (q,ko)/\q/\ ∀k,ko=some k->k∈KQ
  | [],p,KQ,he,hp,j,hj,o,ho,J,U=>absurd hj (by simp)
  |i::r,p,KQ,he,hp,j,hj,o,ho,J,U=>by
   unfold uD at he
   split at he
   · next hb=>
     rcases List.mem_cons.1 hj with rfl|hj
     · rw[Bool.or_eq_true]at hb
       rcases hb with hb|hb
       · exact absurd (gC.1 hb) J
       · rw[U]at hb;cases hb
     · exact xn he hp j hj o ho J U
   · next q l hb hr=>
     split at he
     · next o' iE=>
       split at he
       · next p' ko hk=>
         obtain⟨rfl,rfl⟩:=Prod.mk.inj (Option.some.inj he)
         rcases List.mem_cons.1 hj with rfl|hj
         · obtain rfl:=Option.some.inj (ho.symm.trans iE)
           exact⟨p',ko,hk,hp.1,λk e=>by rw[e];simp⟩
         · obtain⟨q1,ko1,g1,g2,g3⟩:=xn hr hp.2 j hj o ho J U
           exact⟨q1,ko1,g1,g2,λk e=>List.mem_append.2 (.inr (g3 k e))⟩
       · cases he
     · cases he
   · cases he
section
variable {P:Program} {w:World} {ω:Ow} {Gl:Nat->SV} {Γ:Table} {N:Nat} {F:Fr} {M:Mem} {a:Act}
def OI (P:Program) (sg:Bool) (Gl:Nat->SV) (Γ:Table) (N:Nat) (M:Mem) (ops:List Oper) (R:List (List Nat)) (F0:Fr) (K:List Rc->List Bool->List Bool->Nat->Prop) (r:List Oper) (i:Nat) (rs:List Rc) (gs ws:List Bool):Prop:=
    ∃t tg tw dq,K (rs++t) (gs++tg) (ws++tw) dq/\t.length=r.length/\tg.length=r.length/\tw.length=r.length/\ ∀k o,r[k]? =some o->
     ((gs++tg).getD (i+k) false=true->(ws++tw).getD (i+k) false=false/\o.guard=none/\ ∃s,cr (rs++t) (i+k)=⟨gK N o.dst s,[],[]⟩/\(pB P sg (vF ((rs++t).take (i+k)) F0 (R.getD (i+k) [])) (ae (vM ((rs++t).take (i+k)) M (R.getD (i+k) []))) o.op).run (λs'=>s'=s))/\
     ((gs++tg).getD (i+k) false=false->(ws++tw).getD (i+k) false=false-> ∃nx p,nL P sg Gl Γ N ops (vF ((rs++t).take (i+k)) F0 (R.getD (i+k) [])) (vM ((rs++t).take (i+k)) M (R.getD (i+k) [])) (vH ((rs++t).take (i+k)) (R.getD (i+k) [])) nx (R.getD (i+k) []) o=some (p,cr (rs++t) (i+k))/\p)/\
     ((ws++tw).getD (i+k) false=true-> ∃q u,evalW P Gl N ops (vF ((rs++t).take (i+k)) F0 (R.getD (i+k) [])) (vM ((rs++t).take (i+k)) M (R.getD (i+k) [])) (vH ((rs++t).take (i+k)) (R.getD (i+k) [])) o=some (q,u)/\cr (rs++t) (i+k)=⟨[],[],u⟩/\cv (ae M) q=false)
theorem xQ {sg:Bool} {ops:List Oper} {R:List (List Nat)} {F0:Fr} {K:List Rc->List Bool->List Bool->Nat->Prop}: ∀(r:List Oper) (i:Nat) (rs:List Rc) (gs ws:List Bool) (nx:Nat),rs.length=i->gs.length=i->ws.length=i->nK P sg Gl Γ N ops R F0 M r i rs gs ws nx K->
    OI P sg Gl Γ N M ops R F0 K r i rs gs ws
  | [],i,rs,gs,ws,nx,hl,hg,hw,h=>⟨[],[],[],nx,by rw[List.append_nil,List.append_nil,List.append_nil];exact h,rfl,rfl,rfl,λk o hk=>by simp at hk⟩
  |o::r,i,rs,gs,ws,nx,hl,hg,hw,h=>by
   have e1: ∀{rc:Rc} {t:List Rc},(rs++rc::t).take (i+0)=rs:=by intro rc t;rw[Nat.add_zero,<-hl,List.take_left]
   have e2: ∀{rc:Rc} {t:List Rc},cr (rs++rc::t) (i+0)=rc:=by intro rc t;simp[cr,List.getD_eq_getElem?_getD,<-hl]
   have e3: ∀{b:Bool} {t:List Bool},(gs++b::t).getD (i+0) false=b:=by intro b t;simp[List.getD_eq_getElem?_getD,<-hg]
   have e4: ∀{b:Bool} {t:List Bool},(ws++b::t).getD (i+0) false=b:=by intro b t;simp[List.getD_eq_getElem?_getD,<-hw]
   have go: ∀{rc:Rc} {bg bw:Bool} {iQ:Nat},nK P sg Gl Γ N ops R F0 M r (i+1) (rs++ [rc]) (gs++ [bg]) (ws++ [bw]) iQ K->
    ((bg=true->bw=false/\o.guard=none/\ ∃s,rc=⟨gK N o.dst s,[],[]⟩/\(pB P sg (vF rs F0 (R.getD (i+0) [])) (ae (vM rs M (R.getD (i+0) []))) o.op).run (λs'=>s'=s))/\
      (bg=false->bw=false-> ∃nx p,nL P sg Gl Γ N ops (vF rs F0 (R.getD (i+0) [])) (vM rs M (R.getD (i+0) [])) (vH rs (R.getD (i+0) [])) nx (R.getD (i+0) []) o=some (p,rc)/\p)/\
      (bw=true-> ∃q u,evalW P Gl N ops (vF rs F0 (R.getD (i+0) [])) (vM rs M (R.getD (i+0) [])) (vH rs (R.getD (i+0) [])) o=some (q,u)/\rc=⟨[],[],u⟩/\cv (ae M) q=false))->
    OI P sg Gl Γ N M ops R F0 K (o::r) i rs gs ws:=by
     intro rc bg bw iQ h hz
     obtain⟨t,tg,tw,dq,J,U,oe,ZY,h3⟩:=xQ r (i+1) (rs++ [rc]) (gs++ [bg]) (ws++ [bw]) iQ (by simp[hl]) (by simp[hg]) (by simp[hw]) h
     have e:rs++rc::t=rs++ [rc]++t:=by simp
     have eg:gs++bg::tg=gs++ [bg]++tg:=by simp
     have ew:ws++bw::tw=ws++ [bw]++tw:=by simp
     refine⟨rc::t,bg::tg,bw::tw,dq,by rw[e,eg,ew];exact J,by simp[U],by simp[oe],by simp[ZY],λk o' hk=>?_⟩
     cases k with
     |zero=>
      simp only[List.getElem?_cons_zero,Option.some.injEq]at hk
      subst hk
      rw[e1,e2,e3,e4]
      exact hz
     |succ k=>
      have:=h3 k o' (by simpa using hk)
      rw[show i+(k+1)=i+1+k by omega,e,eg,ew]
      exact this
   unfold nK at h
   simp only[Kr,jK]at h
   split at h
   · next p rc he=>
     obtain⟨hp,h⟩:=h
     obtain⟨g1,s,g3,g4⟩:=R7 he hp
     exact go h ⟨λ_=>⟨rfl,g1,s,g3,g4⟩,λh=>(by cases h),λh=>(by cases h)⟩
   · next cP=>
     split at h
     · next p rc he=>
       obtain⟨hp,h⟩:=h
       exact go h ⟨λh=>(by cases h),λ_ _=>⟨nx,p,he,hp⟩,λh=>(by cases h)⟩
     · split at h
       · next k u he=>
         split at h
         · next hf=>exact go h ⟨λh=>(by cases h),λ_ h=>(by cases h),λ_=>⟨k,u,he,rfl,hf⟩⟩
         · exact h.elim
       · exact h.elim
theorem R8 {ops:List Oper} {V:Fr} {M:Mem} {H:List Hd} {o:Oper} {k:Nat} {u:a_} (h:evalW P Gl N ops V M H o=some (k,u)):o.dst=none:=by
  unfold evalW at h
  split at h
  · next J _ _=>exact J
  · cases h
theorem uE: ∀(l:List Nat) {M:Mem},aR w ω M->aR w ω (mc l M)
  | [],_,hm=>hm
  |k::r,M,hm=>by
   unfold mc
   split
   · next l hh hb=>
     split
     · next hal=>
       refine uE r ?_
       refine hm.Mn rfl hb (by simp[lr]) (λL hL c T hc j hj x hx hd=>⟨by rw[xR];rfl,by rw[xR];trivial⟩) (λj=>BE hal j)
     · exact uE r hm
   · exact uE r hm
theorem IX: ∀{l:List SV},l.all PD=true->l=lr l.length
  | [],_=>rfl
  |s::r,h=>by
   simp only[List.all_cons,Bool.and_eq_true]at h
   have:=IX h.2
   cases s<;>first|(cases h.1;done)|skip
   show _=SV.aK::lr r.length
   rw[<-this]
theorem Va {k:Nat} {e:bk} (h:Fe (ae M k) e=true):Qc M e k:=by
  unfold Fe at h
  split at h
  · next l l' J U h3 h4=>
    simp only[Bool.and_eq_true]at h
    obtain⟨⟨⟨g1,g2⟩,g3⟩,g4⟩:=h
    have g1:=Nat.eq_of_beq_eq_true g1
    have g2:=Nat.eq_of_beq_eq_true g2
    have g4:=Nat.eq_of_beq_eq_true g4
    refine⟨(ae M k).rs,(ae M k).ds,l.length,l',?_,g4,?_⟩
    · rw[<-IX g3]
      generalize ae M k=e0 at*
      cases e0;simp_all
    · cases e;simp_all
  · cases h
theorem oD {rs:List Rc} {i j:Nat} (h:j<i):cr (rs.take i) j=cr rs j:=by
  unfold cr
  rw[List.getD_eq_getElem?_getD,List.getD_eq_getElem?_getD,List.getElem?_take_of_lt h]
theorem np {α:Type} {f g:Nat->List α}: ∀{E:List Nat},(∀j∈E,f j=g j)->E.flatMap f=E.flatMap g
  | [],_=>rfl
  |j::E,h=>by rw[List.flatMap_cons,List.flatMap_cons,h j (by simp),np λi hi=>h i (by simp[hi])]
theorem BX: ∀{l:List (List Nat)},l.flatten.Nodup-> ∀{i j k:Nat} {x y:List Nat},l[i]? =some x->l[j]? =some y->k∈x->k∈y->i=j
  | [],_,i,j,k,x,y,h,_,_,_=>by simp at h
  |z::l,hn,i,j,k,x,y,hi,hj,hx,hy=>by
   rw[List.flatten_cons,List.nodup_append]at hn
   have mem: ∀{q:Nat} {v:List Nat},l[q]? =some v->k∈v->k∈l.flatten:=λhq hv=>List.mem_flatten.2 ⟨_,List.mem_of_getElem? hq,hv⟩
   cases i with
   |zero=>
    cases j with
    |zero=>rfl
    |succ j=>
     simp at hi hj;subst hi
     exact absurd rfl (hn.2.2 k hx k (mem hj hy))
   |succ i=>
    cases j with
    |zero=>
     simp at hi hj;subst hj
     exact absurd rfl (hn.2.2 k hy k (mem hi hx))
    |succ j=>exact congrArg (· +1) (BX hn.2.1 (i:=i) (j:=j) (by simpa using hi) (by simpa using hj) hx hy)
theorem Du {x:Option Nat} {y:Nat} (h:tF x y=true):x=some y:=by
  cases x with
  |none=>cases h
  |some z=>rw[Nat.eq_of_beq_eq_true h]
theorem Cy {k:Nat}: ∀{u:a_},k∈u.map (·.1)-> ∃p∈u,p.1=k/\ae u k=p.2
  | [],h=>by simp at h
  |p::r,h=>by
   obtain⟨p1,p2⟩:=p
   by_cases hk:p1=k
   · subst hk;exact⟨(p1,p2),List.mem_cons_self,rfl,c_⟩
   · simp only[List.map_cons,List.mem_cons]at h
     obtain⟨q,J,U,h3⟩:=Cy (h.resolve_left λe=>hk e.symm)
     exact⟨q,by simp[J],U,by rw[cB hk];exact h3⟩
theorem xE: ∀(l:List Oper) (F:Fr) (t:Nat),look (dO l F) t= .aK\/(look (dO l F) t=look F t/\ ∀o∈l,o.dst≠some t)
  | [],F,t=> .inr ⟨rfl,λo ho=>by simp at ho⟩
  |o::l,F,t=>by
   cases hd:o.dst with
   |none=>
    have e:dO (o::l) F=dO l F:=by simp[dO,hd]
    rw[e]
    rcases xE l F t with h|⟨J,U⟩
    · exact .inl h
    · refine .inr ⟨J,λo' iE=>?_⟩
      rcases List.mem_cons.1 iE with rfl|iE
      · rw[hd];simp
      · exact U o' iE
   |some x=>
    have e:dO (o::l) F=(x,.aK)::dO l F:=by simp[dO,hd]
    rw[e]
    by_cases hx:x=t
    · subst hx;exact .inl look_eq
    · rw[nC hx]
      rcases xE l F t with h|⟨J,U⟩
      · exact .inl h
      · refine .inr ⟨J,λo' iE=>?_⟩
        rcases List.mem_cons.1 iE with rfl|iE
        · rw[hd];simpa using hx
        · exact U o' iE
theorem BY {sg:Bool} {ops:Array Oper} {R:List (List Nat)} {m:Nat} {MJ:Mem} {rs:List Rc} {gs ws:List Bool} {dq:Nat} (hR:dZ ops.toList []=R) (qX:m<=ops.size) (c1:qz 0 ops.toList=true) (c3:nodupB ((ops.toList.take m).map λo=>o.dst.toList).flatten=true) (jh:dK w ω N F a.tmps)
    (U:rs.length=(ops.toList.take m).length) (rj:gs.length=(ops.toList.take m).length) (tG:ws.length=(ops.toList.take m).length)
    (h3: ∀k o,(ops.toList.take m)[k]? =some o->
      (gs.getD k false=true->ws.getD k false=false/\o.guard=none/\ ∃s,cr rs k=⟨gK N o.dst s,[],[]⟩/\(pB P sg (vF (rs.take k) (dO (ops.toList.take m) F) (R.getD k [])) (ae (vM (rs.take k) MJ (R.getD k []))) o.op).run (λs'=>s'=s))/\
      (gs.getD k false=false->ws.getD k false=false-> ∃nx p,nL P sg Gl Γ N ops.toList (vF (rs.take k) (dO (ops.toList.take m) F) (R.getD k [])) (vM (rs.take k) MJ (R.getD k [])) (vH (rs.take k) (R.getD k [])) nx (R.getD k []) o=some (p,cr rs k)/\p)/\
      (ws.getD k false=true-> ∃q u,evalW P Gl N ops.toList (vF (rs.take k) (dO (ops.toList.take m) F) (R.getD k [])) (vM (rs.take k) MJ (R.getD k [])) (vH (rs.take k) (R.getD k [])) o=some (q,u)/\cr rs k=⟨[],[],u⟩/\cv (ae MJ) q=false))
    (c6:vI N ops.toList R MJ rs ws=true) (c7:yM ops.toList R gs=true):
    ji P sg Gl Γ N ops (λi=>R.getD i []) m rs F (dO (ops.toList.take m) F) MJ (λi=>gs.getD i false) (λi=>ws.getD i false)/\ ∀i j,j∈R.getD i []->j<i:=by
  have hlen:rs.length=m:=by rw[U,List.length_take];simp;omega
  have Eh:=(Ho ops.toList []).2
  rw[hR]at Eh
  simp only[List.length_nil,Nat.zero_add]at Eh
  have iv: ∀{i o},ops[i]? =some o->ops.toList[i]? =some o:=λh=>by rw[Array.getElem?_toList];exact h
  have PF: ∀{i o},ops[i]? =some o->R.getD i []=mb (R.take i) o.after.toList []:=λh=>by
    rw[List.getD_eq_getElem?_getD,Eh _ _ (iv h)];rfl
  have vJ: ∀i o,ops[i]? =some o-> ∀e∈o.after,Region.binds .any e=true->e.on<i:=λi o ho e he hb=>by
    have:=G3 c1 i o (iv ho) e he hb
    omega
  have Ff: ∀i o,ops[i]? =some o-> ∀x∈R.getD i [],∃e∈o.after,Region.binds .any e=true/\(x=e.on\/x∈R.getD e.on []):=by
    intro i o ho x hx
    rw[PF ho,uu]at hx
    rcases hx with hx|⟨e,he,hb,hx⟩
    · simp at hx
    · refine⟨e,by simpa using he,hb,hx.imp (λh=>h) λhx=>?_⟩
      have ai:=vJ i o ho e (by simpa using he) hb
      rwa [List.getD_eq_getElem?_getD,List.getElem?_take_of_lt ai,<-List.getD_eq_getElem?_getD]at hx
  have OJ: ∀{i j},j∈R.getD i []-> ∃o,ops[i]? =some o:=by
    intro i j hj
    rcases Nat.lt_or_ge i ops.size with hi|hi
    · exact⟨_,Array.getElem?_eq_getElem hi⟩
    · exfalso
      have hRl:R.length<=ops.size:=by
        have: ∀(l:List Oper) (acc:List (List Nat)),(dZ l acc).length=acc.length+l.length:=by
          intro l
          induction l with
          |nil=>intro acc;simp[dZ]
          |cons o r ih=>intro acc;simp only[dZ,ih];simp;omega
        rw[<-hR,this];simp
      rw[List.getD_eq_getElem?_getD,List.getElem?_eq_none (by omega)]at hj
      simp at hj
  have ai: ∀i j,j∈R.getD i []->j<i:=by
    intro i
    induction i using Nat.strongRecOn with
    |ind i ih=>
     intro j hj
     obtain⟨o,ho⟩:=OJ hj
     obtain⟨e,he,hb,hx⟩:=Ff i o ho j hj
     have:=vJ i o ho e he hb
     rcases hx with rfl|hx
     · exact this
     · have:=ih e.on this j hx;omega
  have tr: ∀{i o e},ops[i]? =some o->e∈o.after->Region.binds .any e=true->e.on∈R.getD i []/\ ∀x∈R.getD e.on [],x∈R.getD i []:=by
    intro i o e ho he hb
    have tt:=vJ i o ho e he hb
    rw[PF ho]
    refine⟨uu.2 (.inr ⟨e,by simpa using he,hb,.inl rfl⟩),λx hx=>uu.2 (.inr ⟨e,by simpa using he,hb,.inr ?_⟩)⟩
    rwa [List.getD_eq_getElem?_getD,List.getElem?_take_of_lt tt,<-List.getD_eq_getElem?_getD]
  have FH: ∀i j,j∈R.getD i []-> ∀k∈R.getD j [],k∈R.getD i []:=by
    intro i
    induction i using Nat.strongRecOn with
    |ind i ih=>
     intro j hj k hk
     obtain⟨o,ho⟩:=OJ hj
     obtain⟨e,he,hb,hx⟩:=Ff i o ho j hj
     rcases hx with rfl|hx
     · exact(tr ho he hb).2 k hk
     · exact(tr ho he hb).2 k (ih e.on (vJ i o ho e he hb) j hx k hk)
  have abF:gs.length=m:=by rw[rj,List.length_take];simp;omega
  simp only[vI,Bool.and_eq_true]at c6
  obtain⟨k1,k2⟩:=c6
  have k1:=sb k1
  have kk: ∀i,i<m->_:=λi hi=>List.all_eq_true.1 k2 i (List.mem_range.2 (by rw[hlen];exact hi))
  have short: ∀i,m<=i->cr rs i=⟨[],[],[]⟩:=λi hi=>by
    unfold cr
    rw[List.getD_eq_getElem?_getD,List.getElem?_eq_none (by omega)];rfl
  have tH: ∀{i k},k∈keys rs i->i<m:=λ{i k} hk=>by
    rcases Nat.lt_or_ge i m with h|h
    · exact h
    · unfold keys at hk;rw[short i h]at hk;simp at hk
  have Ei: ∀i,vG ops.toList i=iX ops i:=λi=>by
    unfold vG iX
    rw[Array.getElem?_toList]
    cases ops[i]? <;>rfl
  have SS:ji P sg Gl Γ N ops (λi=>R.getD i []) m rs F (dO (ops.toList.take m) F) MJ (λi=>gs.getD i false) (λi=>ws.getD i false):=by
    refine⟨Ff,FH,ai,vJ,qX,?_,?_,?_,?_,?_,?_,?_,?_,?_,?_,?_,?_,short,?_,?_⟩
    · intro i o hi ho gq mo
      obtain⟨iQ,p,g1,g2⟩:=(h3 i o (by rw[List.getElem?_take_of_lt hi];exact iv ho)).2.1 gq mo
      refine⟨iQ,p,?_,g2⟩
      have e1:vF (rs.take i) (dO (ops.toList.take m) F) (R.getD i [])=vF rs (dO (ops.toList.take m) F) (R.getD i []):=by
        unfold vF;rw[np λj hj=>by rw[oD (ai i j hj)]]
      have e2:vM (rs.take i) MJ (R.getD i [])=vM rs MJ (R.getD i []):=by
        unfold vM;rw[np λj hj=>by rw[oD (ai i j hj)]]
      have e3:vH (rs.take i) (R.getD i [])=vH rs (R.getD i []):=by
        unfold vH;rw[np λj hj=>by rw[oD (ai i j hj)]]
      rw[e1,e2,e3]at g1
      exact g1
    · intro i o hi ho gq mo
      obtain⟨q,u,g1,g2,g3⟩:=(h3 i o (by rw[List.getElem?_take_of_lt hi];exact iv ho)).2.2 mo
      have e1:vF (rs.take i) (dO (ops.toList.take m) F) (R.getD i [])=vF rs (dO (ops.toList.take m) F) (R.getD i []):=by
        unfold vF;rw[np λj hj=>by rw[oD (ai i j hj)]]
      have e2:vM (rs.take i) MJ (R.getD i [])=vM rs MJ (R.getD i []):=by
        unfold vM;rw[np λj hj=>by rw[oD (ai i j hj)]]
      have e3:vH (rs.take i) (R.getD i [])=vH rs (R.getD i []):=by
        unfold vH;rw[np λj hj=>by rw[oD (ai i j hj)]]
      rw[e1,e2,e3]at g1
      exact⟨R8 g1,by rw[g2],by rw[g2],q,by rw[g2];exact g1,g3⟩
    · intro i mo k hk
      obtain⟨p,hp,rfl⟩:=List.mem_map.1 hk
      have:=kk i (tH hk)
      simp only[Bool.and_eq_true]at this
      have:=List.all_eq_true.1 this.2 p hp
      simp only[Bool.and_eq_true,Bool.or_eq_true]at this
      rcases this.1.1 with h|h
      · exact h
      · have mo:ws.getD i false=false:=mo
        rw[mo]at h;cases h.1.1
    · intro i o hi ho gq
      obtain⟨_,g1,s,g3,g4⟩:=(h3 i o (by rw[List.getElem?_take_of_lt hi];exact iv ho)).1 gq
      have e1:vF (rs.take i) (dO (ops.toList.take m) F) (R.getD i [])=vF rs (dO (ops.toList.take m) F) (R.getD i []):=by
        unfold vF;rw[np λj hj=>by rw[oD (ai i j hj)]]
      have e2: ∀MJ,vM (rs.take i) MJ (R.getD i [])=vM rs MJ (R.getD i []):=by
        intro MJ
        unfold vM;rw[np λj hj=>by rw[oD (ai i j hj)]]
      rw[e1,e2]at g4
      exact⟨g1,s,g3,g4⟩
    · intro i oi hi gq ho j oj Qd cf rk cP
      have:=List.all_eq_true.1 c7 i (List.mem_range.2 (by omega))
      rw[gq,iv ho]at this
      simp only[Bool.not_true,Bool.false_or,Bool.and_eq_true]at this
      have br:=(Array.getElem?_eq_some_iff.1 Qd).1
      have:=List.all_eq_true.1 this.2 j (List.mem_range.2 (by simpa using br))
      rw[iv Qd,Bool.or_eq_true,Bool.or_eq_true]at this
      rcases this with(h|h)|h
      · exact absurd (Nat.eq_of_beq_eq_true h) cf
      · exact absurd (gC.1 h) rk
      · rw[Bool.or_eq_true]at h
        rcases h with h|h
        · rw[List.any_eq_true]at h
          obtain⟨e,he,hb⟩:=h
          rw[Bool.and_eq_true]at hb
          exact absurd (Nat.eq_of_beq_eq_true hb.2) (cP e (by simpa using he) hb.1)
        · simpa using h
    · intro i hi gq
      have:=List.all_eq_true.1 c7 i (List.mem_range.2 (by omega))
      have bT:i<ops.toList.length:=by simp;omega
      rw[gq,List.getElem?_eq_getElem bT]at this
      simp only[Bool.not_true,Bool.false_or,Bool.and_eq_true]at this
      simpa using this.1
    · intro i p hp
      have hi:i<m:=by
        rcases Nat.lt_or_ge i m with h|h
        · exact h
        · rw[short i h]at hp;simp at hp
      have:=kk i hi
      simp only[Bool.and_eq_true]at this
      have:=List.all_eq_true.1 this.1.1 p hp
      rw[Bool.and_eq_true]at this
      rw[<-Ei]
      exact⟨Du this.1,Nat.le_of_ble_eq_true this.2⟩
    · intro i x hx
      have hi:i<m:=by
        rcases Nat.lt_or_ge i m with h|h
        · exact h
        · rw[short i h]at hx;simp at hx
      have:=kk i hi
      simp only[Bool.and_eq_true]at this
      have:=List.all_eq_true.1 this.1.2 x hx
      rw[Bool.and_eq_true,List.any_eq_true]at this
      obtain⟨d1,g,hg,d2⟩:=this
      rw[<-Ei]
      exact⟨Du d1,g,hg,by rw[<-Ei];exact Du d2⟩
    · intro i j t hi hj e1 e2
      have get: ∀{q},q<m->iX ops q=some t-> ∃x,((ops.toList.take m).map λo=>o.dst.toList)[q]? =some x/\t∈x:=by
        intro q hq hd
        unfold iX at hd
        cases ho:ops[q]? with
        |none=>rw[ho]at hd;cases hd
        |some o=>
         rw[ho]at hd
         have hd:o.dst=some t:=hd
         exact⟨o.dst.toList,by rw[List.getElem?_map,List.getElem?_take_of_lt hq,iv ho];rfl,by rw[hd];simp⟩
      obtain⟨x,x1,x2⟩:=get hi e1
      obtain⟨y,y1,y2⟩:=get hj e2
      exact BX (sb c3) x1 y1 x2 y2
    · intro i j k hi hj
      have get: ∀{q},q<m->(rs.map λrc=>rc.u.map (·.1))[q]? =some (keys rs q):=by
        intro q hq
        have:rs[q]? =some rs[q]:=List.getElem?_eq_getElem (by omega)
        rw[List.getElem?_map,this]
        simp[keys,cr,List.getD_eq_getElem?_getD,this]
      exact BX k1 (get (tH hi)) (get (tH hj)) hi hj
    · intro i k hk
      obtain⟨p,hp,rfl⟩:=List.mem_map.1 hk
      have:=kk i (tH hk)
      simp only[Bool.and_eq_true]at this
      have:=List.all_eq_true.1 this.2 p hp
      simp only[Bool.and_eq_true,Bool.or_eq_true,Bool.not_eq_true']at this
      rcases this.1.1 with h|⟨⟨_,h⟩,U⟩
      · exact .inl h
      · refine .inr ⟨h,?_⟩
        obtain⟨p',FO,hpe,FP⟩:=Cy hk
        obtain⟨x,hx,hxe⟩:=List.mem_map.1 hk
        rw[FP]
        have:=kk i (tH hk)
        simp only[Bool.and_eq_true]at this
        have:=List.all_eq_true.1 this.2 p' FO
        simp only[Bool.and_eq_true,Bool.or_eq_true,Bool.not_eq_true']at this
        rw[<-hpe]at h⊢
        rcases this.1.1 with h'|⟨_,h'⟩
        · rw[h]at h';cases h'
        · exact Va h'
    · intro i k hk
      obtain⟨p,hp,rfl,FP⟩:=Cy hk
      have:=kk i (tH hk)
      simp only[Bool.and_eq_true]at this
      have:=List.all_eq_true.1 this.2 p hp
      simp only[Bool.and_eq_true]at this
      rw[FP]
      exact⟨Nat.eq_of_beq_eq_true this.1.2,Nat.eq_of_beq_eq_true this.2⟩
    · intro t
      rcases xE (ops.toList.take m) F t with e|⟨e1,e2⟩
      · exact .inl e
      · refine .inr ⟨e1,λi hi lA=>?_⟩
        unfold iX at lA
        cases ho:ops[i]? with
        |none=>rw[ho]at lA;cases lA
        |some o=>
         rw[ho]at lA
         exact e2 o (List.mem_of_getElem? (i:=i) (by rw[List.getElem?_take_of_lt hi];exact iv ho)) lA
    · intro t ht
      rcases xE (ops.toList.take m) F t with e|⟨e1,_⟩
      · exact e
      · rw[e1];exact jh.out t ht
  exact⟨SS,ai⟩
theorem IY (hS:Sound P Gl Γ) {sg:Bool} {ops:Array Oper} {Q:Exit->Act->World->Prop} {K:Fr->Mem->Nat->Prop} {S:List Nat} {nx:Nat}
    (iR: ∀d c a v w,Q (.panic c) (Act.put a d v) w->Q (.panic c) a w) (hQ: ∀a' w',vK P Gl N S a w ω K a' w'->Q .normal a' w') (hd: ∀o∈ops.toList,∀t,o.dst=some t->t∈S) (h:St P Gl N F M a w ω) (he:yN P sg Gl Γ N ops.toList K F M nx):P.follows .mixedOrders=true/\wpAny P .any ops Q ops.size (Array.replicate ops.size false) a {w with drawn:=w.drawn+1}:=by
  unfold yN at he
  simp only[uv,jK]at he
  split at he
  rotate_left
  · exact he.elim
  next c1 c3 c4 c5=>
  generalize hR:dZ ops.toList []=R at*
  generalize hm:Ct ops.toList 0 R 0=m at*
  have qX:m<=ops.size:=by simpa using Nat.le_of_ble_eq_true c4
  have rm:aR w ω (mc ((ops.toList.take m).filterMap (sS Gl (jP P sg Gl Γ N M (ops.toList.take m) F nx))) M):=uE _ h.mem
  generalize mc ((ops.toList.take m).filterMap (sS Gl (jP P sg Gl Γ N M (ops.toList.take m) F nx))) M=MJ at*
  obtain⟨rs,gs,ws,dq,J,U,rj,tG,h3⟩:=xQ (ops.toList.take m) 0 [] [] [] nx rfl rfl rfl he
  simp only[List.nil_append,Nat.zero_add]at J h3
  split at J
  rotate_left
  · exact J.elim
  next c6=>
  rw[Bool.and_eq_true,Bool.and_eq_true]at c6
  obtain⟨⟨c6,c2⟩,c7⟩:=c6
  have iv: ∀{i o},ops[i]? =some o->ops.toList[i]? =some o:=λh=>by rw[Array.getElem?_toList];exact h
  obtain⟨SS,ai⟩:=BY (Gl:=Gl) (Γ:=Γ) (sg:=sg) (dq:=dq) hR qX c1 c3 h.frame U rj tG h3 c6 c7
  have hT: ∀i,m<=i->i<ops.size-> ∀j,j<i->j∈R.getD i []\/(j<m/\gs.getD j false=true):=by
    intro i AR bT j hj
    have:=List.all_eq_true.1 c2 i (List.mem_range.2 (by simpa using bT))
    rw[Bool.or_eq_true]at this
    rcases this with h|h
    · have:i<m:=Nat.le_of_ble_eq_true h
      omega
    · have h:=List.all_eq_true.1 h j (List.mem_range.2 hj)
      rw[Bool.or_eq_true,Bool.and_eq_true]at h
      exact h.imp gC.1 λh=>⟨Nat.le_of_ble_eq_true h.1,h.2⟩
  refine⟨c5,?_⟩
  have iS:Cw w {w with drawn:=w.drawn+1}:=⟨rfl,rfl,rfl,Nat.le_refl _,λ_ _=>rfl⟩
  have hJ:St P Gl N F MJ a w ω:=⟨h.frame,h.dY,rm,h.defers⟩
  have h':=hJ.step (bz.more rm iS)
  have eh:=h'.mem
  refine WT (ω:=ω) (a0:=a) (bj:=ω) hS SS hT eh h'.frame h'.dY iR ?_ ops.size (Array.replicate ops.size false) a _ (by simp) ?_ ?_
  · intro a' w' al I
    obtain⟨g1,g2,g3⟩:=I.all SS eh h'.frame (E:=List.range m) (λj hj=>List.mem_range.1 hj) (λj hj k hk=>List.mem_range.2 (by have:=ai j k hk;have:=List.mem_range.1 hj;omega))
    have bP:=I.nW SS eh (List.range m)
    have bH:St P Gl N (vF rs (dO (ops.toList.take m) F) (List.range m)) (vM rs MJ (List.range m)) a' w' (cR rs MJ al (List.range m)):=⟨g2,λg=>Den.ext (o:=ω.bare) bP.bare (h'.dY g),g1,I.defers⟩
    obtain⟨F5,M5,wv,wx,J⟩:=rZ J
    refine ny hS hQ (ops.toList.drop m) _ _ dq _ a' w' _ (λo ho=>hd o (List.mem_of_mem_drop ho)) (bH.congr wv wx) g3 ((iS.ext ω).trans bP) ⟨by rw[I.size,h.frame.size],λi hi=>?_⟩ J
    refine I.keep i λj hj iG=>?_
    unfold iX at iG
    cases ho:ops[j]? with
    |none=>rw[ho]at iG;cases iG
    |some o=>
     rw[ho]at iG
     exact hi (hd o (List.mem_of_getElem? (iv ho)) i iG)
  · unfold jS
    exact Nat.le_trans (List.length_filter_le _ _) (by simp)
  · have no: ∀j,¬(Array.replicate ops.size false).getD j false=true:=λj=>by
      simp[Array.getD]
    exact⟨λj hj=>absurd hj (no j),λj hj=>absurd hj (no j),⟨rfl,rfl,rfl,Nat.le_refl _,λ_ _ _=>rfl⟩,λj k _ _ L hL=>(let⟨_,_,_,_,c,T,J,U,_⟩:=eh.row k none L hL;⟨c,T,J,U⟩),λ_ h=>h,eh.d_,λ_ _ h=>h,rfl,eh.dj,rfl,λ_ _ _=>rfl,λk p L hL=>eh.own _ ⟨k,p,L,hL,rfl⟩,eh.inj,h.defers,h.frame.size,λ_ _=>rfl,λj hj=>absurd hj (no j)⟩
theorem R9 (hS:Sound P Gl Γ) {sg:Bool} {ops:Array Oper} {Q:Exit->Act->World->Prop} {K:Fr->Mem->Nat->Prop} {S:List Nat} {nx:Nat}
    (iR: ∀d c a v w,Q (.panic c) (Act.put a d v) w->Q (.panic c) a w) (hQ: ∀a' w',vK P Gl N S a w ω K a' w'->Q .normal a' w') (hd: ∀o∈ops.toList,∀t,o.dst=some t->t∈S) (h:St P Gl N F M a w ω) {m:Nat} (he:Cu P sg Gl Γ N ops.toList m K F M nx):P.follows .mixedOrders=true/\wpAny P .any ops Q ops.size (Array.replicate ops.size false) a {w with drawn:=w.drawn+1}:=by
  unfold Cu at he
  simp only[uv]at he
  split at he
  rotate_left
  · exact he.elim
  next c1 c3 c4 c5=>
  generalize hR:dZ ops.toList []=R at*
  have qX:m<=ops.size:=by simpa using Nat.le_of_ble_eq_true c4
  have rm:aR w ω (mc ((ops.toList.take m).filterMap (sS Gl (jP P sg Gl Γ N M (ops.toList.take m) F nx))) M):=uE _ h.mem
  generalize mc ((ops.toList.take m).filterMap (sS Gl (jP P sg Gl Γ N M (ops.toList.take m) F nx))) M=MJ at*
  obtain⟨rs,gs,ws,dq,J,U,rj,tG,h3⟩:=xQ (ops.toList.take m) 0 [] [] [] nx rfl rfl rfl he
  simp only[List.nil_append,Nat.zero_add]at J h3
  split at J
  rotate_left
  · exact J.elim
  next p KQ oB c6 cq dg=>
  split at J
  rotate_left
  · exact J.elim
  next pr κ ck cn=>
  split at J
  rotate_left
  · exact J.elim
  next GO=>
  obtain⟨hp,AS,J⟩:=J
  simp only[Bool.and_eq_true]at c6
  obtain⟨⟨⟨c6,c2⟩,c7⟩,c8⟩:=c6
  have iv: ∀{i o},ops[i]? =some o->ops.toList[i]? =some o:=λh=>by rw[Array.getElem?_toList];exact h
  obtain⟨SS,ai⟩:=BY (Gl:=Gl) (Γ:=Γ) (sg:=sg) (dq:=dq) hR qX c1 c3 h.frame U rj tG h3 c6 c7
  have hT: ∀i,m<i->i<ops.size-> ∀j,j<i->j∈R.getD i []:=by
    intro i AR bT j hj
    have:=List.all_eq_true.1 c2 i (List.mem_range.2 (by simpa using bT))
    rw[Bool.or_eq_true]at this
    rcases this with h|h
    · have:i<=m:=Nat.le_of_ble_eq_true h
      omega
    · exact gC.1 (List.all_eq_true.1 h j (List.mem_range.2 hj))
  have z_:ops[m]? =some oB:=by rw[<-Array.getElem?_toList];exact dg
  unfold AP at c8
  rw[dg]at c8
  simp only[Bool.and_eq_true]at c8
  have QQ:AT P Gl N ops (λi=>R.getD i []) m rs (dO (ops.toList.take m) F) MJ (λi=>gs.getD i false) KQ oB:=by
    refine⟨z_,λj o hj ho hn hr=>xn cq hp j (List.mem_range.2 hj) o (iv ho) hn hr,⟨_,pr,κ,cn,AS,λk hk rn=>?_⟩,λk hk=>?_,by simpa using c8.1,λj o hj ho hn=>?_,λj hj=>ai m j hj⟩
    · have:=List.all_eq_true.1 GO k hk
      rw[gC.2 rn]at this
      cases this
    · have:=List.all_eq_true.1 ck k hk
      simp only[Bool.and_eq_true,Bool.not_eq_true']at this
      refine⟨this.1,λj dr=>?_⟩
      unfold keys at dr
      have rp:j<rs.length:=by
        rcases Nat.lt_or_ge j rs.length with h|h
        · exact h
        · unfold cr at dr
          rw[List.getD_eq_getElem?_getD,List.getElem?_eq_none h]at dr
          simp at dr
      have kj:cr rs j∈rs:=by
        unfold cr
        rw[List.getD_eq_getElem?_getD,List.getElem?_eq_getElem rp]
        exact List.getElem_mem rp
      have:=List.all_eq_true.1 this.2 (cr rs j) kj
      rw[gC.2 dr]at this
      cases this
    · have:=List.all_eq_true.1 c8.2 j (List.mem_range.2 hj)
      rw[Bool.or_eq_true]at this
      rcases this with h|h
      · exact absurd (gC.1 h) hn
      · rw[iv ho]at h
        simpa using h
  refine⟨c5,?_⟩
  have iS:Cw w {w with drawn:=w.drawn+1}:=⟨rfl,rfl,rfl,Nat.le_refl _,λ_ _=>rfl⟩
  have hJ:St P Gl N F MJ a w ω:=⟨h.frame,h.dY,rm,h.defers⟩
  have h':=hJ.step (bz.more rm iS)
  have eh:=h'.mem
  refine Vb (ω:=ω) (a0:=a) (bj:=ω) hS SS hT eh h'.frame h'.dY iR QQ ?_ ops.size (Array.replicate ops.size false) a _ (by simp) ?_ ?_
  · intro a' w' al I
    obtain⟨g1,g2,g3⟩:=I.all SS eh h'.frame (E:=List.range m) (λj hj=>List.mem_range.1 hj) (λj hj k hk=>List.mem_range.2 (by have:=ai j k hk;have:=List.mem_range.1 hj;omega))
    have bP:=I.nW SS eh (List.range m)
    have bH:St P Gl N (vF rs (dO (ops.toList.take m) F) (List.range m)) (vM rs MJ (List.range m)) a' w' (cR rs MJ al (List.range m)):=⟨g2,λg=>Den.ext (o:=ω.bare) bP.bare (h'.dY g),g1,I.defers⟩
    obtain⟨F5,M5,wv,wx,J⟩:=rZ J
    refine ny hS hQ (ops.toList.drop m) _ _ dq _ a' w' _ (λo ho=>hd o (List.mem_of_mem_drop ho)) (bH.congr wv wx) g3 ((iS.ext ω).trans bP) ⟨by rw[I.size,h.frame.size],λi hi=>?_⟩ J
    refine I.keep i λj hj iG=>?_
    unfold iX at iG
    cases ho:ops[j]? with
    |none=>rw[ho]at iG;cases iG
    |some o=>
     rw[ho]at iG
     exact hi (hd o (List.mem_of_getElem? (iv ho)) i iG)
  · unfold jS
    exact Nat.le_trans (List.length_filter_le _ _) (by simp)
  · have no: ∀j,¬(Array.replicate ops.size false).getD j false=true:=λj=>by
      simp[Array.getD]
    exact⟨λj hj=>absurd hj (no j),λj hj=>absurd hj (no j),⟨rfl,rfl,rfl,Nat.le_refl _,λ_ _ _=>rfl⟩,λj k _ _ L hL=>(let⟨_,_,_,_,c,T,J,U,_⟩:=eh.row k none L hL;⟨c,T,J,U⟩),λ_ h=>h,eh.d_,λ_ _ h=>h,rfl,eh.dj,rfl,λ_ _ _=>rfl,λk p L hL=>eh.own _ ⟨k,p,L,hL,rfl⟩,eh.inj,h.defers,h.frame.size,λ_ _=>rfl,λj hj=>absurd hj (no j)⟩
theorem Vc {u:a_} {X Y:Mem} (h: ∀k,ae X k=ae Y k) (k:Nat):ae (u++X) k=ae (u++Y) k:=by
  by_cases hk:k∈u.map (·.1)
  · rw[yP hk,yP hk]
  · rw[uO hk,uO hk];exact h k
theorem R_ (hS:Sound P Gl Γ) {sg:Bool} {ops:Array Oper} {Q:Exit->Act->World->Prop} {K:Fr->Mem->Nat->Prop} {S:List Nat} {nx:Nat}
    (iR: ∀d c a v w,Q (.panic c) (Act.put a d v) w->Q (.panic c) a w) (hQ: ∀a' w',vK P Gl N S a w ω K a' w'->Q .normal a' w') (hd: ∀o∈ops.toList,∀t,o.dst=some t->t∈S) (h:St P Gl N F M a w ω) {m:Nat} (he:Cv P sg Gl Γ N ops.toList m K F M nx):P.follows .mixedOrders=true/\wpAny P .any ops Q ops.size (Array.replicate ops.size false) a {w with drawn:=w.drawn+1}:=by
  unfold Cv at he
  simp only[uv]at he
  split at he
  rotate_left
  · exact he.elim
  next c1 c3 c4 c5=>
  generalize hR:dZ ops.toList []=R at*
  have qX:m<=ops.size:=by simpa using Nat.le_of_ble_eq_true c4
  obtain⟨rs,gs,ws,dq,J,U,rj,tG,h3⟩:=xQ (ops.toList.take m) 0 [] [] [] nx rfl rfl rfl he
  simp only[List.nil_append,Nat.zero_add]at J h3
  split at J
  rotate_left
  · exact J.elim
  next p KQ oB c6 cq dg=>
  split at J
  rotate_left
  · exact J.elim
  next pr sB uB ck cn=>
  split at J
  rotate_left
  · exact J.elim
  next GO cfr=>
  obtain⟨hp,AS,J⟩:=J
  simp only[Bool.and_eq_true]at c6
  obtain⟨⟨⟨⟨c6,c2⟩,c7⟩,c8⟩,c9⟩:=c6
  have iv: ∀{i o},ops[i]? =some o->ops.toList[i]? =some o:=λh=>by rw[Array.getElem?_toList];exact h
  obtain⟨SS,ai⟩:=BY (Gl:=Gl) (Γ:=Γ) (sg:=sg) (dq:=dq) hR qX c1 c3 h.frame U rj tG h3 c6 c7
  have hT: ∀i,m<i->i<ops.size-> ∀j,j<i->j∈R.getD i []:=by
    intro i AR bT j hj
    have:=List.all_eq_true.1 c2 i (List.mem_range.2 (by simpa using bT))
    rw[Bool.or_eq_true]at this
    rcases this with h|h
    · have:i<=m:=Nat.le_of_ble_eq_true h
      omega
    · exact gC.1 (List.all_eq_true.1 h j (List.mem_range.2 hj))
  have z_:ops[m]? =some oB:=by rw[<-Array.getElem?_toList];exact dg
  unfold AP at c8
  rw[dg]at c8
  simp only[Bool.and_eq_true]at c8
  have Fg: ∀j,j<m->j∉R.getD m []->keys rs j= []/\ws.getD j false=false:=by
    intro j hj hn
    have:=List.all_eq_true.1 c9 j (List.mem_range.2 hj)
    rw[Bool.or_eq_true]at this
    rcases this with h|h
    · exact absurd (gC.1 h) hn
    · rw[Bool.and_eq_true,Bool.not_eq_true']at h
      refine⟨?_,h.2⟩
      have h:=h.1
      unfold keys
      split at h
      · next e=>rw[e];rfl
      · cases h
  have QQ:Aa P Gl Γ N ops (λi=>R.getD i []) m rs (dO (ops.toList.take m) F) M (λi=>gs.getD i false) (λi=>ws.getD i false) KQ oB sB uB:=by
    refine⟨z_,λj o hj ho hn hr=>xn cq hp j (List.mem_range.2 hj) o (iv ho) hn hr,Fg,⟨dq,pr,cn,AS⟩,λk hk rn=>?_,λk hk=>?_,by simpa using c8.1,λj o hj ho hn=>?_,λj hj=>ai m j hj⟩
    · have:=List.all_eq_true.1 GO k hk
      rw[gC.2 rn]at this
      cases this
    · have:=List.all_eq_true.1 ck k hk
      simp only[Bool.and_eq_true,Bool.not_eq_true']at this
      refine⟨this.1,λj dr=>?_⟩
      unfold keys at dr
      have rp:j<rs.length:=by
        rcases Nat.lt_or_ge j rs.length with h|h
        · exact h
        · unfold cr at dr
          rw[List.getD_eq_getElem?_getD,List.getElem?_eq_none h]at dr
          simp at dr
      have kj:cr rs j∈rs:=by
        unfold cr
        rw[List.getD_eq_getElem?_getD,List.getElem?_eq_getElem rp]
        exact List.getElem_mem rp
      have:=List.all_eq_true.1 this.2 (cr rs j) kj
      rw[gC.2 dr]at this
      cases this
    · have:=List.all_eq_true.1 c8.2 j (List.mem_range.2 hj)
      rw[Bool.or_eq_true]at this
      rcases this with h|h
      · exact absurd (gC.1 h) hn
      · rw[iv ho]at h
        simpa using h
  refine⟨c5,?_⟩
  have iS:Cw w {w with drawn:=w.drawn+1}:=⟨rfl,rfl,rfl,Nat.le_refl _,λ_ _=>rfl⟩
  have h':=h.step (bz.more h.mem iS)
  have eh:=h'.mem
  have mq:m<ops.size:=(Array.getElem?_eq_some_iff.1 z_).1
  refine Vd (ω:=ω) (a0:=a) (bj:=ω) hS SS hT eh h'.frame h'.dY iR QQ ?_ ops.size (Array.replicate ops.size false) a _ (by simp) ?_ ?_
  · intro a' w' al v w2 I zr
    obtain⟨_,ib,hx,kj,kh⟩:=zr
    obtain⟨g1,g2,g3⟩:=I.all SS eh h'.frame (E:=List.range m) (λj hj=>List.mem_range.1 hj) (λj hj k hk=>List.mem_range.2 (by have:=ai j k hk;have:=List.mem_range.1 hj;omega))
    have tr:cR rs M al (List.range m)=cR rs M al (R.getD m []):=by
      show(⟨_,_,_,_⟩:Ow)=⟨_,_,_,_⟩
      congr 1
      funext k q
      have:gO rs M (List.range m) k↔gO rs M (R.getD m []) k:=by
        constructor
        · rintro ⟨e0,e1,e2⟩
          exact⟨e0,e1,λ⟨j,hj,dr⟩=>e2 ⟨j,List.mem_range.2 (ai m j hj),dr⟩⟩
        · rintro ⟨e0,e1,e2⟩
          refine⟨e0,e1,?_⟩
          rintro ⟨j,hj,dr⟩
          have iH:=List.mem_range.1 hj
          by_cases hn:j∈R.getD m []
          · exact e2 ⟨j,hn,dr⟩
          · rw[(Fg j iH hn).1]at dr;cases dr
      by_cases hh:gO rs M (List.range m) k
      · rw[if_pos hh,if_pos (this.1 hh)]
      · rw[if_neg hh,if_neg (λe=>hh (this.2 e))]
    have tu: ∀k,ae (vM rs M (List.range m)) k=ae (vM rs M (R.getD m [])) k:=by
      intro k
      by_cases hk: ∃j∈R.getD m [],k∈keys rs j
      · obtain⟨j,hj,dr⟩:=hk
        rw[sc (λi j=>SS.key i j _) dr (List.mem_range.2 (ai m j hj)),sc (λi j=>SS.key i j _) dr hj]
      · rw[nq λj hj dr=>?_,nq λj hj dr=>hk ⟨j,hj,dr⟩]
        have iH:=List.mem_range.1 hj
        by_cases hn:j∈R.getD m []
        · exact hk ⟨j,hn,dr⟩
        · rw[(Fg j iH hn).1]at dr;cases dr
    rw[tr]at g1 g2 g3
    have bP:=I.nW SS eh (R.getD m [])
    have bH:St P Gl N (vF rs (dO (ops.toList.take m) F) (List.range m)) (uB++vM rs M (List.range m)) a' w2 ib:=⟨g2.ext hx,λg=>Den.ext (o:=ω.bare) (bP.trans hx).bare (h'.dY g),kj.congr (Vc tu),I.defers⟩
    obtain⟨F5,M5,wv,wx,J⟩:=rZ J
    have hoB:oB∈ops.toList:=List.mem_of_getElem? dg
    have hk1:dx S a a':=by
      refine⟨by rw[I.size,h.frame.size],λi hi=>?_⟩
      refine I.keep i λj hj iG=>?_
      unfold iX at iG
      cases ho:ops[j]? with
      |none=>rw[ho]at iG;cases iG
      |some o=>
       rw[ho]at iG
       exact hi (hd o (List.mem_of_getElem? (iv ho)) i iG)
    exact ny hS hQ (ops.toList.drop (m+1)) _ _ _ _ (a'.put oB.dst v) w2 ib (λo ho=>hd o (List.mem_of_mem_drop ho)) ((bH.put kh).congr wv wx) ((g3.ext hx).put cfr v) (((iS.ext ω).trans bP).trans hx) (hk1.put (hd oB hoB) v) J
  · unfold jS
    exact Nat.le_trans (List.length_filter_le _ _) (by simp)
  · have no: ∀j,¬(Array.replicate ops.size false).getD j false=true:=λj=>by
      simp[Array.getD]
    exact⟨λj hj=>absurd hj (no j),λj hj=>absurd hj (no j),⟨rfl,rfl,rfl,Nat.le_refl _,λ_ _ _=>rfl⟩,λj k _ _ L hL=>(let⟨_,_,_,_,c,T,J,U,_⟩:=eh.row k none L hL;⟨c,T,J,U⟩),λ_ h=>h,eh.d_,λ_ _ h=>h,rfl,eh.dj,rfl,λ_ _ _=>rfl,λk p L hL=>eh.own _ ⟨k,p,L,hL,rfl⟩,eh.inj,h.defers,h.frame.size,λ_ _=>rfl,λj hj=>absurd hj (no j)⟩
def YJ (P:Program) (Gl:Nat->SV) (Γ:Table) (ops:List Oper) (m:Nat) (F:Fr) (M:Mem) (nx:Nat):Option Nat:=
  (List.range m).find? λi=>match ops[i]? with|some o=>(match zu P Gl Γ F M nx o with|some x=>!iY (ae M) x.2.2|none=>false)|none=>false
def YK (Gl:Nat->SV) (ops:List Oper) (m:Nat) (F:Fr) (M:Mem):Option Nat:=
  (List.range m).find? λi=>match ops[i]? with|some o=>(match o.op with| .store _ x _=>(match cK Gl F x with| .ptr k _ _ _ _=>(match (ae M k).b with| .row _ _ _=>true|_=>false)|_=>false)|_=>false)|none=>false
def sk (ops:List Oper):Nat->List (List Nat)->Nat->Nat
  |_,[],m=>m
  |i,p::r,m=>sk ops (i+1) r (match vo ops i||Nat.beq p.length i||(List.range i).all λj=>cO p j||vo ops j with|true=>m|false=>i+1)
def Mo (ops:List Oper) (m:Nat):Nat->List (List Nat)->List Nat->List Nat
  |_,[],acc=>acc
  |i,p::r,acc=>Mo ops m (i+1) r (match !Nat.blt i m&&vo ops i&&!((List.range i).all λj=>cO p j||vo ops j)&&p.all (λj=>Nat.blt j m||cO acc j)with|true=>acc++ [i]|false=>acc)
def isApp:Op->Bool
  | .call {callee:= .builtin .append,args:=_,argTypes:=_}=>true
  |_=>false
def Ve:Op->Option Nat
  | .call {callee:= .builtin .append,args:=⟨[.tmp t,_]⟩,argTypes:=_}=>some t
  |_=>none
def WU:SV->Bool
  | .aV _ _ _ _ _=>true
  |_=>false
def ZZ:Op->Bool
  | .load _ _=>true
  |_=>false
def YL (V:Fr) (ops:List Oper) (o:Oper):Bool:=
  match Ve o.op with
  |some t=>
   (match ops.any λp=>isApp p.op&&tF p.dst t with
    |true=>true
    |false=>match ops.any λp=>ZZ p.op&&tF p.dst t with
     |true=>WU (look V t)
     |false=>false)
  |none=>false
def YM (V:Fr) (ops:List Oper) (m:Nat):Option Nat:=(List.range m).find? λi=>match ops[i]? with|some o=>YL V ops o|none=>false
def jz (R:List (List Nat)) (n i:Nat):List Nat×List Nat:=((List.range n).filter λk=>!Nat.beq k i&&!cO (R.getD k []) i,(List.range n).filter λk=>cO (R.getD k []) i)
def Cq (P:Program) (sg:Bool) (Gl:Nat->SV) (Γ:Table) (N:Nat) (ops:List Oper) (K:Fr->Mem->Nat->Prop) (F:Fr) (M:Mem) (nx:Nat):Prop:=
  qA (dZ ops []) λR=>
  fh (sk ops 0 R 0) λm=>
  match YM (jP P sg Gl Γ N M (ops.take m) F nx) ops m with
  |some i=>
   qT ((jz R ops.length i).1++ [i]++(jz R ops.length i).2) λord=>
   match oX ord ops.length with
   |true=>fh (jz R ops.length i).1.length λmB=>tI (iZ ord ops) λvL=>Cu P sg Gl Γ N vL mB K F M nx
   |false=>False
  |none=>
  match (match YJ P Gl Γ ops m (jP P sg Gl Γ N M (ops.take m) F nx) M nx with|some i=>some i|none=>YK Gl ops m (jP P sg Gl Γ N M (ops.take m) F nx) M)with
  |some i=>
   qT ((jz R ops.length i).1++ [i]++(jz R ops.length i).2) λord=>
   match oX ord ops.length with
   |true=>fh (jz R ops.length i).1.length λmB=>tI (iZ ord ops) λvL=>Cv P sg Gl Γ N vL mB K F M nx
   |false=>False
  |none=>
  match Mo ops m 0 R []with
  | []=>yN P sg Gl Γ N ops K F M nx
  |i::r=>
   qT (List.range m++(i::r)++((List.range ops.length).filter λk=>!Nat.blt k m&&!cO (i::r) k)) λord=>
   match oX ord ops.length with
   |true=>tI (iZ ord ops) λvL=>yN P sg Gl Γ N vL K F M nx
   |false=>False
theorem U_ (hS:Sound P Gl Γ) {sg:Bool} {id:Nat} {ops:Array Oper} {Q:Exit->Act->World->Prop} {K:Fr->Mem->Nat->Prop} {S:List Nat} {nx:Nat}
    (iR: ∀d c a v w,Q (.panic c) (Act.put a d v) w->Q (.panic c) a w) (hQ: ∀a' w',vK P Gl N S a w ω K a' w'->Q .normal a' w') (hd: ∀o∈ops.toList,∀t,o.dst=some t->t∈S) (h:St P Gl N F M a w ω) (he:Cq P sg Gl Γ N ops.toList K F M nx):(Code.region id ops true).wp P Q a w:=by
  unfold Cq at he
  simp only[uv,jK,BZ,Mp]at he
  split at he
  · next iB _=>
    split at he
    · next hp=>
      have hp:oX ((jz (dZ ops.toList []) ops.toList.length iB).1++ [iB]++(jz (dZ ops.toList []) ops.toList.length iB).2) ops.size=true:=by simpa using hp
      revert he hp
      generalize (jz (dZ ops.toList []) ops.toList.length iB).1.length=mB
      generalize ((jz (dZ ops.toList []) ops.toList.length iB).1++ [iB]++(jz (dZ ops.toList []) ops.toList.length iB).2)=ord
      intro he hp
      have me:=B0 hp
      obtain⟨J,U⟩:=R9 (ops:=(iZ ord ops.toList).toArray) (m:=mB) hS iR hQ (λo ho t ht=>by
        obtain⟨o0,wz,e⟩:=B1 (by simpa using ho)
        exact hd o0 wz t (e▸ht)) h (by simpa using he)
      rw[sd me]at U
      exact wp_region_any J (xr me ops.size (FQ me) U)
    · exact he.elim
  split at he
  · next iB _=>
    split at he
    · next hp=>
      have hp:oX ((jz (dZ ops.toList []) ops.toList.length iB).1++ [iB]++(jz (dZ ops.toList []) ops.toList.length iB).2) ops.size=true:=by simpa using hp
      revert he hp
      generalize (jz (dZ ops.toList []) ops.toList.length iB).1.length=mB
      generalize ((jz (dZ ops.toList []) ops.toList.length iB).1++ [iB]++(jz (dZ ops.toList []) ops.toList.length iB).2)=ord
      intro he hp
      have me:=B0 hp
      obtain⟨J,U⟩:=R_ (ops:=(iZ ord ops.toList).toArray) (m:=mB) hS iR hQ (λo ho t ht=>by
        obtain⟨o0,wz,e⟩:=B1 (by simpa using ho)
        exact hd o0 wz t (e▸ht)) h (by simpa using he)
      rw[sd me]at U
      exact wp_region_any J (xr me ops.size (FQ me) U)
    · exact he.elim
  split at he
  · obtain⟨J,U⟩:=IY hS iR hQ hd h he
    exact wp_region_any J U
  · next i r hmv=>
    split at he
    · next hp=>
      have hp:oX (List.range (sk ops.toList 0 (dZ ops.toList []) 0)++(i::r)++((List.range ops.toList.length).filter λk=>!Nat.blt k (sk ops.toList 0 (dZ ops.toList []) 0)&&!cO (i::r) k)) ops.size=true:=by simpa using hp
      revert he hp
      generalize (List.range (sk ops.toList 0 (dZ ops.toList []) 0)++(i::r)++((List.range ops.toList.length).filter λk=>!Nat.blt k (sk ops.toList 0 (dZ ops.toList []) 0)&&!cO (i::r) k))=ord
      intro he hp
      have me:=B0 hp
      obtain⟨J,U⟩:=IY (ops:=(iZ ord ops.toList).toArray) hS iR hQ (λo ho t ht=>by
        obtain⟨o0,wz,e⟩:=B1 (by simpa using ho)
        exact hd o0 wz t (e▸ht)) h (by simpa using he)
      rw[sd me]at U
      exact wp_region_any J (xr me ops.size (FQ me) U)
    · exact he.elim
end
end Go.Sy
