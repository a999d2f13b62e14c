/-
  Sy: regions that draw their order: evaluated.
-/
import Derived.Test.YtmieeldmfehpoaaDoorYE
import Derived.Test.YtmieeldmfehpoaaDoorYF
set_option linter.unusedVariables false
set_option linter.unusedSimpArgs false
set_option linter.unusedVariables false
set_option linter.unusedSimpArgs false
namespace Go.Sy
open Go.RowKit
/-! ### what is before an operation -/
def addAll:List Nat→List Nat→List Nat
  | [],acc=>acc
  |x::r,acc=>match inL acc x with|true=>addAll r acc|false=>addAll r (x::acc)
theorem mem_addAll: ∀{l acc:List Nat} {x:Nat},x∈addAll l acc↔x∈l∨x∈acc
  | [],acc,x=>by simp [addAll]
  |y::r,acc,x=>by
   unfold addAll
   split
   · next h=>
     rw [mem_addAll]
     have:=inL_iff.1 h
     simp only [List.mem_cons]
     constructor
     · rintro (h|h)
       · exact .inl (.inr h)
       · exact .inr h
     · rintro ((rfl|h)|h)
       · exact .inr this
       · exact .inl h
       · exact .inr h
   · rw [mem_addAll]
     simp only [List.mem_cons]
     constructor
     · rintro (h|rfl|h)
       · exact .inl (.inr h)
       · exact .inl (.inl rfl)
       · exact .inr h
     · rintro ((rfl|h)|h)
       · exact .inr (.inl rfl)
       · exact .inl h
       · exact .inr (.inr h)
def depsL (R:List (List Nat)):List Edge→List Nat→List Nat
  | [],acc=>acc
  |e::r,acc=>match Region.binds .any e with|true=>depsL R r (addAll (e.on::R.getD e.on []) acc)|false=>depsL R r acc
theorem mem_depsL {R:List (List Nat)}: ∀{es:List Edge} {acc:List Nat} {x:Nat},x∈depsL R es acc↔x∈acc∨ ∃e∈es,Region.binds .any e=true∧(x=e.on∨x∈R.getD e.on [])
  | [],acc,x=>by simp [depsL]
  |e::r,acc,x=>by
   unfold depsL
   split
   · next hb=>
     rw [mem_depsL,mem_addAll]
     simp only [List.mem_cons,exists_eq_or_imp]
     constructor
     · rintro ((h|h)|h)
       · exact .inr (.inl ⟨hb,h⟩)
       · exact .inl h
       · exact .inr (.inr h)
     · rintro (h|⟨_,h⟩|h)
       · exact .inl (.inr h)
       · exact .inl (.inl h)
       · exact .inr h
   · next hb=>
     rw [mem_depsL]
     simp only [List.mem_cons,exists_eq_or_imp]
     constructor
     · rintro (h|h)
       · exact .inl h
       · exact .inr (.inr h)
     · rintro (h|⟨h,_⟩|h)
       · exact .inl h
       · rw [hb] at h;cases h
       · exact .inr h
def presL:List Oper→List (List Nat)→List (List Nat)
  | [],acc=>acc
  |o::r,acc=>presL r (acc++ [depsL acc o.after.toList []])
theorem presL_spec: ∀(l:List Oper) (acc:List (List Nat)),(∃t,presL l acc=acc++t)∧ ∀k o,l[k]? =some o→(presL l acc)[acc.length+k]? =some (depsL ((presL l acc).take (acc.length+k)) o.after.toList [])
  | [],acc=>⟨⟨[],by simp [presL]⟩,fun k o h=>by simp at h⟩
  |o::r,acc=>by
   obtain ⟨⟨t,ht⟩,h⟩:=presL_spec r (acc++ [depsL acc o.after.toList []])
   have e:presL (o::r) acc=presL r (acc++ [depsL acc o.after.toList []]):=rfl
   refine ⟨⟨[depsL acc o.after.toList []]++t,by rw [e,ht];simp⟩,fun k o' hk=>?_⟩
   cases k with
   |zero=>
    simp only [List.getElem?_cons_zero,Option.some.injEq] at hk
    subst hk
    rw [e,ht]
    simp
   |succ k=>
    have:=h k o' (by simpa using hk)
    rw [e]
    simpa [Nat.add_assoc,Nat.add_comm 1 k] using this
def edgesB:Nat→List Oper→Bool
  |_,[]=>true
  |i,o::r=>(o.after.toList.all fun e=>!Region.binds .any e||Nat.blt e.on i)&&edgesB (i+1) r
theorem edgesB_spec: ∀{l:List Oper} {i:Nat},edgesB i l=true→ ∀k o,l[k]? =some o→ ∀e∈o.after,Region.binds .any e=true→e.on<i+k
  | [],_,_,k,o,h=>by simp at h
  |x::r,i,hb,k,o,h=>by
   simp only [edgesB,Bool.and_eq_true] at hb
   intro e he hbe
   cases k with
   |zero=>
    simp only [List.getElem?_cons_zero,Option.some.injEq] at h
    subst h
    have:=List.all_eq_true.1 hb.1 e (by simpa using he)
    rw [hbe] at this
    exact Nat.le_of_ble_eq_true this
   |succ k=>
    have:=edgesB_spec hb.2 k o (by simpa using h) e he hbe
    omega
def regSyn (o:Oper):Bool:=
  match o.guard,o.op with
  |none,.extract _ _=>true
  |none,.binOp _ _ _ _ _=>true
  |none,.unOp _ _ _=>true
  |none,.convert _ _ _=>true
  |none,.move _=>true
  |none,.fieldAddr _ _ _=>true
  |none,.indexAddr _ _ _=>true
  |_,_=>false
def regAt (ops:List Oper) (j:Nat):Bool:=match ops[j]? with|some o=>regSyn o|none=>false
def lastBad (ops:List Oper):Nat→List (List Nat)→Nat→Nat
  |_,[],m=>m
  |i,p::r,m=>lastBad ops (i+1) r (match Nat.beq p.length i||(List.range i).all fun j=>inL p j||(regAt ops j&&Nat.blt j m) with|true=>m|false=>i+1)
def tailB (R:List (List Nat)) (m n:Nat) (gs:List Bool):Bool:=(List.range n).all fun i=>Nat.blt i m||(List.range i).all fun j=>inL (R.getD i []) j||(Nat.blt j m&&gs.getD j false)
def apartB (ops:List Oper) (R:List (List Nat)) (gs:List Bool):Bool:=
  (List.range gs.length).all fun i=>!(gs.getD i false)||
    (match ops[i]? with
     |some oi=>Region.noSelect ops.toArray&&(List.range ops.length).all fun j=>Nat.beq j i||inL (R.getD i []) j||(match ops[j]? with|some oj=>(oj.after.toList.any fun e=>Region.binds .any e&&Nat.beq e.on i)||oi.apart ops.toArray oj|none=>true)
     |none=>true)
def regTry (P:Program) (sg:Bool) (N:Nat) (V:Fr) (m:Nat→Ent) (o:Oper):Option (Prop×Rc):=
  match regSyn o,evR P sg V m o.op with
  |true,.ok s=>some (True,⟨ent1 N o.dst s,[],[]⟩)
  |true,.asm _ s=>some (True,⟨ent1 N o.dst s,[],[]⟩)
  |true,.req p s=>some (p,⟨ent1 N o.dst s,[],[]⟩)
  |_,_=>none
theorem regTry_ok {P:Program} {sg:Bool} {N:Nat} {V:Fr} {m:Nat→Ent} {o:Oper} {p:Prop} {rc:Rc} (h:regTry P sg N V m o=some (p,rc)) (hp:p):o.guard=none∧ ∃s,rc=⟨ent1 N o.dst s,[],[]⟩∧(evR P sg V m o.op).run (fun s'=>s'=s):=by
  have hg: ∀{b},regSyn o=b→b=true→o.guard=none:=by
    intro b h hb
    subst hb
    unfold regSyn at h
    split at h<;>first|assumption|cases h
  unfold regTry at h
  split at h
  · next s h1 h2=>
    simp only [Option.some.injEq,Prod.mk.injEq] at h
    exact ⟨hg h1 rfl,s,h.2.symm,by rw [h2];exact rfl⟩
  · next s h1 h2=>
    simp only [Option.some.injEq,Prod.mk.injEq] at h
    exact ⟨hg h1 rfl,s,h.2.symm,by rw [h2];exact fun _=>rfl⟩
  · next s h1 h2=>
    simp only [Option.some.injEq,Prod.mk.injEq] at h
    exact ⟨hg h1 rfl,s,h.2.symm,by rw [h2];exact ⟨by rw [h.1];exact hp,rfl⟩⟩
  · cases h
/-! ### all operations, one behind the other -/
def dryF (P:Program) (sg:Bool) (Gl:Nat→SV) (Γ:Table) (N:Nat) (M:Mem):List Oper→Fr→Nat→Fr
  | [],F,_=>F
  |o::r,F,nx=>
   match evO2 P sg Gl Γ F M nx [] [] o.op with
   | .ok s=>dryF P sg Gl Γ N M r (putF N F o.dst s) nx
   | .asm _ s=>dryF P sg Gl Γ N M r (putF N F o.dst s) nx
   | .req _ s=>dryF P sg Gl Γ N M r (putF N F o.dst s) nx
   | .mem _ s _=>dryF P sg Gl Γ N M r (putF N F o.dst s) nx
   | .any _ _=>dryF P sg Gl Γ N M r (putF N F o.dst .junk) nx
   | .bad=>dryF P sg Gl Γ N M r (putF N F o.dst .junk) nx
def storeK (Gl:Nat→SV) (F:Fr) (o:Oper):Option Nat:=
  match o.op with
  | .store _ x _=>(match opnd Gl F x with| .ptr k _ none _ _=>some k|_=>none)
  |_=>none
def junkM:List Nat→Mem→Mem
  | [],M=>M
  |k::r,M=>
   match (ent M k).hl,(ent M k).b with
   |none,.cells l=>(match l.all fun s=>!isIl s with|true=>junkM r ((k,{ent M k with b:= .cells (junkL l.length)})::M)|false=>junkM r M)
   |_,_=>junkM r M
def isJk:SV→Bool
  | .junk=>true
  |_=>false
def wokB (e f:Ent):Bool:=
  match e.hl,e.b,f.hl,f.b with
  |none,.cells l,none,.cells l'=>Nat.beq e.rs f.rs&&Nat.beq e.ds f.ds&&l.all isJk&&Nat.beq l'.length l.length
  |_,_,_,_=>false
def evRec (P:Program) (sg:Bool) (Gl:Nat→SV) (Γ:Table) (N:Nat) (ops:List Oper) (R:List (List Nat)) (F0:Fr) (M:Mem):List Oper→Nat→List Rc→List Bool→List Bool→Nat→(List Rc→List Bool→List Bool→Nat→Prop)→Prop
  | [],_,rs,gs,ws,nx,K=>K rs gs ws nx
  |o::r,i,rs,gs,ws,nx,K=>
   match regTry P sg N (vF rs F0 (R.getD i [])) (ent (vM rs M (R.getD i []))) o with
   |some (p,rc)=>p∧fRcs (rs++ [rc]) fun rs'=>evRec P sg Gl Γ N ops R F0 M r (i+1) rs' (gs++ [true]) (ws++ [false]) nx K
   |none=>
    match evalQ P sg Gl Γ N ops (vF rs F0 (R.getD i [])) (vM rs M (R.getD i [])) (vH rs (R.getD i [])) nx (R.getD i []) o with
    |some (p,rc)=>p∧fRcs (rs++ [rc]) fun rs'=>fNat (nx+64) fun nx'=>evRec P sg Gl Γ N ops R F0 M r (i+1) rs' (gs++ [false]) (ws++ [false]) nx' K
    |none=>
     match evalW P Gl N ops (vF rs F0 (R.getD i [])) (vM rs M (R.getD i [])) (vH rs (R.getD i [])) o with
     |some (k,u)=>(match freeB (ent M) k with|false=>fRcs (rs++ [⟨[],[],u⟩]) fun rs'=>evRec P sg Gl Γ N ops R F0 M r (i+1) rs' (gs++ [false]) (ws++ [true]) nx K|true=>False)
     |none=>False
def eqO:Option Nat→Nat→Bool
  |some x,y=>Nat.beq x y
  |none,_=>false
def dstL (ops:List Oper) (i:Nat):Option Nat:=match ops[i]? with|some o=>o.dst|none=>none
def rcsB (N:Nat) (ops:List Oper) (R:List (List Nat)) (M:Mem) (rs:List Rc) (ws:List Bool):Bool:=
  nodupB (rs.map fun rc=>rc.u.map (·.1)).flatten&&
  ((List.range rs.length).all fun i=>
    ((rcAt rs i).fs.all fun p=>eqO (dstL ops i) p.1&&Nat.blt p.1 N)&&
    ((rcAt rs i).hs.all fun h=>eqO (dstL ops i) h.slot&&(R.getD i []).any fun g=>eqO (dstL ops g) h.d)&&
    ((rcAt rs i).u.all fun p=>(freeB (ent M) p.1||(ws.getD i false&&!freeB (ent M) p.1&&wokB (ent M p.1) p.2))&&Nat.beq p.2.rs (ent M p.1).rs&&Nat.beq p.2.ds (ent M p.1).ds))
def junkF (l:List Oper) (F:Fr):Fr:=(l.filterMap (·.dst)).map (fun t=>(t,SV.junk))++F
def evDraw (P:Program) (sg:Bool) (Gl:Nat→SV) (Γ:Table) (N:Nat) (ops:List Oper) (K:Fr→Mem→Nat→Prop) (F:Fr) (M:Mem) (nx:Nat):Prop:=
  fNatLL (presL ops []) fun R=>
  fNat (lastBad ops 0 R 0) fun m=>
  match edgesB 0 ops,nodupB ((ops.take m).map fun o=>o.dst.toList).flatten,Nat.ble m ops.length,P.follows .mixedOrders with
  |true,true,true,true=>
   let MJ:=junkM ((ops.take m).filterMap (storeK Gl (dryF P sg Gl Γ N M (ops.take m) F nx))) M
   evRec P sg Gl Γ N ops R (junkF (ops.take m) F) MJ (ops.take m) 0 [] [] [] nx fun rs gs ws nx'=>
     match rcsB N ops R MJ rs ws&&tailB R m ops.length gs&&apartB ops R gs with
     |true=>markH (vF rs (junkF (ops.take m) F) (List.range m)) (vM rs MJ (List.range m)) nx' (vH rs (List.range m)) fun F M nx H=>evOps P sg Gl Γ N ops K (ops.drop m) F M nx H
     |false=>False
  |_,_,_,_=>False
def tailN (R:List (List Nat)) (m n:Nat):Bool:=(List.range n).all fun i=>Nat.ble i m||(List.range i).all fun j=>inL (R.getD i []) j
def quietAll (P:Program) (Gl:Nat→SV) (ops:List Oper) (R:List (List Nat)) (F0:Fr) (M:Mem) (rs:List Rc) (gs:List Bool) (m:Nat):List Nat→Option (Prop×List Nat)
  | []=>some (True,[])
  |j::r=>
   match inL (R.getD m []) j||gs.getD j false,quietAll P Gl ops R F0 M rs gs m r with
   |true,x=>x
   |false,some (q,l)=>(match ops[j]? with|some o=>(match quietK P Gl (vF rs F0 (R.getD j [])) (vM rs M (R.getD j [])) o with|some (p,ko)=>some (p∧q,ko.toList++l)|none=>none)|none=>none)
   |false,none=>none
def keyQ (M:Mem) (rs:List Rc) (KQ:List Nat):Bool:=KQ.all fun k=>!freeB (ent M) k&&rs.all fun rc=>!inL (rc.u.map (·.1)) k
def apQ (ops:List Oper) (R:List (List Nat)) (m:Nat):Bool:=
  match ops[m]? with
  |some oB=>Region.noSelect ops.toArray&&(List.range m).all fun j=>inL (R.getD m []) j||(match ops[j]? with|some o=>o.apart ops.toArray oB|none=>true)
  |none=>false
def evDrawB (P:Program) (sg:Bool) (Gl:Nat→SV) (Γ:Table) (N:Nat) (ops:List Oper) (m:Nat) (K:Fr→Mem→Nat→Prop) (F:Fr) (M:Mem) (nx:Nat):Prop:=
  fNatLL (presL ops []) fun R=>
  match edgesB 0 ops,nodupB ((ops.take m).map fun o=>o.dst.toList).flatten,Nat.ble m ops.length,P.follows .mixedOrders with
  |true,true,true,true=>
   let MJ:=junkM ((ops.take m).filterMap (storeK Gl (dryF P sg Gl Γ N M (ops.take m) F nx))) M
   evRec P sg Gl Γ N ops R (junkF (ops.take m) F) MJ (ops.take m) 0 [] [] [] nx fun rs gs ws nx'=>
     match rcsB N ops R MJ rs ws&&tailN R m ops.length&&apartB ops R gs&&apQ ops R m,quietAll P Gl ops R (junkF (ops.take m) F) MJ rs gs m (List.range m),ops[m]? with
     |true,some (p,KQ),some oB=>
      (match keyQ MJ rs KQ,noiseB P Gl (vF rs (junkF (ops.take m) F) (R.getD m [])) (vM rs MJ (R.getD m [])) (nx'+100) oB with
       |true,some (pr,κ)=>(match κ.all fun k=>!inL KQ k with|true=>p∧pr∧markH (vF rs (junkF (ops.take m) F) (List.range m)) (vM rs MJ (List.range m)) nx' (vH rs (List.range m)) fun F M nx H=>evOps P sg Gl Γ N ops K (ops.drop m) F M nx H|false=>False)
       |_,_=>False)
     |_,_,_=>False
  |_,_,_,_=>False
def empQ (R:List (List Nat)) (rs:List Rc) (ws:List Bool) (m:Nat):Bool:=(List.range m).all fun j=>inL (R.getD m []) j||((match (rcAt rs j).u with| []=>true|_=>false)&&!(ws.getD j false))
def evDrawC (P:Program) (sg:Bool) (Gl:Nat→SV) (Γ:Table) (N:Nat) (ops:List Oper) (m:Nat) (K:Fr→Mem→Nat→Prop) (F:Fr) (M:Mem) (nx:Nat):Prop:=
  fNatLL (presL ops []) fun R=>
  match edgesB 0 ops,nodupB ((ops.take m).map fun o=>o.dst.toList).flatten,Nat.ble m ops.length,P.follows .mixedOrders with
  |true,true,true,true=>
   evRec P sg Gl Γ N ops R (junkF (ops.take m) F) M (ops.take m) 0 [] [] [] nx fun rs gs ws nx'=>
     match rcsB N ops R M rs ws&&tailN R m ops.length&&apartB ops R gs&&apQ ops R m&&empQ R rs ws m,quietAll P Gl ops R (junkF (ops.take m) F) M rs gs m (List.range m),ops[m]? with
     |true,some (p,KQ),some oB=>
      (match keyQ M rs KQ,opB P Gl Γ (vF rs (junkF (ops.take m) F) (R.getD m [])) (vM rs M (R.getD m [])) nx' oB with
       |true,some (pr,sB,uB)=>
        (match (uB.map (·.1)).all (fun k=>!inL KQ k),freeH (vH rs (List.range m)) oB.dst with
         |true,true=>p∧pr∧markH (putF N (vF rs (junkF (ops.take m) F) (List.range m)) oB.dst sB) (uB++vM rs M (List.range m)) (nx'+64) (vH rs (List.range m)) fun F M nx H=>evOps P sg Gl Γ N ops K (ops.drop (m+1)) F M nx H
         |_,_=>False)
       |_,_=>False)
     |_,_,_=>False
  |_,_,_,_=>False
theorem quietAll_ok {P:Program} {Gl:Nat→SV} {ops:List Oper} {R:List (List Nat)} {F0:Fr} {M:Mem} {rs:List Rc} {gs:List Bool} {m:Nat}: ∀{l:List Nat} {p:Prop} {KQ:List Nat},quietAll P Gl ops R F0 M rs gs m l=some (p,KQ)→p→ ∀j∈l,∀o,ops[j]? =some o→j∉R.getD m []→gs.getD j false=false→
    ∃q ko,quietK P Gl (vF rs F0 (R.getD j [])) (vM rs M (R.getD j [])) o=some (q,ko)∧q∧ ∀k,ko=some k→k∈KQ
  | [],p,KQ,he,hp,j,hj,o,ho,h1,h2=>absurd hj (by simp)
  |i::r,p,KQ,he,hp,j,hj,o,ho,h1,h2=>by
   unfold quietAll at he
   split at he
   · next hb=>
     rcases List.mem_cons.1 hj with rfl|hj
     · rw [Bool.or_eq_true] at hb
       rcases hb with hb|hb
       · exact absurd (inL_iff.1 hb) h1
       · rw [h2] at hb;cases hb
     · exact quietAll_ok he hp j hj o ho h1 h2
   · next q l hb hr=>
     split at he
     · next o' ho'=>
       split at he
       · next p' ko hk=>
         obtain ⟨rfl,rfl⟩:=Prod.mk.inj (Option.some.inj he)
         rcases List.mem_cons.1 hj with rfl|hj
         · obtain rfl:=Option.some.inj (ho.symm.trans ho')
           exact ⟨p',ko,hk,hp.1,fun k e=>by rw [e];simp⟩
         · obtain ⟨q1,ko1,g1,g2,g3⟩:=quietAll_ok hr hp.2 j hj o ho h1 h2
           exact ⟨q1,ko1,g1,g2,fun k e=>List.mem_append.2 (.inr (g3 k e))⟩
       · cases he
     · cases he
   · cases he
section
variable {P:Program} {w:World} {ω:Ow} {Gl:Nat→SV} {Γ:Table} {N:Nat} {F:Fr} {M:Mem} {a:Act}
def RecOK (P:Program) (sg:Bool) (Gl:Nat→SV) (Γ:Table) (N:Nat) (M:Mem) (ops:List Oper) (R:List (List Nat)) (F0:Fr) (K:List Rc→List Bool→List Bool→Nat→Prop) (r:List Oper) (i:Nat) (rs:List Rc) (gs ws:List Bool):Prop:=
    ∃t tg tw nx',K (rs++t) (gs++tg) (ws++tw) nx'∧t.length=r.length∧tg.length=r.length∧tw.length=r.length∧ ∀k o,r[k]? =some o→
     ((gs++tg).getD (i+k) false=true→(ws++tw).getD (i+k) false=false∧o.guard=none∧ ∃s,rcAt (rs++t) (i+k)=⟨ent1 N o.dst s,[],[]⟩∧(evR P sg (vF ((rs++t).take (i+k)) F0 (R.getD (i+k) [])) (ent (vM ((rs++t).take (i+k)) M (R.getD (i+k) []))) o.op).run (fun s'=>s'=s))∧
     ((gs++tg).getD (i+k) false=false→(ws++tw).getD (i+k) false=false→ ∃nx p,evalQ P sg Gl Γ N ops (vF ((rs++t).take (i+k)) F0 (R.getD (i+k) [])) (vM ((rs++t).take (i+k)) M (R.getD (i+k) [])) (vH ((rs++t).take (i+k)) (R.getD (i+k) [])) nx (R.getD (i+k) []) o=some (p,rcAt (rs++t) (i+k))∧p)∧
     ((ws++tw).getD (i+k) false=true→ ∃q u,evalW P Gl N ops (vF ((rs++t).take (i+k)) F0 (R.getD (i+k) [])) (vM ((rs++t).take (i+k)) M (R.getD (i+k) [])) (vH ((rs++t).take (i+k)) (R.getD (i+k) [])) o=some (q,u)∧rcAt (rs++t) (i+k)=⟨[],[],u⟩∧freeB (ent M) q=false)
theorem evRec_ok {sg:Bool} {ops:List Oper} {R:List (List Nat)} {F0:Fr} {K:List Rc→List Bool→List Bool→Nat→Prop}: ∀(r:List Oper) (i:Nat) (rs:List Rc) (gs ws:List Bool) (nx:Nat),rs.length=i→gs.length=i→ws.length=i→evRec P sg Gl Γ N ops R F0 M r i rs gs ws nx K→
    RecOK P sg Gl Γ N M ops R F0 K r i rs gs ws
  | [],i,rs,gs,ws,nx,hl,hg,hw,h=>⟨[],[],[],nx,by rw [List.append_nil,List.append_nil,List.append_nil];exact h,rfl,rfl,rfl,fun k o hk=>by simp at hk⟩
  |o::r,i,rs,gs,ws,nx,hl,hg,hw,h=>by
   have e1: ∀{rc:Rc} {t:List Rc},(rs++rc::t).take (i+0)=rs:=by intro rc t;rw [Nat.add_zero,←hl,List.take_left]
   have e2: ∀{rc:Rc} {t:List Rc},rcAt (rs++rc::t) (i+0)=rc:=by intro rc t;simp [rcAt,List.getD_eq_getElem?_getD,←hl]
   have e3: ∀{b:Bool} {t:List Bool},(gs++b::t).getD (i+0) false=b:=by intro b t;simp [List.getD_eq_getElem?_getD,←hg]
   have e4: ∀{b:Bool} {t:List Bool},(ws++b::t).getD (i+0) false=b:=by intro b t;simp [List.getD_eq_getElem?_getD,←hw]
   have go: ∀{rc:Rc} {bg bw:Bool} {nx1:Nat},evRec P sg Gl Γ N ops R F0 M r (i+1) (rs++ [rc]) (gs++ [bg]) (ws++ [bw]) nx1 K→
    ((bg=true→bw=false∧o.guard=none∧ ∃s,rc=⟨ent1 N o.dst s,[],[]⟩∧(evR P sg (vF rs F0 (R.getD (i+0) [])) (ent (vM rs M (R.getD (i+0) []))) o.op).run (fun s'=>s'=s))∧
      (bg=false→bw=false→ ∃nx p,evalQ P sg Gl Γ N ops (vF rs F0 (R.getD (i+0) [])) (vM rs M (R.getD (i+0) [])) (vH rs (R.getD (i+0) [])) nx (R.getD (i+0) []) o=some (p,rc)∧p)∧
      (bw=true→ ∃q u,evalW P Gl N ops (vF rs F0 (R.getD (i+0) [])) (vM rs M (R.getD (i+0) [])) (vH rs (R.getD (i+0) [])) o=some (q,u)∧rc=⟨[],[],u⟩∧freeB (ent M) q=false))→
    RecOK P sg Gl Γ N M ops R F0 K (o::r) i rs gs ws:=by
     intro rc bg bw nx1 h hz
     obtain ⟨t,tg,tw,nx',h1,h2,h2',h2'',h3⟩:=evRec_ok r (i+1) (rs++ [rc]) (gs++ [bg]) (ws++ [bw]) nx1 (by simp [hl]) (by simp [hg]) (by simp [hw]) h
     have e:rs++rc::t=rs++ [rc]++t:=by simp
     have eg:gs++bg::tg=gs++ [bg]++tg:=by simp
     have ew:ws++bw::tw=ws++ [bw]++tw:=by simp
     refine ⟨rc::t,bg::tg,bw::tw,nx',by rw [e,eg,ew];exact h1,by simp [h2],by simp [h2'],by simp [h2''],fun k o' hk=>?_⟩
     cases k with
     |zero=>
      simp only [List.getElem?_cons_zero,Option.some.injEq] at hk
      subst hk
      rw [e1,e2,e3,e4]
      exact hz
     |succ k=>
      have:=h3 k o' (by simpa using hk)
      rw [show i+(k+1)=i+1+k by omega,e,eg,ew]
      exact this
   unfold evRec at h
   simp only [fRcs_eq,fNat_eq] at h
   split at h
   · next p rc he=>
     obtain ⟨hp,h⟩:=h
     obtain ⟨g1,s,g3,g4⟩:=regTry_ok he hp
     exact go h ⟨fun _=>⟨rfl,g1,s,g3,g4⟩,fun h=>(by cases h),fun h=>(by cases h)⟩
   · next hno=>
     split at h
     · next p rc he=>
       obtain ⟨hp,h⟩:=h
       exact go h ⟨fun h=>(by cases h),fun _ _=>⟨nx,p,he,hp⟩,fun h=>(by cases h)⟩
     · split at h
       · next k u he=>
         split at h
         · next hf=>exact go h ⟨fun h=>(by cases h),fun _ h=>(by cases h),fun _=>⟨k,u,he,rfl,hf⟩⟩
         · exact h.elim
       · exact h.elim
theorem evalW_dst {ops:List Oper} {V:Fr} {M:Mem} {H:List Hd} {o:Oper} {k:Nat} {u:Upd} (h:evalW P Gl N ops V M H o=some (k,u)):o.dst=none:=by
  unfold evalW at h
  split at h
  · next h1 _ _=>exact h1
  · cases h
theorem junkM_ok: ∀(l:List Nat) {M:Mem},MemOK w ω M→MemOK w ω (junkM l M)
  | [],_,hm=>hm
  |k::r,M,hm=>by
   unfold junkM
   split
   · next l hh hb=>
     split
     · next hal=>
       refine junkM_ok r ?_
       refine hm.retell rfl hb (by simp [junkL]) (fun L hL c T hc j hj x hx hd=>⟨by rw [junkL_at];rfl,by rw [junkL_at];trivial⟩) (fun j=>all_notIl hal j)
     · exact junkM_ok r hm
   · exact junkM_ok r hm
theorem isJk_all: ∀{l:List SV},l.all isJk=true→l=junkL l.length
  | [],_=>rfl
  |s::r,h=>by
   simp only [List.all_cons,Bool.and_eq_true] at h
   have:=isJk_all h.2
   cases s<;>first|(cases h.1;done)|skip
   show _=SV.junk::junkL r.length
   rw [←this]
theorem wokB_ok {k:Nat} {e:Ent} (h:wokB (ent M k) e=true):WOK M e k:=by
  unfold wokB at h
  split at h
  · next l l' h1 h2 h3 h4=>
    simp only [Bool.and_eq_true] at h
    obtain ⟨⟨⟨g1,g2⟩,g3⟩,g4⟩:=h
    have g1:=Nat.eq_of_beq_eq_true g1
    have g2:=Nat.eq_of_beq_eq_true g2
    have g4:=Nat.eq_of_beq_eq_true g4
    refine ⟨(ent M k).rs,(ent M k).ds,l.length,l',?_,g4,?_⟩
    · rw [←isJk_all g3]
      generalize ent M k=e0 at*
      cases e0;simp_all
    · cases e;simp_all
  · cases h
theorem rcAt_take {rs:List Rc} {i j:Nat} (h:j<i):rcAt (rs.take i) j=rcAt rs j:=by
  unfold rcAt
  rw [List.getD_eq_getElem?_getD,List.getD_eq_getElem?_getD,List.getElem?_take_of_lt h]
theorem flat_congr {α:Type} {f g:Nat→List α}: ∀{E:List Nat},(∀j∈E,f j=g j)→E.flatMap f=E.flatMap g
  | [],_=>rfl
  |j::E,h=>by rw [List.flatMap_cons,List.flatMap_cons,h j (by simp),flat_congr fun i hi=>h i (by simp [hi])]
theorem flat_inj: ∀{l:List (List Nat)},l.flatten.Nodup→ ∀{i j k:Nat} {x y:List Nat},l[i]? =some x→l[j]? =some y→k∈x→k∈y→i=j
  | [],_,i,j,k,x,y,h,_,_,_=>by simp at h
  |z::l,hn,i,j,k,x,y,hi,hj,hx,hy=>by
   rw [List.flatten_cons,List.nodup_append] at hn
   have mem: ∀{q:Nat} {v:List Nat},l[q]? =some v→k∈v→k∈l.flatten:=fun hq hv=>List.mem_flatten.2 ⟨_,List.mem_of_getElem? hq,hv⟩
   cases i with
   |zero=>
    cases j with
    |zero=>rfl
    |succ j=>
     simp at hi hj;subst hi
     exact absurd rfl (hn.2.2 k hx k (mem hj hy))
   |succ i=>
    cases j with
    |zero=>
     simp at hi hj;subst hj
     exact absurd rfl (hn.2.2 k hy k (mem hi hx))
    |succ j=>exact congrArg (· +1) (flat_inj hn.2.1 (i:=i) (j:=j) (by simpa using hi) (by simpa using hj) hx hy)
theorem eqO_eq {x:Option Nat} {y:Nat} (h:eqO x y=true):x=some y:=by
  cases x with
  |none=>cases h
  |some z=>rw [Nat.eq_of_beq_eq_true h]
theorem ent_mem {k:Nat}: ∀{u:Upd},k∈u.map (·.1)→ ∃p∈u,p.1=k∧ent u k=p.2
  | [],h=>by simp at h
  |p::r,h=>by
   obtain ⟨p1,p2⟩:=p
   by_cases hk:p1=k
   · subst hk;exact ⟨(p1,p2),List.mem_cons_self,rfl,ent_eq⟩
   · simp only [List.map_cons,List.mem_cons] at h
     obtain ⟨q,h1,h2,h3⟩:=ent_mem (h.resolve_left fun e=>hk e.symm)
     exact ⟨q,by simp [h1],h2,by rw [ent_ne hk];exact h3⟩
theorem junk_look: ∀(l:List Oper) (F:Fr) (t:Nat),look (junkF l F) t= .junk∨(look (junkF l F) t=look F t∧ ∀o∈l,o.dst≠some t)
  | [],F,t=> .inr ⟨rfl,fun o ho=>by simp at ho⟩
  |o::l,F,t=>by
   cases hd:o.dst with
   |none=>
    have e:junkF (o::l) F=junkF l F:=by simp [junkF,hd]
    rw [e]
    rcases junk_look l F t with h|⟨h1,h2⟩
    · exact .inl h
    · refine .inr ⟨h1,fun o' ho'=>?_⟩
      rcases List.mem_cons.1 ho' with rfl|ho'
      · rw [hd];simp
      · exact h2 o' ho'
   |some x=>
    have e:junkF (o::l) F=(x,.junk)::junkF l F:=by simp [junkF,hd]
    rw [e]
    by_cases hx:x=t
    · subst hx;exact .inl look_eq
    · rw [look_ne hx]
      rcases junk_look l F t with h|⟨h1,h2⟩
      · exact .inl h
      · refine .inr ⟨h1,fun o' ho'=>?_⟩
        rcases List.mem_cons.1 ho' with rfl|ho'
        · rw [hd];simpa using hx
        · exact h2 o' ho'
theorem draw_sta {sg:Bool} {ops:Array Oper} {R:List (List Nat)} {m:Nat} {MJ:Mem} {rs:List Rc} {gs ws:List Bool} {nx':Nat} (hR:presL ops.toList []=R) (hmle:m≤ops.size) (c1:edgesB 0 ops.toList=true) (c3:nodupB ((ops.toList.take m).map fun o=>o.dst.toList).flatten=true) (hfr:FrOK w ω N F a.tmps)
    (h2:rs.length=(ops.toList.take m).length) (h2g:gs.length=(ops.toList.take m).length) (h2w:ws.length=(ops.toList.take m).length)
    (h3: ∀k o,(ops.toList.take m)[k]? =some o→
      (gs.getD k false=true→ws.getD k false=false∧o.guard=none∧ ∃s,rcAt rs k=⟨ent1 N o.dst s,[],[]⟩∧(evR P sg (vF (rs.take k) (junkF (ops.toList.take m) F) (R.getD k [])) (ent (vM (rs.take k) MJ (R.getD k []))) o.op).run (fun s'=>s'=s))∧
      (gs.getD k false=false→ws.getD k false=false→ ∃nx p,evalQ P sg Gl Γ N ops.toList (vF (rs.take k) (junkF (ops.toList.take m) F) (R.getD k [])) (vM (rs.take k) MJ (R.getD k [])) (vH (rs.take k) (R.getD k [])) nx (R.getD k []) o=some (p,rcAt rs k)∧p)∧
      (ws.getD k false=true→ ∃q u,evalW P Gl N ops.toList (vF (rs.take k) (junkF (ops.toList.take m) F) (R.getD k [])) (vM (rs.take k) MJ (R.getD k [])) (vH (rs.take k) (R.getD k [])) o=some (q,u)∧rcAt rs k=⟨[],[],u⟩∧freeB (ent MJ) q=false))
    (c6:rcsB N ops.toList R MJ rs ws=true) (c7:apartB ops.toList R gs=true):
    Sta P sg Gl Γ N ops (fun i=>R.getD i []) m rs F (junkF (ops.toList.take m) F) MJ (fun i=>gs.getD i false) (fun i=>ws.getD i false)∧ ∀i j,j∈R.getD i []→j<i:=by
  have hlen:rs.length=m:=by rw [h2,List.length_take];simp;omega
  have hpres:=(presL_spec ops.toList []).2
  rw [hR] at hpres
  simp only [List.length_nil,Nat.zero_add] at hpres
  have hops: ∀{i o},ops[i]? =some o→ops.toList[i]? =some o:=fun h=>by rw [Array.getElem?_toList];exact h
  have getR: ∀{i o},ops[i]? =some o→R.getD i []=depsL (R.take i) o.after.toList []:=fun h=>by
    rw [List.getD_eq_getElem?_getD,hpres _ _ (hops h)];rfl
  have hdlt: ∀i o,ops[i]? =some o→ ∀e∈o.after,Region.binds .any e=true→e.on<i:=fun i o ho e he hb=>by
    have:=edgesB_spec c1 i o (hops ho) e he hb
    omega
  have hdep: ∀i o,ops[i]? =some o→ ∀x∈R.getD i [],∃e∈o.after,Region.binds .any e=true∧(x=e.on∨x∈R.getD e.on []):=by
    intro i o ho x hx
    rw [getR ho,mem_depsL] at hx
    rcases hx with hx|⟨e,he,hb,hx⟩
    · simp at hx
    · refine ⟨e,by simpa using he,hb,hx.imp (fun h=>h) fun hx=>?_⟩
      have hlt:=hdlt i o ho e (by simpa using he) hb
      rwa [List.getD_eq_getElem?_getD,List.getElem?_take_of_lt hlt,←List.getD_eq_getElem?_getD] at hx
  have hlong: ∀{i j},j∈R.getD i []→ ∃o,ops[i]? =some o:=by
    intro i j hj
    rcases Nat.lt_or_ge i ops.size with hi|hi
    · exact ⟨_,Array.getElem?_eq_getElem hi⟩
    · exfalso
      have hRl:R.length≤ops.size:=by
        have: ∀(l:List Oper) (acc:List (List Nat)),(presL l acc).length=acc.length+l.length:=by
          intro l
          induction l with
          |nil=>intro acc;simp [presL]
          |cons o r ih=>intro acc;simp only [presL,ih];simp;omega
        rw [←hR,this];simp
      rw [List.getD_eq_getElem?_getD,List.getElem?_eq_none (by omega)] at hj
      simp at hj
  have hlt: ∀i j,j∈R.getD i []→j<i:=by
    intro i
    induction i using Nat.strongRecOn with
    |ind i ih=>
     intro j hj
     obtain ⟨o,ho⟩:=hlong hj
     obtain ⟨e,he,hb,hx⟩:=hdep i o ho j hj
     have:=hdlt i o ho e he hb
     rcases hx with rfl|hx
     · exact this
     · have:=ih e.on this j hx;omega
  have hsub: ∀{i o e},ops[i]? =some o→e∈o.after→Region.binds .any e=true→e.on∈R.getD i []∧ ∀x∈R.getD e.on [],x∈R.getD i []:=by
    intro i o e ho he hb
    have hlt':=hdlt i o ho e he hb
    rw [getR ho]
    refine ⟨mem_depsL.2 (.inr ⟨e,by simpa using he,hb,.inl rfl⟩),fun x hx=>mem_depsL.2 (.inr ⟨e,by simpa using he,hb,.inr ?_⟩)⟩
    rwa [List.getD_eq_getElem?_getD,List.getElem?_take_of_lt hlt',←List.getD_eq_getElem?_getD]
  have hcl: ∀i j,j∈R.getD i []→ ∀k∈R.getD j [],k∈R.getD i []:=by
    intro i
    induction i using Nat.strongRecOn with
    |ind i ih=>
     intro j hj k hk
     obtain ⟨o,ho⟩:=hlong hj
     obtain ⟨e,he,hb,hx⟩:=hdep i o ho j hj
     rcases hx with rfl|hx
     · exact (hsub ho he hb).2 k hk
     · exact (hsub ho he hb).2 k (ih e.on (hdlt i o ho e he hb) j hx k hk)
  have hglen:gs.length=m:=by rw [h2g,List.length_take];simp;omega
  simp only [rcsB,Bool.and_eq_true] at c6
  obtain ⟨k1,k2⟩:=c6
  have k1:=nodupB_ok k1
  have kk: ∀i,i<m→_:=fun i hi=>List.all_eq_true.1 k2 i (List.mem_range.2 (by rw [hlen];exact hi))
  have short: ∀i,m≤i→rcAt rs i=⟨[],[],[]⟩:=fun i hi=>by
    unfold rcAt
    rw [List.getD_eq_getElem?_getD,List.getElem?_eq_none (by omega)];rfl
  have inM: ∀{i k},k∈keys rs i→i<m:=fun {i k} hk=>by
    rcases Nat.lt_or_ge i m with h|h
    · exact h
    · unfold keys at hk;rw [short i h] at hk;simp at hk
  have dstEq: ∀i,dstL ops.toList i=dstOf ops i:=fun i=>by
    unfold dstL dstOf
    rw [Array.getElem?_toList]
    cases ops[i]? <;>rfl
  have SS:Sta P sg Gl Γ N ops (fun i=>R.getD i []) m rs F (junkF (ops.toList.take m) F) MJ (fun i=>gs.getD i false) (fun i=>ws.getD i false):=by
    refine ⟨hdep,hcl,hlt,hdlt,hmle,?_,?_,?_,?_,?_,?_,?_,?_,?_,?_,?_,?_,short,?_,?_⟩
    · intro i o hi ho hreg hwr
      obtain ⟨nx1,p,g1,g2⟩:=(h3 i o (by rw [List.getElem?_take_of_lt hi];exact hops ho)).2.1 hreg hwr
      refine ⟨nx1,p,?_,g2⟩
      have e1:vF (rs.take i) (junkF (ops.toList.take m) F) (R.getD i [])=vF rs (junkF (ops.toList.take m) F) (R.getD i []):=by
        unfold vF;rw [flat_congr fun j hj=>by rw [rcAt_take (hlt i j hj)]]
      have e2:vM (rs.take i) MJ (R.getD i [])=vM rs MJ (R.getD i []):=by
        unfold vM;rw [flat_congr fun j hj=>by rw [rcAt_take (hlt i j hj)]]
      have e3:vH (rs.take i) (R.getD i [])=vH rs (R.getD i []):=by
        unfold vH;rw [flat_congr fun j hj=>by rw [rcAt_take (hlt i j hj)]]
      rw [e1,e2,e3] at g1
      exact g1
    · intro i o hi ho hreg hwr
      obtain ⟨q,u,g1,g2,g3⟩:=(h3 i o (by rw [List.getElem?_take_of_lt hi];exact hops ho)).2.2 hwr
      have e1:vF (rs.take i) (junkF (ops.toList.take m) F) (R.getD i [])=vF rs (junkF (ops.toList.take m) F) (R.getD i []):=by
        unfold vF;rw [flat_congr fun j hj=>by rw [rcAt_take (hlt i j hj)]]
      have e2:vM (rs.take i) MJ (R.getD i [])=vM rs MJ (R.getD i []):=by
        unfold vM;rw [flat_congr fun j hj=>by rw [rcAt_take (hlt i j hj)]]
      have e3:vH (rs.take i) (R.getD i [])=vH rs (R.getD i []):=by
        unfold vH;rw [flat_congr fun j hj=>by rw [rcAt_take (hlt i j hj)]]
      rw [e1,e2,e3] at g1
      exact ⟨evalW_dst g1,by rw [g2],by rw [g2],q,by rw [g2];exact g1,g3⟩
    · intro i hwr k hk
      obtain ⟨p,hp,rfl⟩:=List.mem_map.1 hk
      have:=kk i (inM hk)
      simp only [Bool.and_eq_true] at this
      have:=List.all_eq_true.1 this.2 p hp
      simp only [Bool.and_eq_true,Bool.or_eq_true] at this
      rcases this.1.1 with h|h
      · exact h
      · have hwr:ws.getD i false=false:=hwr
        rw [hwr] at h;cases h.1.1
    · intro i o hi ho hreg
      obtain ⟨_,g1,s,g3,g4⟩:=(h3 i o (by rw [List.getElem?_take_of_lt hi];exact hops ho)).1 hreg
      have e1:vF (rs.take i) (junkF (ops.toList.take m) F) (R.getD i [])=vF rs (junkF (ops.toList.take m) F) (R.getD i []):=by
        unfold vF;rw [flat_congr fun j hj=>by rw [rcAt_take (hlt i j hj)]]
      have e2: ∀MJ,vM (rs.take i) MJ (R.getD i [])=vM rs MJ (R.getD i []):=by
        intro MJ
        unfold vM;rw [flat_congr fun j hj=>by rw [rcAt_take (hlt i j hj)]]
      rw [e1,e2] at g4
      exact ⟨g1,s,g3,g4⟩
    · intro i oi hi hreg ho j oj hoj hne hnp hno
      have:=List.all_eq_true.1 c7 i (List.mem_range.2 (by omega))
      rw [hreg,hops ho] at this
      simp only [Bool.not_true,Bool.false_or,Bool.and_eq_true] at this
      have hjn:=(Array.getElem?_eq_some_iff.1 hoj).1
      have:=List.all_eq_true.1 this.2 j (List.mem_range.2 (by simpa using hjn))
      rw [hops hoj,Bool.or_eq_true,Bool.or_eq_true] at this
      rcases this with (h|h)|h
      · exact absurd (Nat.eq_of_beq_eq_true h) hne
      · exact absurd (inL_iff.1 h) hnp
      · rw [Bool.or_eq_true] at h
        rcases h with h|h
        · rw [List.any_eq_true] at h
          obtain ⟨e,he,hb⟩:=h
          rw [Bool.and_eq_true] at hb
          exact absurd (Nat.eq_of_beq_eq_true hb.2) (hno e (by simpa using he) hb.1)
        · simpa using h
    · intro i hi hreg
      have:=List.all_eq_true.1 c7 i (List.mem_range.2 (by omega))
      have hin:i<ops.toList.length:=by simp;omega
      rw [hreg,List.getElem?_eq_getElem hin] at this
      simp only [Bool.not_true,Bool.false_or,Bool.and_eq_true] at this
      simpa using this.1
    · intro i p hp
      have hi:i<m:=by
        rcases Nat.lt_or_ge i m with h|h
        · exact h
        · rw [short i h] at hp;simp at hp
      have:=kk i hi
      simp only [Bool.and_eq_true] at this
      have:=List.all_eq_true.1 this.1.1 p hp
      rw [Bool.and_eq_true] at this
      rw [←dstEq]
      exact ⟨eqO_eq this.1,Nat.le_of_ble_eq_true this.2⟩
    · intro i x hx
      have hi:i<m:=by
        rcases Nat.lt_or_ge i m with h|h
        · exact h
        · rw [short i h] at hx;simp at hx
      have:=kk i hi
      simp only [Bool.and_eq_true] at this
      have:=List.all_eq_true.1 this.1.2 x hx
      rw [Bool.and_eq_true,List.any_eq_true] at this
      obtain ⟨d1,g,hg,d2⟩:=this
      rw [←dstEq]
      exact ⟨eqO_eq d1,g,hg,by rw [←dstEq];exact eqO_eq d2⟩
    · intro i j t hi hj e1 e2
      have get: ∀{q},q<m→dstOf ops q=some t→ ∃x,((ops.toList.take m).map fun o=>o.dst.toList)[q]? =some x∧t∈x:=by
        intro q hq hd
        unfold dstOf at hd
        cases ho:ops[q]? with
        |none=>rw [ho] at hd;cases hd
        |some o=>
         rw [ho] at hd
         have hd:o.dst=some t:=hd
         exact ⟨o.dst.toList,by rw [List.getElem?_map,List.getElem?_take_of_lt hq,hops ho];rfl,by rw [hd];simp⟩
      obtain ⟨x,x1,x2⟩:=get hi e1
      obtain ⟨y,y1,y2⟩:=get hj e2
      exact flat_inj (nodupB_ok c3) x1 y1 x2 y2
    · intro i j k hi hj
      have get: ∀{q},q<m→(rs.map fun rc=>rc.u.map (·.1))[q]? =some (keys rs q):=by
        intro q hq
        have:rs[q]? =some rs[q]:=List.getElem?_eq_getElem (by omega)
        rw [List.getElem?_map,this]
        simp [keys,rcAt,List.getD_eq_getElem?_getD,this]
      exact flat_inj k1 (get (inM hi)) (get (inM hj)) hi hj
    · intro i k hk
      obtain ⟨p,hp,rfl⟩:=List.mem_map.1 hk
      have:=kk i (inM hk)
      simp only [Bool.and_eq_true] at this
      have:=List.all_eq_true.1 this.2 p hp
      simp only [Bool.and_eq_true,Bool.or_eq_true,Bool.not_eq_true'] at this
      rcases this.1.1 with h|⟨⟨_,h⟩,h2⟩
      · exact .inl h
      · refine .inr ⟨h,?_⟩
        obtain ⟨p',hp',hpe,hep⟩:=ent_mem hk
        obtain ⟨x,hx,hxe⟩:=List.mem_map.1 hk
        rw [hep]
        have:=kk i (inM hk)
        simp only [Bool.and_eq_true] at this
        have:=List.all_eq_true.1 this.2 p' hp'
        simp only [Bool.and_eq_true,Bool.or_eq_true,Bool.not_eq_true'] at this
        rw [←hpe] at h⊢
        rcases this.1.1 with h'|⟨_,h'⟩
        · rw [h] at h';cases h'
        · exact wokB_ok h'
    · intro i k hk
      obtain ⟨p,hp,rfl,hep⟩:=ent_mem hk
      have:=kk i (inM hk)
      simp only [Bool.and_eq_true] at this
      have:=List.all_eq_true.1 this.2 p hp
      simp only [Bool.and_eq_true] at this
      rw [hep]
      exact ⟨Nat.eq_of_beq_eq_true this.1.2,Nat.eq_of_beq_eq_true this.2⟩
    · intro t
      rcases junk_look (ops.toList.take m) F t with e|⟨e1,e2⟩
      · exact .inl e
      · refine .inr ⟨e1,fun i hi hdi=>?_⟩
        unfold dstOf at hdi
        cases ho:ops[i]? with
        |none=>rw [ho] at hdi;cases hdi
        |some o=>
         rw [ho] at hdi
         exact e2 o (List.mem_of_getElem? (i:=i) (by rw [List.getElem?_take_of_lt hi];exact hops ho)) hdi
    · intro t ht
      rcases junk_look (ops.toList.take m) F t with e|⟨e1,_⟩
      · exact e
      · rw [e1];exact hfr.out t ht
  exact ⟨SS,hlt⟩
theorem draw_any (hS:Sound P Gl Γ) {sg:Bool} {ops:Array Oper} {Q:Exit→Act→World→Prop} {K:Fr→Mem→Nat→Prop} {S:List Nat} {nx:Nat}
    (hQp: ∀d c a v w,Q (.panic c) (Act.put a d v) w→Q (.panic c) a w) (hQ: ∀a' w',Done P Gl N S a w ω K a' w'→Q .normal a' w') (hd: ∀o∈ops.toList,∀t,o.dst=some t→t∈S) (h:St P Gl N F M a w ω) (he:evDraw P sg Gl Γ N ops.toList K F M nx):P.follows .mixedOrders=true∧wpAny P .any ops Q ops.size (Array.replicate ops.size false) a {w with drawn:=w.drawn+1}:=by
  unfold evDraw at he
  simp only [fNatLL_eq,fNat_eq] at he
  split at he
  rotate_left
  · exact he.elim
  next c1 c3 c4 c5=>
  generalize hR:presL ops.toList []=R at*
  generalize hm:lastBad ops.toList 0 R 0=m at*
  have hmle:m≤ops.size:=by simpa using Nat.le_of_ble_eq_true c4
  have hmj:MemOK w ω (junkM ((ops.toList.take m).filterMap (storeK Gl (dryF P sg Gl Γ N M (ops.toList.take m) F nx))) M):=junkM_ok _ h.mem
  generalize junkM ((ops.toList.take m).filterMap (storeK Gl (dryF P sg Gl Γ N M (ops.toList.take m) F nx))) M=MJ at*
  obtain ⟨rs,gs,ws,nx',h1,h2,h2g,h2w,h3⟩:=evRec_ok (ops.toList.take m) 0 [] [] [] nx rfl rfl rfl he
  simp only [List.nil_append,Nat.zero_add] at h1 h3
  split at h1
  rotate_left
  · exact h1.elim
  next c6=>
  rw [Bool.and_eq_true,Bool.and_eq_true] at c6
  obtain ⟨⟨c6,c2⟩,c7⟩:=c6
  have hops: ∀{i o},ops[i]? =some o→ops.toList[i]? =some o:=fun h=>by rw [Array.getElem?_toList];exact h
  obtain ⟨SS,hlt⟩:=draw_sta (Gl:=Gl) (Γ:=Γ) (sg:=sg) (nx':=nx') hR hmle c1 c3 h.frame h2 h2g h2w h3 c6 c7
  have hT: ∀i,m≤i→i<ops.size→ ∀j,j<i→j∈R.getD i []∨(j<m∧gs.getD j false=true):=by
    intro i hmi hin j hj
    have:=List.all_eq_true.1 c2 i (List.mem_range.2 (by simpa using hin))
    rw [Bool.or_eq_true] at this
    rcases this with h|h
    · have:i<m:=Nat.le_of_ble_eq_true h
      omega
    · have h:=List.all_eq_true.1 h j (List.mem_range.2 hj)
      rw [Bool.or_eq_true,Bool.and_eq_true] at h
      exact h.imp inL_iff.1 fun h=>⟨Nat.le_of_ble_eq_true h.1,h.2⟩
  refine ⟨c5,?_⟩
  have hcw:Cw w {w with drawn:=w.drawn+1}:=⟨rfl,rfl,rfl,Nat.le_refl _,fun _ _=>rfl⟩
  have hJ:St P Gl N F MJ a w ω:=⟨h.frame,h.globs,hmj,h.defers⟩
  have h':=hJ.step (Stp.more hmj hcw)
  have hm':=h'.mem
  refine any_ok (ω:=ω) (a0:=a) (ω0:=ω) hS SS hT hm' h'.frame h'.globs hQp ?_ ops.size (Array.replicate ops.size false) a _ (by simp) ?_ ?_
  · intro a' w' ω' I
    obtain ⟨g1,g2,g3⟩:=I.all SS hm' h'.frame (E:=List.range m) (fun j hj=>List.mem_range.1 hj) (fun j hj k hk=>List.mem_range.2 (by have:=hlt j k hk;have:=List.mem_range.1 hj;omega))
    have hext:=I.ext0 SS hm' (List.range m)
    have hst:St P Gl N (vF rs (junkF (ops.toList.take m) F) (List.range m)) (vM rs MJ (List.range m)) a' w' (subω rs MJ ω' (List.range m)):=⟨g2,fun g=>Den.ext (o:=ω.bare) hext.bare (h'.globs g),g1,I.defers⟩
    obtain ⟨F5,M5,hF5,hM5,h1⟩:=markH_spec h1
    refine evOps_ok hS hQ (ops.toList.drop m) _ _ nx' _ a' w' _ (fun o ho=>hd o (List.mem_of_mem_drop ho)) (hst.congr hF5 hM5) g3 ((hcw.ext ω).trans hext) ⟨by rw [I.size,h.frame.size],fun i hi=>?_⟩ h1
    refine I.keep i fun j hj hdj=>?_
    unfold dstOf at hdj
    cases ho:ops[j]? with
    |none=>rw [ho] at hdj;cases hdj
    |some o=>
     rw [ho] at hdj
     exact hi (hd o (List.mem_of_getElem? (hops ho)) i hdj)
  · unfold und
    exact Nat.le_trans (List.length_filter_le _ _) (by simp)
  · have no: ∀j,¬(Array.replicate ops.size false).getD j false=true:=fun j=>by
      simp [Array.getD]
    exact ⟨fun j hj=>absurd hj (no j),fun j hj=>absurd hj (no j),⟨rfl,rfl,rfl,Nat.le_refl _,fun _ _ _=>rfl⟩,fun j k _ _ L hL=>(let ⟨_,_,_,_,c,T,h1,h2,_⟩:=hm'.row k none L hL;⟨c,T,h1,h2⟩),fun _ h=>h,hm'.lowA,fun _ _ h=>h,rfl,hm'.dj,rfl,fun _ _ _=>rfl,fun k p L hL=>hm'.own _ ⟨k,p,L,hL,rfl⟩,hm'.inj,h.defers,h.frame.size,fun _ _=>rfl,fun j hj=>absurd hj (no j)⟩
theorem draw_anyB (hS:Sound P Gl Γ) {sg:Bool} {ops:Array Oper} {Q:Exit→Act→World→Prop} {K:Fr→Mem→Nat→Prop} {S:List Nat} {nx:Nat}
    (hQp: ∀d c a v w,Q (.panic c) (Act.put a d v) w→Q (.panic c) a w) (hQ: ∀a' w',Done P Gl N S a w ω K a' w'→Q .normal a' w') (hd: ∀o∈ops.toList,∀t,o.dst=some t→t∈S) (h:St P Gl N F M a w ω) {m:Nat} (he:evDrawB P sg Gl Γ N ops.toList m K F M nx):P.follows .mixedOrders=true∧wpAny P .any ops Q ops.size (Array.replicate ops.size false) a {w with drawn:=w.drawn+1}:=by
  unfold evDrawB at he
  simp only [fNatLL_eq] at he
  split at he
  rotate_left
  · exact he.elim
  next c1 c3 c4 c5=>
  generalize hR:presL ops.toList []=R at*
  have hmle:m≤ops.size:=by simpa using Nat.le_of_ble_eq_true c4
  have hmj:MemOK w ω (junkM ((ops.toList.take m).filterMap (storeK Gl (dryF P sg Gl Γ N M (ops.toList.take m) F nx))) M):=junkM_ok _ h.mem
  generalize junkM ((ops.toList.take m).filterMap (storeK Gl (dryF P sg Gl Γ N M (ops.toList.take m) F nx))) M=MJ at*
  obtain ⟨rs,gs,ws,nx',h1,h2,h2g,h2w,h3⟩:=evRec_ok (ops.toList.take m) 0 [] [] [] nx rfl rfl rfl he
  simp only [List.nil_append,Nat.zero_add] at h1 h3
  split at h1
  rotate_left
  · exact h1.elim
  next p KQ oB c6 cq coB=>
  split at h1
  rotate_left
  · exact h1.elim
  next pr κ ck cn=>
  split at h1
  rotate_left
  · exact h1.elim
  next cκ=>
  obtain ⟨hp,hpr,h1⟩:=h1
  simp only [Bool.and_eq_true] at c6
  obtain ⟨⟨⟨c6,c2⟩,c7⟩,c8⟩:=c6
  have hops: ∀{i o},ops[i]? =some o→ops.toList[i]? =some o:=fun h=>by rw [Array.getElem?_toList];exact h
  obtain ⟨SS,hlt⟩:=draw_sta (Gl:=Gl) (Γ:=Γ) (sg:=sg) (nx':=nx') hR hmle c1 c3 h.frame h2 h2g h2w h3 c6 c7
  have hT: ∀i,m<i→i<ops.size→ ∀j,j<i→j∈R.getD i []:=by
    intro i hmi hin j hj
    have:=List.all_eq_true.1 c2 i (List.mem_range.2 (by simpa using hin))
    rw [Bool.or_eq_true] at this
    rcases this with h|h
    · have:i≤m:=Nat.le_of_ble_eq_true h
      omega
    · exact inL_iff.1 (List.all_eq_true.1 h j (List.mem_range.2 hj))
  have coB':ops[m]? =some oB:=by rw [←Array.getElem?_toList];exact coB
  unfold apQ at c8
  rw [coB] at c8
  simp only [Bool.and_eq_true] at c8
  have QQ:Qui P Gl N ops (fun i=>R.getD i []) m rs (junkF (ops.toList.take m) F) MJ (fun i=>gs.getD i false) KQ oB:=by
    refine ⟨coB',fun j o hj ho hn hr=>quietAll_ok cq hp j (List.mem_range.2 hj) o (hops ho) hn hr,⟨_,pr,κ,cn,hpr,fun k hk hkq=>?_⟩,fun k hk=>?_,by simpa using c8.1,fun j o hj ho hn=>?_,fun j hj=>hlt m j hj⟩
    · have:=List.all_eq_true.1 cκ k hk
      rw [inL_iff.2 hkq] at this
      cases this
    · have:=List.all_eq_true.1 ck k hk
      simp only [Bool.and_eq_true,Bool.not_eq_true'] at this
      refine ⟨this.1,fun j hkj=>?_⟩
      unfold keys at hkj
      have hjl:j<rs.length:=by
        rcases Nat.lt_or_ge j rs.length with h|h
        · exact h
        · unfold rcAt at hkj
          rw [List.getD_eq_getElem?_getD,List.getElem?_eq_none h] at hkj
          simp at hkj
      have hmem:rcAt rs j∈rs:=by
        unfold rcAt
        rw [List.getD_eq_getElem?_getD,List.getElem?_eq_getElem hjl]
        exact List.getElem_mem hjl
      have:=List.all_eq_true.1 this.2 (rcAt rs j) hmem
      rw [inL_iff.2 hkj] at this
      cases this
    · have:=List.all_eq_true.1 c8.2 j (List.mem_range.2 hj)
      rw [Bool.or_eq_true] at this
      rcases this with h|h
      · exact absurd (inL_iff.1 h) hn
      · rw [hops ho] at h
        simpa using h
  refine ⟨c5,?_⟩
  have hcw:Cw w {w with drawn:=w.drawn+1}:=⟨rfl,rfl,rfl,Nat.le_refl _,fun _ _=>rfl⟩
  have hJ:St P Gl N F MJ a w ω:=⟨h.frame,h.globs,hmj,h.defers⟩
  have h':=hJ.step (Stp.more hmj hcw)
  have hm':=h'.mem
  refine any_okB (ω:=ω) (a0:=a) (ω0:=ω) hS SS hT hm' h'.frame h'.globs hQp QQ ?_ ops.size (Array.replicate ops.size false) a _ (by simp) ?_ ?_
  · intro a' w' ω' I
    obtain ⟨g1,g2,g3⟩:=I.all SS hm' h'.frame (E:=List.range m) (fun j hj=>List.mem_range.1 hj) (fun j hj k hk=>List.mem_range.2 (by have:=hlt j k hk;have:=List.mem_range.1 hj;omega))
    have hext:=I.ext0 SS hm' (List.range m)
    have hst:St P Gl N (vF rs (junkF (ops.toList.take m) F) (List.range m)) (vM rs MJ (List.range m)) a' w' (subω rs MJ ω' (List.range m)):=⟨g2,fun g=>Den.ext (o:=ω.bare) hext.bare (h'.globs g),g1,I.defers⟩
    obtain ⟨F5,M5,hF5,hM5,h1⟩:=markH_spec h1
    refine evOps_ok hS hQ (ops.toList.drop m) _ _ nx' _ a' w' _ (fun o ho=>hd o (List.mem_of_mem_drop ho)) (hst.congr hF5 hM5) g3 ((hcw.ext ω).trans hext) ⟨by rw [I.size,h.frame.size],fun i hi=>?_⟩ h1
    refine I.keep i fun j hj hdj=>?_
    unfold dstOf at hdj
    cases ho:ops[j]? with
    |none=>rw [ho] at hdj;cases hdj
    |some o=>
     rw [ho] at hdj
     exact hi (hd o (List.mem_of_getElem? (hops ho)) i hdj)
  · unfold und
    exact Nat.le_trans (List.length_filter_le _ _) (by simp)
  · have no: ∀j,¬(Array.replicate ops.size false).getD j false=true:=fun j=>by
      simp [Array.getD]
    exact ⟨fun j hj=>absurd hj (no j),fun j hj=>absurd hj (no j),⟨rfl,rfl,rfl,Nat.le_refl _,fun _ _ _=>rfl⟩,fun j k _ _ L hL=>(let ⟨_,_,_,_,c,T,h1,h2,_⟩:=hm'.row k none L hL;⟨c,T,h1,h2⟩),fun _ h=>h,hm'.lowA,fun _ _ h=>h,rfl,hm'.dj,rfl,fun _ _ _=>rfl,fun k p L hL=>hm'.own _ ⟨k,p,L,hL,rfl⟩,hm'.inj,h.defers,h.frame.size,fun _ _=>rfl,fun j hj=>absurd hj (no j)⟩
theorem ent_app {u:Upd} {X Y:Mem} (h: ∀k,ent X k=ent Y k) (k:Nat):ent (u++X) k=ent (u++Y) k:=by
  by_cases hk:k∈u.map (·.1)
  · rw [ent_in hk,ent_in hk]
  · rw [ent_out hk,ent_out hk];exact h k
theorem draw_anyC (hS:Sound P Gl Γ) {sg:Bool} {ops:Array Oper} {Q:Exit→Act→World→Prop} {K:Fr→Mem→Nat→Prop} {S:List Nat} {nx:Nat}
    (hQp: ∀d c a v w,Q (.panic c) (Act.put a d v) w→Q (.panic c) a w) (hQ: ∀a' w',Done P Gl N S a w ω K a' w'→Q .normal a' w') (hd: ∀o∈ops.toList,∀t,o.dst=some t→t∈S) (h:St P Gl N F M a w ω) {m:Nat} (he:evDrawC P sg Gl Γ N ops.toList m K F M nx):P.follows .mixedOrders=true∧wpAny P .any ops Q ops.size (Array.replicate ops.size false) a {w with drawn:=w.drawn+1}:=by
  unfold evDrawC at he
  simp only [fNatLL_eq] at he
  split at he
  rotate_left
  · exact he.elim
  next c1 c3 c4 c5=>
  generalize hR:presL ops.toList []=R at*
  have hmle:m≤ops.size:=by simpa using Nat.le_of_ble_eq_true c4
  obtain ⟨rs,gs,ws,nx',h1,h2,h2g,h2w,h3⟩:=evRec_ok (ops.toList.take m) 0 [] [] [] nx rfl rfl rfl he
  simp only [List.nil_append,Nat.zero_add] at h1 h3
  split at h1
  rotate_left
  · exact h1.elim
  next p KQ oB c6 cq coB=>
  split at h1
  rotate_left
  · exact h1.elim
  next pr sB uB ck cn=>
  split at h1
  rotate_left
  · exact h1.elim
  next cκ cfr=>
  obtain ⟨hp,hpr,h1⟩:=h1
  simp only [Bool.and_eq_true] at c6
  obtain ⟨⟨⟨⟨c6,c2⟩,c7⟩,c8⟩,c9⟩:=c6
  have hops: ∀{i o},ops[i]? =some o→ops.toList[i]? =some o:=fun h=>by rw [Array.getElem?_toList];exact h
  obtain ⟨SS,hlt⟩:=draw_sta (Gl:=Gl) (Γ:=Γ) (sg:=sg) (nx':=nx') hR hmle c1 c3 h.frame h2 h2g h2w h3 c6 c7
  have hT: ∀i,m<i→i<ops.size→ ∀j,j<i→j∈R.getD i []:=by
    intro i hmi hin j hj
    have:=List.all_eq_true.1 c2 i (List.mem_range.2 (by simpa using hin))
    rw [Bool.or_eq_true] at this
    rcases this with h|h
    · have:i≤m:=Nat.le_of_ble_eq_true h
      omega
    · exact inL_iff.1 (List.all_eq_true.1 h j (List.mem_range.2 hj))
  have coB':ops[m]? =some oB:=by rw [←Array.getElem?_toList];exact coB
  unfold apQ at c8
  rw [coB] at c8
  simp only [Bool.and_eq_true] at c8
  have hemp: ∀j,j<m→j∉R.getD m []→keys rs j= []∧ws.getD j false=false:=by
    intro j hj hn
    have:=List.all_eq_true.1 c9 j (List.mem_range.2 hj)
    rw [Bool.or_eq_true] at this
    rcases this with h|h
    · exact absurd (inL_iff.1 h) hn
    · rw [Bool.and_eq_true,Bool.not_eq_true'] at h
      refine ⟨?_,h.2⟩
      have h:=h.1
      unfold keys
      split at h
      · next e=>rw [e];rfl
      · cases h
  have QQ:QuiC P Gl Γ N ops (fun i=>R.getD i []) m rs (junkF (ops.toList.take m) F) M (fun i=>gs.getD i false) (fun i=>ws.getD i false) KQ oB sB uB:=by
    refine ⟨coB',fun j o hj ho hn hr=>quietAll_ok cq hp j (List.mem_range.2 hj) o (hops ho) hn hr,hemp,⟨nx',pr,cn,hpr⟩,fun k hk hkq=>?_,fun k hk=>?_,by simpa using c8.1,fun j o hj ho hn=>?_,fun j hj=>hlt m j hj⟩
    · have:=List.all_eq_true.1 cκ k hk
      rw [inL_iff.2 hkq] at this
      cases this
    · have:=List.all_eq_true.1 ck k hk
      simp only [Bool.and_eq_true,Bool.not_eq_true'] at this
      refine ⟨this.1,fun j hkj=>?_⟩
      unfold keys at hkj
      have hjl:j<rs.length:=by
        rcases Nat.lt_or_ge j rs.length with h|h
        · exact h
        · unfold rcAt at hkj
          rw [List.getD_eq_getElem?_getD,List.getElem?_eq_none h] at hkj
          simp at hkj
      have hmem:rcAt rs j∈rs:=by
        unfold rcAt
        rw [List.getD_eq_getElem?_getD,List.getElem?_eq_getElem hjl]
        exact List.getElem_mem hjl
      have:=List.all_eq_true.1 this.2 (rcAt rs j) hmem
      rw [inL_iff.2 hkj] at this
      cases this
    · have:=List.all_eq_true.1 c8.2 j (List.mem_range.2 hj)
      rw [Bool.or_eq_true] at this
      rcases this with h|h
      · exact absurd (inL_iff.1 h) hn
      · rw [hops ho] at h
        simpa using h
  refine ⟨c5,?_⟩
  have hcw:Cw w {w with drawn:=w.drawn+1}:=⟨rfl,rfl,rfl,Nat.le_refl _,fun _ _=>rfl⟩
  have h':=h.step (Stp.more h.mem hcw)
  have hm':=h'.mem
  have hmn:m<ops.size:=(Array.getElem?_eq_some_iff.1 coB').1
  refine any_okC (ω:=ω) (a0:=a) (ω0:=ω) hS SS hT hm' h'.frame h'.globs hQp QQ ?_ ops.size (Array.replicate ops.size false) a _ (by simp) ?_ ?_
  · intro a' w' ω' v w2 I hpost
    obtain ⟨_,ω2,hx,hmem,hden⟩:=hpost
    obtain ⟨g1,g2,g3⟩:=I.all SS hm' h'.frame (E:=List.range m) (fun j hj=>List.mem_range.1 hj) (fun j hj k hk=>List.mem_range.2 (by have:=hlt j k hk;have:=List.mem_range.1 hj;omega))
    have hsub:subω rs M ω' (List.range m)=subω rs M ω' (R.getD m []):=by
      show (⟨_,_,_,_⟩:Ow)=⟨_,_,_,_⟩
      congr 1
      funext k q
      have:hid rs M (List.range m) k↔hid rs M (R.getD m []) k:=by
        constructor
        · rintro ⟨e0,e1,e2⟩
          exact ⟨e0,e1,fun ⟨j,hj,hkj⟩=>e2 ⟨j,List.mem_range.2 (hlt m j hj),hkj⟩⟩
        · rintro ⟨e0,e1,e2⟩
          refine ⟨e0,e1,?_⟩
          rintro ⟨j,hj,hkj⟩
          have hjm:=List.mem_range.1 hj
          by_cases hn:j∈R.getD m []
          · exact e2 ⟨j,hn,hkj⟩
          · rw [(hemp j hjm hn).1] at hkj;cases hkj
      by_cases hh:hid rs M (List.range m) k
      · rw [if_pos hh,if_pos (this.1 hh)]
      · rw [if_neg hh,if_neg (fun e=>hh (this.2 e))]
    have hent: ∀k,ent (vM rs M (List.range m)) k=ent (vM rs M (R.getD m [])) k:=by
      intro k
      by_cases hk: ∃j∈R.getD m [],k∈keys rs j
      · obtain ⟨j,hj,hkj⟩:=hk
        rw [ent_vM_in (fun i j=>SS.key i j _) hkj (List.mem_range.2 (hlt m j hj)),ent_vM_in (fun i j=>SS.key i j _) hkj hj]
      · rw [ent_vM_out fun j hj hkj=>?_,ent_vM_out fun j hj hkj=>hk ⟨j,hj,hkj⟩]
        have hjm:=List.mem_range.1 hj
        by_cases hn:j∈R.getD m []
        · exact hk ⟨j,hn,hkj⟩
        · rw [(hemp j hjm hn).1] at hkj;cases hkj
    rw [hsub] at g1 g2 g3
    have hext:=I.ext0 SS hm' (R.getD m [])
    have hst:St P Gl N (vF rs (junkF (ops.toList.take m) F) (List.range m)) (uB++vM rs M (List.range m)) a' w2 ω2:=⟨g2.ext hx,fun g=>Den.ext (o:=ω.bare) (hext.trans hx).bare (h'.globs g),hmem.congr (ent_app hent),I.defers⟩
    obtain ⟨F5,M5,hF5,hM5,h1⟩:=markH_spec h1
    have hoB:oB∈ops.toList:=List.mem_of_getElem? coB
    have hk1:Keep S a a':=by
      refine ⟨by rw [I.size,h.frame.size],fun i hi=>?_⟩
      refine I.keep i fun j hj hdj=>?_
      unfold dstOf at hdj
      cases ho:ops[j]? with
      |none=>rw [ho] at hdj;cases hdj
      |some o=>
       rw [ho] at hdj
       exact hi (hd o (List.mem_of_getElem? (hops ho)) i hdj)
    exact evOps_ok hS hQ (ops.toList.drop (m+1)) _ _ _ _ (a'.put oB.dst v) w2 ω2 (fun o ho=>hd o (List.mem_of_mem_drop ho)) ((hst.put hden).congr hF5 hM5) ((g3.ext hx).put cfr v) (((hcw.ext ω).trans hext).trans hx) (hk1.put (hd oB hoB) v) h1
  · unfold und
    exact Nat.le_trans (List.length_filter_le _ _) (by simp)
  · have no: ∀j,¬(Array.replicate ops.size false).getD j false=true:=fun j=>by
      simp [Array.getD]
    exact ⟨fun j hj=>absurd hj (no j),fun j hj=>absurd hj (no j),⟨rfl,rfl,rfl,Nat.le_refl _,fun _ _ _=>rfl⟩,fun j k _ _ L hL=>(let ⟨_,_,_,_,c,T,h1,h2,_⟩:=hm'.row k none L hL;⟨c,T,h1,h2⟩),fun _ h=>h,hm'.lowA,fun _ _ h=>h,rfl,hm'.dj,rfl,fun _ _ _=>rfl,fun k p L hL=>hm'.own _ ⟨k,p,L,hL,rfl⟩,hm'.inj,h.defers,h.frame.size,fun _ _=>rfl,fun j hj=>absurd hj (no j)⟩
def findC (P:Program) (Gl:Nat→SV) (Γ:Table) (ops:List Oper) (m:Nat) (F:Fr) (M:Mem) (nx:Nat):Option Nat:=
  (List.range m).find? fun i=>match ops[i]? with|some o=>(match callB P Gl Γ F M nx o with|some x=>!freeU (ent M) x.2.2|none=>false)|none=>false
def findS (Gl:Nat→SV) (ops:List Oper) (m:Nat) (F:Fr) (M:Mem):Option Nat:=
  (List.range m).find? fun i=>match ops[i]? with|some o=>(match o.op with| .store _ x _=>(match opnd Gl F x with| .ptr k _ _ _ _=>(match (ent M k).b with| .row _ _ _=>true|_=>false)|_=>false)|_=>false)|none=>false
def lastBadN (ops:List Oper):Nat→List (List Nat)→Nat→Nat
  |_,[],m=>m
  |i,p::r,m=>lastBadN ops (i+1) r (match regAt ops i||Nat.beq p.length i||(List.range i).all fun j=>inL p j||regAt ops j with|true=>m|false=>i+1)
def movedL (ops:List Oper) (m:Nat):Nat→List (List Nat)→List Nat→List Nat
  |_,[],acc=>acc
  |i,p::r,acc=>movedL ops m (i+1) r (match !Nat.blt i m&&regAt ops i&&!((List.range i).all fun j=>inL p j||regAt ops j)&&p.all (fun j=>Nat.blt j m||inL acc j) with|true=>acc++ [i]|false=>acc)
def isApp:Op→Bool
  | .call {callee:= .builtin .append,args:=_,argTypes:=_}=>true
  |_=>false
def appBase:Op→Option Nat
  | .call {callee:= .builtin .append,args:=⟨[.tmp t,_]⟩,argTypes:=_}=>some t
  |_=>none
def isSlcV:SV→Bool
  | .slc _ _ _ _ _=>true
  |_=>false
def isLd:Op→Bool
  | .load _ _=>true
  |_=>false
def appAt (V:Fr) (ops:List Oper) (o:Oper):Bool:=
  match appBase o.op with
  |some t=>
   (match ops.any fun p=>isApp p.op&&eqO p.dst t with
    |true=>true
    |false=>match ops.any fun p=>isLd p.op&&eqO p.dst t with
     |true=>isSlcV (look V t)
     |false=>false)
  |none=>false
def findB (V:Fr) (ops:List Oper) (m:Nat):Option Nat:=(List.range m).find? fun i=>match ops[i]? with|some o=>appAt V ops o|none=>false
def ordB (R:List (List Nat)) (n i:Nat):List Nat×List Nat:=((List.range n).filter fun k=>!Nat.beq k i&&!inL (R.getD k []) i,(List.range n).filter fun k=>inL (R.getD k []) i)
def evDrawP (P:Program) (sg:Bool) (Gl:Nat→SV) (Γ:Table) (N:Nat) (ops:List Oper) (K:Fr→Mem→Nat→Prop) (F:Fr) (M:Mem) (nx:Nat):Prop:=
  fNatLL (presL ops []) fun R=>
  fNat (lastBadN ops 0 R 0) fun m=>
  match findB (dryF P sg Gl Γ N M (ops.take m) F nx) ops m with
  |some i=>
   fNatL ((ordB R ops.length i).1++ [i]++(ordB R ops.length i).2) fun ord=>
   match permB ord ops.length with
   |true=>fNat (ordB R ops.length i).1.length fun mB=>fOs (permL ord ops) fun ops'=>evDrawB P sg Gl Γ N ops' mB K F M nx
   |false=>False
  |none=>
  match (match findC P Gl Γ ops m (dryF P sg Gl Γ N M (ops.take m) F nx) M nx with|some i=>some i|none=>findS Gl ops m (dryF P sg Gl Γ N M (ops.take m) F nx) M) with
  |some i=>
   fNatL ((ordB R ops.length i).1++ [i]++(ordB R ops.length i).2) fun ord=>
   match permB ord ops.length with
   |true=>fNat (ordB R ops.length i).1.length fun mB=>fOs (permL ord ops) fun ops'=>evDrawC P sg Gl Γ N ops' mB K F M nx
   |false=>False
  |none=>
  match movedL ops m 0 R [] with
  | []=>evDraw P sg Gl Γ N ops K F M nx
  |i::r=>
   fNatL (List.range m++(i::r)++((List.range ops.length).filter fun k=>!Nat.blt k m&&!inL (i::r) k)) fun ord=>
   match permB ord ops.length with
   |true=>fOs (permL ord ops) fun ops'=>evDraw P sg Gl Γ N ops' K F M nx
   |false=>False
theorem draw_ok (hS:Sound P Gl Γ) {sg:Bool} {id:Nat} {ops:Array Oper} {Q:Exit→Act→World→Prop} {K:Fr→Mem→Nat→Prop} {S:List Nat} {nx:Nat}
    (hQp: ∀d c a v w,Q (.panic c) (Act.put a d v) w→Q (.panic c) a w) (hQ: ∀a' w',Done P Gl N S a w ω K a' w'→Q .normal a' w') (hd: ∀o∈ops.toList,∀t,o.dst=some t→t∈S) (h:St P Gl N F M a w ω) (he:evDrawP P sg Gl Γ N ops.toList K F M nx):(Code.region id ops true).wp P Q a w:=by
  unfold evDrawP at he
  simp only [fNatLL_eq,fNat_eq,fNatL_eq,fOs_eq] at he
  split at he
  · next iB _=>
    split at he
    · next hp=>
      have hp:permB ((ordB (presL ops.toList []) ops.toList.length iB).1++ [iB]++(ordB (presL ops.toList []) ops.toList.length iB).2) ops.size=true:=by simpa using hp
      revert he hp
      generalize (ordB (presL ops.toList []) ops.toList.length iB).1.length=mB
      generalize ((ordB (presL ops.toList []) ops.toList.length iB).1++ [iB]++(ordB (presL ops.toList []) ops.toList.length iB).2)=ord
      intro he hp
      have hperm:=permB_ok hp
      obtain ⟨h1,h2⟩:=draw_anyB (ops:=(permL ord ops.toList).toArray) (m:=mB) hS hQp hQ (fun o ho t ht=>by
        obtain ⟨o0,ho0,e⟩:=perm_dst (by simpa using ho)
        exact hd o0 ho0 t (e▸ht)) h (by simpa using he)
      rw [perm_size hperm] at h2
      exact wp_region_any h1 (wpAny_perm hperm ops.size (ls0 hperm) h2)
    · exact he.elim
  split at he
  · next iB _=>
    split at he
    · next hp=>
      have hp:permB ((ordB (presL ops.toList []) ops.toList.length iB).1++ [iB]++(ordB (presL ops.toList []) ops.toList.length iB).2) ops.size=true:=by simpa using hp
      revert he hp
      generalize (ordB (presL ops.toList []) ops.toList.length iB).1.length=mB
      generalize ((ordB (presL ops.toList []) ops.toList.length iB).1++ [iB]++(ordB (presL ops.toList []) ops.toList.length iB).2)=ord
      intro he hp
      have hperm:=permB_ok hp
      obtain ⟨h1,h2⟩:=draw_anyC (ops:=(permL ord ops.toList).toArray) (m:=mB) hS hQp hQ (fun o ho t ht=>by
        obtain ⟨o0,ho0,e⟩:=perm_dst (by simpa using ho)
        exact hd o0 ho0 t (e▸ht)) h (by simpa using he)
      rw [perm_size hperm] at h2
      exact wp_region_any h1 (wpAny_perm hperm ops.size (ls0 hperm) h2)
    · exact he.elim
  split at he
  · obtain ⟨h1,h2⟩:=draw_any hS hQp hQ hd h he
    exact wp_region_any h1 h2
  · next i r hmv=>
    split at he
    · next hp=>
      have hp:permB (List.range (lastBadN ops.toList 0 (presL ops.toList []) 0)++(i::r)++((List.range ops.toList.length).filter fun k=>!Nat.blt k (lastBadN ops.toList 0 (presL ops.toList []) 0)&&!inL (i::r) k)) ops.size=true:=by simpa using hp
      revert he hp
      generalize (List.range (lastBadN ops.toList 0 (presL ops.toList []) 0)++(i::r)++((List.range ops.toList.length).filter fun k=>!Nat.blt k (lastBadN ops.toList 0 (presL ops.toList []) 0)&&!inL (i::r) k))=ord
      intro he hp
      have hperm:=permB_ok hp
      obtain ⟨h1,h2⟩:=draw_any (ops:=(permL ord ops.toList).toArray) hS hQp hQ (fun o ho t ht=>by
        obtain ⟨o0,ho0,e⟩:=perm_dst (by simpa using ho)
        exact hd o0 ho0 t (e▸ht)) h (by simpa using he)
      rw [perm_size hperm] at h2
      exact wp_region_any h1 (wpAny_perm hperm ops.size (ls0 hperm) h2)
    · exact he.elim
end
end Go.Sy
