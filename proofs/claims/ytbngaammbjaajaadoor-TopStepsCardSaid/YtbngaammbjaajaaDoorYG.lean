/-
  Sy: regions that draw their order: evaluated.
-/
import Derived.Test.YtbngaammbjaajaaDoorYE
import Derived.Test.YtbngaammbjaajaaDoorYF
set_option linter.unusedVariables false
set_option linter.unusedSimpArgs false
set_option linter.unusedVariables false
set_option linter.unusedSimpArgs false
namespace Go.Sy
open Go.RowKit
/-! ### what is before an operation -/
def lr:List Nat->List Nat->List Nat
  | [],acc=>acc
  |x::r,acc=>match aT acc x with|true=>lr r acc|false=>lr r (x::acc)
theorem su: ∀{l acc:List Nat} {x:Nat},x∈lr l acc↔x∈l\/x∈acc
  | [],acc,x=>by simp[lr]
  |y::r,acc,x=>by
   unfold lr
   split
   · next h=>
     rw[su]
     have:=cU.1 h
     simp only[List.mem_cons]
     constructor
     · rintro (h|h)
       · exact .inl (.inr h)
       · exact .inr h
     · rintro ((rfl|h)|h)
       · exact .inr this
       · exact .inl h
       · exact .inr h
   · rw[su]
     simp only[List.mem_cons]
     constructor
     · rintro (h|rfl|h)
       · exact .inl (.inr h)
       · exact .inl (.inl rfl)
       · exact .inr h
     · rintro ((rfl|h)|h)
       · exact .inr (.inl rfl)
       · exact .inl h
       · exact .inr (.inr h)
def gp (R:List (List Nat)):List Edge->List Nat->List Nat
  | [],acc=>acc
  |e::r,acc=>match Region.binds .any e with|true=>gp R r (lr (e.on::R.getD e.on []) acc)|false=>gp R r acc
theorem mF {R:List (List Nat)}: ∀{es:List Edge} {acc:List Nat} {x:Nat},x∈gp R es acc↔x∈acc\/ ∃e∈es,Region.binds .any e=true/\(x=e.on\/x∈R.getD e.on [])
  | [],acc,x=>by simp[gp]
  |e::r,acc,x=>by
   unfold gp
   split
   · next hb=>
     rw[mF,su]
     simp only[List.mem_cons,exists_eq_or_imp]
     constructor
     · rintro ((h|h)|h)
       · exact .inr (.inl ⟨hb,h⟩)
       · exact .inl h
       · exact .inr (.inr h)
     · rintro (h|⟨_,h⟩|h)
       · exact .inl (.inr h)
       · exact .inl (.inl h)
       · exact .inr h
   · next hb=>
     rw[mF]
     simp only[List.mem_cons,exists_eq_or_imp]
     constructor
     · rintro (h|h)
       · exact .inl h
       · exact .inr (.inr h)
     · rintro (h|⟨h,_⟩|h)
       · exact .inl h
       · rw[hb]at h;cases h
       · exact .inr h
def bH:List Oper->List (List Nat)->List (List Nat)
  | [],acc=>acc
  |o::r,acc=>bH r (acc++ [gp acc o.after.toList []])
theorem wN: ∀(l:List Oper) (acc:List (List Nat)),(∃t,bH l acc=acc++t)/\ ∀k o,l[k]? =some o->(bH l acc)[acc.length+k]? =some (gp ((bH l acc).take (acc.length+k)) o.after.toList [])
  | [],acc=>⟨⟨[],by simp[bH]⟩,λk o h=>by simp at h⟩
  |o::r,acc=>by
   obtain⟨⟨t,ht⟩,h⟩:=wN r (acc++ [gp acc o.after.toList []])
   have e:bH (o::r) acc=bH r (acc++ [gp acc o.after.toList []]):=rfl
   refine⟨⟨[gp acc o.after.toList []]++t,by rw[e,ht];simp⟩,λk o' hk=>?_⟩
   cases k with
   |zero=>
    simp only[List.getElem?_cons_zero,Option.some.injEq]at hk
    subst hk
    rw[e,ht]
    simp
   |succ k=>
    have:=h k o' (by simpa using hk)
    rw[e]
    simpa [Nat.add_assoc,Nat.add_comm 1 k]using this
def j7:Nat->List Oper->Bool
  |_,[]=>true
  |i,o::r=>(o.after.toList.all λe=>!Region.binds .any e||Nat.blt e.on i)&&j7 (i+1) r
theorem wH: ∀{l:List Oper} {i:Nat},j7 i l=true-> ∀k o,l[k]? =some o-> ∀e∈o.after,Region.binds .any e=true->e.on<i+k
  | [],_,_,k,o,h=>by simp at h
  |x::r,i,hb,k,o,h=>by
   simp only[j7,Bool.and_eq_true]at hb
   intro e he Aa
   cases k with
   |zero=>
    simp only[List.getElem?_cons_zero,Option.some.injEq]at h
    subst h
    have:=List.all_eq_true.1 hb.1 e (by simpa using he)
    rw[Aa]at this
    exact Nat.le_of_ble_eq_true this
   |succ k=>
    have:=wH hb.2 k o (by simpa using h) e he Aa
    omega
def pQ (o:Oper):Bool:=
  match o.guard,o.op with
  |none,.extract _ _=>true
  |none,.binOp _ _ _ _ _=>true
  |none,.unOp _ _ _=>true
  |none,.convert _ _ _=>true
  |none,.move _=>true
  |none,.fieldAddr _ _ _=>true
  |none,.indexAddr _ _ _=>true
  |_,_=>false
def nf (ops:List Oper) (j:Nat):Bool:=match ops[j]? with|some o=>pQ o|none=>false
def tk (ops:List Oper):Nat->List (List Nat)->Nat->Nat
  |_,[],m=>m
  |i,p::r,m=>tk ops (i+1) r (match Nat.beq p.length i||(List.range i).all λj=>aT p j||(nf ops j&&Nat.blt j m)with|true=>m|false=>i+1)
def DF (R:List (List Nat)) (m n:Nat) (gs:List Bool):Bool:=(List.range n).all λi=>Nat.blt i m||(List.range i).all λj=>aT (R.getD i []) j||(Nat.blt j m&&gs.getD j false)
def pR (ops:List Oper) (R:List (List Nat)) (gs:List Bool):Bool:=
  (List.range gs.length).all λi=>!(gs.getD i false)||
    (match ops[i]? with
     |some oi=>Region.noSelect ops.toArray&&(List.range ops.length).all λj=>Nat.beq j i||aT (R.getD i []) j||(match ops[j]? with|some oj=>(oj.after.toList.any λe=>Region.binds .any e&&Nat.beq e.on i)||oi.apart ops.toArray oj|none=>true)
     |none=>true)
def tR (P:Program) (sg:Bool) (N:Nat) (V:Fr) (m:Nat->ao) (o:Oper):Option (Prop×Rc):=
  match pQ o,jv P sg V m o.op with
  |true,.ok s=>some (True,⟨cY N o.dst s,[],[]⟩)
  |true,.eP _ s=>some (True,⟨cY N o.dst s,[],[]⟩)
  |true,.br p s=>some (p,⟨cY N o.dst s,[],[]⟩)
  |_,_=>none
theorem Bf {P:Program} {sg:Bool} {N:Nat} {V:Fr} {m:Nat->ao} {o:Oper} {p:Prop} {rc:Rc} (h:tR P sg N V m o=some (p,rc)) (hp:p):o.guard=none/\ ∃s,rc=⟨cY N o.dst s,[],[]⟩/\(jv P sg V m o.op).run (λs'=>s'=s):=by
  have hg: ∀{b},pQ o=b->b=true->o.guard=none:=by
    intro b h hb
    subst hb
    unfold pQ at h
    split at h<;>first|assumption|cases h
  unfold tR at h
  split at h
  · next s U h2=>
    simp only[Option.some.injEq,Prod.mk.injEq]at h
    exact⟨hg U rfl,s,h.2.symm,by rw[h2];exact rfl⟩
  · next s U h2=>
    simp only[Option.some.injEq,Prod.mk.injEq]at h
    exact⟨hg U rfl,s,h.2.symm,by rw[h2];exactλ_=>rfl⟩
  · next s U h2=>
    simp only[Option.some.injEq,Prod.mk.injEq]at h
    exact⟨hg U rfl,s,h.2.symm,by rw[h2];exact⟨by rw[h.1];exact hp,rfl⟩⟩
  · cases h
/-! ### all operations, one behind the other -/
def eN (P:Program) (sg:Bool) (Gl:Nat->SV) (Γ:Table) (N:Nat) (M:Mem):List Oper->Fr->Nat->Fr
  | [],F,_=>F
  |o::r,F,nx=>
   match fu P sg Gl Γ F M nx [] [] o.op with
   | .ok s=>eN P sg Gl Γ N M r (cJ N F o.dst s) nx
   | .eP _ s=>eN P sg Gl Γ N M r (cJ N F o.dst s) nx
   | .br _ s=>eN P sg Gl Γ N M r (cJ N F o.dst s) nx
   | .mem _ s _=>eN P sg Gl Γ N M r (cJ N F o.dst s) nx
   | .any _ _=>eN P sg Gl Γ N M r (cJ N F o.dst .aj) nx
   | .bad=>eN P sg Gl Γ N M r (cJ N F o.dst .aj) nx
def lu (Gl:Nat->SV) (F:Fr) (o:Oper):Option Nat:=
  match o.op with
  | .store _ x _=>(match aW Gl F x with| .ptr k _ none _ _=>some k|_=>none)
  |_=>none
def gq:List Nat->Mem->Mem
  | [],M=>M
  |k::r,M=>
   match (aa M k).hl,(aa M k).b with
   |none,.cells l=>(match l.all λs=>!aX s with|true=>gq r ((k,{aa M k with b:= .cells (fN l.length)})::M)|false=>gq r M)
   |_,_=>gq r M
def zI:SV->Bool
  | .aj=>true
  |_=>false
def uT (e f:ao):Bool:=
  match e.hl,e.b,f.hl,f.b with
  |none,.cells l,none,.cells l'=>Nat.beq e.rs f.rs&&Nat.beq e.ds f.ds&&l.all zI&&Nat.beq l'.length l.length
  |_,_,_,_=>false
def iy (P:Program) (sg:Bool) (Gl:Nat->SV) (Γ:Table) (N:Nat) (ops:List Oper) (R:List (List Nat)) (F0:Fr) (M:Mem):List Oper->Nat->List Rc->List Bool->List Bool->Nat->(List Rc->List Bool->List Bool->Nat->Prop)->Prop
  | [],_,rs,gs,ws,nx,K=>K rs gs ws nx
  |o::r,i,rs,gs,ws,nx,K=>
   match tR P sg N (vF rs F0 (R.getD i [])) (aa (vM rs M (R.getD i []))) o with
   |some (p,rc)=>p/\lL (rs++ [rc]) λn9=>iy P sg Gl Γ N ops R F0 M r (i+1) n9 (gs++ [true]) (ws++ [false]) nx K
   |none=>
    match iz P sg Gl Γ N ops (vF rs F0 (R.getD i [])) (vM rs M (R.getD i [])) (vH rs (R.getD i [])) nx (R.getD i []) o with
    |some (p,rc)=>p/\lL (rs++ [rc]) λn9=>bZ (nx+64) λbj=>iy P sg Gl Γ N ops R F0 M r (i+1) n9 (gs++ [false]) (ws++ [false]) bj K
    |none=>
     match evalW P Gl N ops (vF rs F0 (R.getD i [])) (vM rs M (R.getD i [])) (vH rs (R.getD i [])) o with
     |some (k,u)=>(match aM (aa M) k with|false=>lL (rs++ [⟨[],[],u⟩]) λn9=>iy P sg Gl Γ N ops R F0 M r (i+1) n9 (gs++ [false]) (ws++ [true]) nx K|true=>False)
     |none=>False
def lW:Option Nat->Nat->Bool
  |some x,y=>Nat.beq x y
  |none,_=>false
def nB (ops:List Oper) (i:Nat):Option Nat:=match ops[i]? with|some o=>o.dst|none=>none
def nC (N:Nat) (ops:List Oper) (R:List (List Nat)) (M:Mem) (rs:List Rc) (ws:List Bool):Bool:=
  nodupB (rs.map λrc=>rc.u.map (·.1)).flatten&&
  ((List.range rs.length).all λi=>
    ((aL rs i).fs.all λp=>lW (nB ops i) p.1&&Nat.blt p.1 N)&&
    ((aL rs i).hs.all λh=>lW (nB ops i) h.slot&&(R.getD i []).any λg=>lW (nB ops g) h.d)&&
    ((aL rs i).u.all λp=>(aM (aa M) p.1||(ws.getD i false&&!aM (aa M) p.1&&uT (aa M p.1) p.2))&&Nat.beq p.2.rs (aa M p.1).rs&&Nat.beq p.2.ds (aa M p.1).ds))
def bB (l:List Oper) (F:Fr):Fr:=(l.filterMap (·.dst)).map (λt=>(t,SV.aj))++F
def pS (P:Program) (sg:Bool) (Gl:Nat->SV) (Γ:Table) (N:Nat) (ops:List Oper) (K:Fr->Mem->Nat->Prop) (F:Fr) (M:Mem) (nx:Nat):Prop:=
  j8 (bH ops []) λR=>
  bZ (tk ops 0 R 0) λm=>
  match j7 0 ops,nodupB ((ops.take m).map λo=>o.dst.toList).flatten,Nat.ble m ops.length,P.follows .mixedOrders with
  |true,true,true,true=>
   let MJ:=gq ((ops.take m).filterMap (lu Gl (eN P sg Gl Γ N M (ops.take m) F nx))) M
   iy P sg Gl Γ N ops R (bB (ops.take m) F) MJ (ops.take m) 0 [] [] [] nx λrs gs ws bj=>
    match nC N ops R MJ rs ws&&DF R m ops.length gs&&pR ops R gs with
    |true=>kn (vF rs (bB (ops.take m) F) (List.range m)) (vM rs MJ (List.range m)) bj (vH rs (List.range m)) λF M nx H=>eZ P sg Gl Γ N ops K (ops.drop m) F M nx H
    |false=>False
  |_,_,_,_=>False
def zn (R:List (List Nat)) (m n:Nat):Bool:=(List.range n).all λi=>Nat.ble i m||(List.range i).all λj=>aT (R.getD i []) j
def mK (P:Program) (Gl:Nat->SV) (ops:List Oper) (R:List (List Nat)) (F0:Fr) (M:Mem) (rs:List Rc) (gs:List Bool) (m:Nat):List Nat->Option (Prop×List Nat)
  | []=>some (True,[])
  |j::r=>
   match aT (R.getD m []) j||gs.getD j false,mK P Gl ops R F0 M rs gs m r with
   |true,x=>x
   |false,some (q,l)=>(match ops[j]? with|some o=>(match ja P Gl (vF rs F0 (R.getD j [])) (vM rs M (R.getD j [])) o with|some (p,ko)=>some (p/\q,ko.toList++l)|none=>none)|none=>none)
   |false,none=>none
def zJ (M:Mem) (rs:List Rc) (KQ:List Nat):Bool:=KQ.all λk=>!aM (aa M) k&&rs.all λrc=>!aT (rc.u.map (·.1)) k
def qH (ops:List Oper) (R:List (List Nat)) (m:Nat):Bool:=
  match ops[m]? with
  |some oB=>Region.noSelect ops.toArray&&(List.range m).all λj=>aT (R.getD m []) j||(match ops[j]? with|some o=>o.apart ops.toArray oB|none=>true)
  |none=>false
def tl (P:Program) (sg:Bool) (Gl:Nat->SV) (Γ:Table) (N:Nat) (ops:List Oper) (m:Nat) (K:Fr->Mem->Nat->Prop) (F:Fr) (M:Mem) (nx:Nat):Prop:=
  j8 (bH ops []) λR=>
  match j7 0 ops,nodupB ((ops.take m).map λo=>o.dst.toList).flatten,Nat.ble m ops.length,P.follows .mixedOrders with
  |true,true,true,true=>
   let MJ:=gq ((ops.take m).filterMap (lu Gl (eN P sg Gl Γ N M (ops.take m) F nx))) M
   iy P sg Gl Γ N ops R (bB (ops.take m) F) MJ (ops.take m) 0 [] [] [] nx λrs gs ws bj=>
    match nC N ops R MJ rs ws&&zn R m ops.length&&pR ops R gs&&qH ops R m,mK P Gl ops R (bB (ops.take m) F) MJ rs gs m (List.range m),ops[m]? with
    |true,some (p,KQ),some oB=>
     (match zJ MJ rs KQ,pT P Gl (vF rs (bB (ops.take m) F) (R.getD m [])) (vM rs MJ (R.getD m [])) (bj+100) oB with
      |true,some (pr,κ)=>(match κ.all λk=>!aT KQ k with|true=>p/\pr/\kn (vF rs (bB (ops.take m) F) (List.range m)) (vM rs MJ (List.range m)) bj (vH rs (List.range m)) λF M nx H=>eZ P sg Gl Γ N ops K (ops.drop m) F M nx H|false=>False)
      |_,_=>False)
    |_,_,_=>False
  |_,_,_,_=>False
def Ef (R:List (List Nat)) (rs:List Rc) (ws:List Bool) (m:Nat):Bool:=(List.range m).all λj=>aT (R.getD m []) j||((match (aL rs j).u with| []=>true|_=>false)&&!(ws.getD j false))
def tm (P:Program) (sg:Bool) (Gl:Nat->SV) (Γ:Table) (N:Nat) (ops:List Oper) (m:Nat) (K:Fr->Mem->Nat->Prop) (F:Fr) (M:Mem) (nx:Nat):Prop:=
  j8 (bH ops []) λR=>
  match j7 0 ops,nodupB ((ops.take m).map λo=>o.dst.toList).flatten,Nat.ble m ops.length,P.follows .mixedOrders with
  |true,true,true,true=>
   iy P sg Gl Γ N ops R (bB (ops.take m) F) M (ops.take m) 0 [] [] [] nx λrs gs ws bj=>
    match nC N ops R M rs ws&&zn R m ops.length&&pR ops R gs&&qH ops R m&&Ef R rs ws m,mK P Gl ops R (bB (ops.take m) F) M rs gs m (List.range m),ops[m]? with
    |true,some (p,KQ),some oB=>
     (match zJ M rs KQ,qI P Gl Γ (vF rs (bB (ops.take m) F) (R.getD m [])) (vM rs M (R.getD m [])) bj oB with
      |true,some (pr,sB,uB)=>
       (match (uB.map (·.1)).all (λk=>!aT KQ k),je (vH rs (List.range m)) oB.dst with
        |true,true=>p/\pr/\kn (cJ N (vF rs (bB (ops.take m) F) (List.range m)) oB.dst sB) (uB++vM rs M (List.range m)) (bj+64) (vH rs (List.range m)) λF M nx H=>eZ P sg Gl Γ N ops K (ops.drop (m+1)) F M nx H
        |_,_=>False)
      |_,_=>False)
    |_,_,_=>False
  |_,_,_,_=>False
theorem oP {P:Program} {Gl:Nat->SV} {ops:List Oper} {R:List (List Nat)} {F0:Fr} {M:Mem} {rs:List Rc} {gs:List Bool} {m:Nat}: ∀{l:List Nat} {p:Prop} {KQ:List Nat},mK P Gl ops R F0 M rs gs m l=some (p,KQ)->p-> ∀j∈l,∀o,ops[j]? =some o->j∉R.getD m []->gs.getD j false=false->
    ∃q ko,ja P Gl (vF rs F0 (R.getD j [])) (vM rs M (R.getD j [])) o=some (q,ko)/\q/\ ∀k,ko=some k->k∈KQ
  | [],p,KQ,he,hp,j,hj,o,ho,U,h2=>absurd hj (by simp)
  |i::r,p,KQ,he,hp,j,hj,o,ho,U,h2=>by
   unfold mK at he
   split at he
   · next hb=>
     rcases List.mem_cons.1 hj with rfl|hj
     · rw[Bool.or_eq_true]at hb
       rcases hb with hb|hb
       · exact absurd (cU.1 hb) U
       · rw[h2]at hb;cases hb
     · exact oP he hp j hj o ho U h2
   · next q l hb hr=>
     split at he
     · next o' dx=>
       split at he
       · next p' ko hk=>
         obtain⟨rfl,rfl⟩:=Prod.mk.inj (Option.some.inj he)
         rcases List.mem_cons.1 hj with rfl|hj
         · obtain rfl:=Option.some.inj (ho.symm.trans dx)
           exact⟨p',ko,hk,hp.1,λk e=>by rw[e];simp⟩
         · obtain⟨q1,EI,g1,g2,g3⟩:=oP hr hp.2 j hj o ho U h2
           exact⟨q1,EI,g1,g2,λk e=>List.mem_append.2 (.inr (g3 k e))⟩
       · cases he
     · cases he
   · cases he
section
variable {P:Program} {w:World} {J:Ow} {Gl:Nat->SV} {Γ:Table} {N:Nat} {F:Fr} {M:Mem} {a:Act}
def zo (P:Program) (sg:Bool) (Gl:Nat->SV) (Γ:Table) (N:Nat) (M:Mem) (ops:List Oper) (R:List (List Nat)) (F0:Fr) (K:List Rc->List Bool->List Bool->Nat->Prop) (r:List Oper) (i:Nat) (rs:List Rc) (gs ws:List Bool):Prop:=
    ∃t tg tw bj,K (rs++t) (gs++tg) (ws++tw) bj/\t.length=r.length/\tg.length=r.length/\tw.length=r.length/\ ∀k o,r[k]? =some o->
     ((gs++tg).getD (i+k) false=true->(ws++tw).getD (i+k) false=false/\o.guard=none/\ ∃s,aL (rs++t) (i+k)=⟨cY N o.dst s,[],[]⟩/\(jv P sg (vF ((rs++t).take (i+k)) F0 (R.getD (i+k) [])) (aa (vM ((rs++t).take (i+k)) M (R.getD (i+k) []))) o.op).run (λs'=>s'=s))/\
     ((gs++tg).getD (i+k) false=false->(ws++tw).getD (i+k) false=false-> ∃nx p,iz P sg Gl Γ N ops (vF ((rs++t).take (i+k)) F0 (R.getD (i+k) [])) (vM ((rs++t).take (i+k)) M (R.getD (i+k) [])) (vH ((rs++t).take (i+k)) (R.getD (i+k) [])) nx (R.getD (i+k) []) o=some (p,aL (rs++t) (i+k))/\p)/\
     ((ws++tw).getD (i+k) false=true-> ∃q u,evalW P Gl N ops (vF ((rs++t).take (i+k)) F0 (R.getD (i+k) [])) (vM ((rs++t).take (i+k)) M (R.getD (i+k) [])) (vH ((rs++t).take (i+k)) (R.getD (i+k) [])) o=some (q,u)/\aL (rs++t) (i+k)=⟨[],[],u⟩/\aM (aa M) q=false)
theorem px {sg:Bool} {ops:List Oper} {R:List (List Nat)} {F0:Fr} {K:List Rc->List Bool->List Bool->Nat->Prop}: ∀(r:List Oper) (i:Nat) (rs:List Rc) (gs ws:List Bool) (nx:Nat),rs.length=i->gs.length=i->ws.length=i->iy P sg Gl Γ N ops R F0 M r i rs gs ws nx K->
    zo P sg Gl Γ N M ops R F0 K r i rs gs ws
  | [],i,rs,gs,ws,nx,hl,hg,hw,h=>⟨[],[],[],nx,by rw[List.append_nil,List.append_nil,List.append_nil];exact h,rfl,rfl,rfl,λk o hk=>by simp at hk⟩
  |o::r,i,rs,gs,ws,nx,hl,hg,hw,h=>by
   have e1: ∀{rc:Rc} {t:List Rc},(rs++rc::t).take (i+0)=rs:=by intro rc t;rw[Nat.add_zero,<-hl,List.take_left]
   have e2: ∀{rc:Rc} {t:List Rc},aL (rs++rc::t) (i+0)=rc:=by intro rc t;simp[aL,List.getD_eq_getElem?_getD,<-hl]
   have e3: ∀{b:Bool} {t:List Bool},(gs++b::t).getD (i+0) false=b:=by intro b t;simp[List.getD_eq_getElem?_getD,<-hg]
   have e4: ∀{b:Bool} {t:List Bool},(ws++b::t).getD (i+0) false=b:=by intro b t;simp[List.getD_eq_getElem?_getD,<-hw]
   have go: ∀{rc:Rc} {bg bw:Bool} {dI:Nat},iy P sg Gl Γ N ops R F0 M r (i+1) (rs++ [rc]) (gs++ [bg]) (ws++ [bw]) dI K->
    ((bg=true->bw=false/\o.guard=none/\ ∃s,rc=⟨cY N o.dst s,[],[]⟩/\(jv P sg (vF rs F0 (R.getD (i+0) [])) (aa (vM rs M (R.getD (i+0) []))) o.op).run (λs'=>s'=s))/\
      (bg=false->bw=false-> ∃nx p,iz P sg Gl Γ N ops (vF rs F0 (R.getD (i+0) [])) (vM rs M (R.getD (i+0) [])) (vH rs (R.getD (i+0) [])) nx (R.getD (i+0) []) o=some (p,rc)/\p)/\
      (bw=true-> ∃q u,evalW P Gl N ops (vF rs F0 (R.getD (i+0) [])) (vM rs M (R.getD (i+0) [])) (vH rs (R.getD (i+0) [])) o=some (q,u)/\rc=⟨[],[],u⟩/\aM (aa M) q=false))->
    zo P sg Gl Γ N M ops R F0 K (o::r) i rs gs ws:=by
     intro rc bg bw dI h hz
     obtain⟨t,tg,tw,bj,U,h2,vo,Eg,h3⟩:=px r (i+1) (rs++ [rc]) (gs++ [bg]) (ws++ [bw]) dI (by simp[hl]) (by simp[hg]) (by simp[hw]) h
     have e:rs++rc::t=rs++ [rc]++t:=by simp
     have eg:gs++bg::tg=gs++ [bg]++tg:=by simp
     have ew:ws++bw::tw=ws++ [bw]++tw:=by simp
     refine⟨rc::t,bg::tg,bw::tw,bj,by rw[e,eg,ew];exact U,by simp[h2],by simp[vo],by simp[Eg],λk o' hk=>?_⟩
     cases k with
     |zero=>
      simp only[List.getElem?_cons_zero,Option.some.injEq]at hk
      subst hk
      rw[e1,e2,e3,e4]
      exact hz
     |succ k=>
      have:=h3 k o' (by simpa using hk)
      rw[show i+(k+1)=i+1+k by omega,e,eg,ew]
      exact this
   unfold iy at h
   simp only[yc,eL]at h
   split at h
   · next p rc he=>
     obtain⟨hp,h⟩:=h
     obtain⟨g1,s,g3,g4⟩:=Bf he hp
     exact go h ⟨λ_=>⟨rfl,g1,s,g3,g4⟩,λh=>(by cases h),λh=>(by cases h)⟩
   · next bt=>
     split at h
     · next p rc he=>
       obtain⟨hp,h⟩:=h
       exact go h ⟨λh=>(by cases h),λ_ _=>⟨nx,p,he,hp⟩,λh=>(by cases h)⟩
     · split at h
       · next k u he=>
         split at h
         · next hf=>exact go h ⟨λh=>(by cases h),λ_ h=>(by cases h),λ_=>⟨k,u,he,rfl,hf⟩⟩
         · exact h.elim
       · exact h.elim
theorem Bg {ops:List Oper} {V:Fr} {M:Mem} {H:List Hd} {o:Oper} {k:Nat} {u:ak} (h:evalW P Gl N ops V M H o=some (k,u)):o.dst=none:=by
  unfold evalW at h
  split at h
  · next U _ _=>exact U
  · cases h
theorem mL: ∀(l:List Nat) {M:Mem},ai w J M->ai w J (gq l M)
  | [],_,hm=>hm
  |k::r,M,hm=>by
   unfold gq
   split
   · next l hh hb=>
     split
     · next EJ=>
       refine mL r ?_
       refine hm.yL rfl hb (by simp[fN]) (λL hL c T hc j hj x hx hd=>⟨by rw[py];rfl,by rw[py];trivial⟩) (λj=>sI EJ j)
     · exact mL r hm
   · exact mL r hm
theorem xx: ∀{l:List SV},l.all zI=true->l=fN l.length
  | [],_=>rfl
  |s::r,h=>by
   simp only[List.all_cons,Bool.and_eq_true]at h
   have:=xx h.2
   cases s<;>first|(cases h.1;done)|skip
   show _=SV.aj::fN r.length
   rw[<-this]
theorem Cl {k:Nat} {e:ao} (h:uT (aa M k) e=true):Ab M e k:=by
  unfold uT at h
  split at h
  · next l l' U h2 h3 h4=>
    simp only[Bool.and_eq_true]at h
    obtain⟨⟨⟨g1,g2⟩,g3⟩,g4⟩:=h
    have g1:=Nat.eq_of_beq_eq_true g1
    have g2:=Nat.eq_of_beq_eq_true g2
    have g4:=Nat.eq_of_beq_eq_true g4
    refine⟨(aa M k).rs,(aa M k).ds,l.length,l',?_,g4,?_⟩
    · rw[<-xx g3]
      generalize aa M k=e0 at*
      cases e0;simp_all
    · cases e;simp_all
  · cases h
theorem iV {rs:List Rc} {i j:Nat} (h:j<i):aL (rs.take i) j=aL rs j:=by
  unfold aL
  rw[List.getD_eq_getElem?_getD,List.getD_eq_getElem?_getD,List.getElem?_take_of_lt h]
theorem ik {α:Type} {f g:Nat->List α}: ∀{E:List Nat},(∀j∈E,f j=g j)->E.flatMap f=E.flatMap g
  | [],_=>rfl
  |j::E,h=>by rw[List.flatMap_cons,List.flatMap_cons,h j (by simp),ik λi hi=>h i (by simp[hi])]
theorem sT: ∀{l:List (List Nat)},l.flatten.Nodup-> ∀{i j k:Nat} {x y:List Nat},l[i]? =some x->l[j]? =some y->k∈x->k∈y->i=j
  | [],_,i,j,k,x,y,h,_,_,_=>by simp at h
  |z::l,hn,i,j,k,x,y,hi,hj,hx,hy=>by
   rw[List.flatten_cons,List.nodup_append]at hn
   have mem: ∀{q:Nat} {v:List Nat},l[q]? =some v->k∈v->k∈l.flatten:=λhq hv=>List.mem_flatten.2 ⟨_,List.mem_of_getElem? hq,hv⟩
   cases i with
   |zero=>
    cases j with
    |zero=>rfl
    |succ j=>
     simp at hi hj;subst hi
     exact absurd rfl (hn.2.2 k hx k (mem hj hy))
   |succ i=>
    cases j with
    |zero=>
     simp at hi hj;subst hj
     exact absurd rfl (hn.2.2 k hy k (mem hi hx))
    |succ j=>exact congrArg (· +1) (sT hn.2.1 (i:=i) (j:=j) (by simpa using hi) (by simpa using hj) hx hy)
theorem tS {x:Option Nat} {y:Nat} (h:lW x y=true):x=some y:=by
  cases x with
  |none=>cases h
  |some z=>rw[Nat.eq_of_beq_eq_true h]
theorem tq {k:Nat}: ∀{u:ak},k∈u.map (·.1)-> ∃p∈u,p.1=k/\aa u k=p.2
  | [],h=>by simp at h
  |p::r,h=>by
   obtain⟨p1,p2⟩:=p
   by_cases hk:p1=k
   · subst hk;exact⟨(p1,p2),List.mem_cons_self,rfl,ba⟩
   · simp only[List.map_cons,List.mem_cons]at h
     obtain⟨q,U,h2,h3⟩:=tq (h.resolve_left λe=>hk e.symm)
     exact⟨q,by simp[U],h2,by rw[aQ hk];exact h3⟩
theorem o_: ∀(l:List Oper) (F:Fr) (t:Nat),look (bB l F) t= .aj\/(look (bB l F) t=look F t/\ ∀o∈l,o.dst≠some t)
  | [],F,t=> .inr ⟨rfl,λo ho=>by simp at ho⟩
  |o::l,F,t=>by
   cases hd:o.dst with
   |none=>
    have e:bB (o::l) F=bB l F:=by simp[bB,hd]
    rw[e]
    rcases o_ l F t with h|⟨U,h2⟩
    · exact .inl h
    · refine .inr ⟨U,λo' dx=>?_⟩
      rcases List.mem_cons.1 dx with rfl|dx
      · rw[hd];simp
      · exact h2 o' dx
   |some x=>
    have e:bB (o::l) F=(x,.aj)::bB l F:=by simp[bB,hd]
    rw[e]
    by_cases hx:x=t
    · subst hx;exact .inl look_eq
    · rw[iu hx]
      rcases o_ l F t with h|⟨U,h2⟩
      · exact .inl h
      · refine .inr ⟨U,λo' dx=>?_⟩
        rcases List.mem_cons.1 dx with rfl|dx
        · rw[hd];simpa using hx
        · exact h2 o' dx
theorem sU {sg:Bool} {ops:Array Oper} {R:List (List Nat)} {m:Nat} {MJ:Mem} {rs:List Rc} {gs ws:List Bool} {bj:Nat} (hR:bH ops.toList []=R) (kv:m<=ops.size) (c1:j7 0 ops.toList=true) (c3:nodupB ((ops.toList.take m).map λo=>o.dst.toList).flatten=true) (gB:bA w J N F a.tmps)
    (h2:rs.length=(ops.toList.take m).length) (kB:gs.length=(ops.toList.take m).length) (lX:ws.length=(ops.toList.take m).length)
    (h3: ∀k o,(ops.toList.take m)[k]? =some o->
      (gs.getD k false=true->ws.getD k false=false/\o.guard=none/\ ∃s,aL rs k=⟨cY N o.dst s,[],[]⟩/\(jv P sg (vF (rs.take k) (bB (ops.toList.take m) F) (R.getD k [])) (aa (vM (rs.take k) MJ (R.getD k []))) o.op).run (λs'=>s'=s))/\
      (gs.getD k false=false->ws.getD k false=false-> ∃nx p,iz P sg Gl Γ N ops.toList (vF (rs.take k) (bB (ops.toList.take m) F) (R.getD k [])) (vM (rs.take k) MJ (R.getD k [])) (vH (rs.take k) (R.getD k [])) nx (R.getD k []) o=some (p,aL rs k)/\p)/\
      (ws.getD k false=true-> ∃q u,evalW P Gl N ops.toList (vF (rs.take k) (bB (ops.toList.take m) F) (R.getD k [])) (vM (rs.take k) MJ (R.getD k [])) (vH (rs.take k) (R.getD k [])) o=some (q,u)/\aL rs k=⟨[],[],u⟩/\aM (aa MJ) q=false))
    (c6:nC N ops.toList R MJ rs ws=true) (c7:pR ops.toList R gs=true):
    ea P sg Gl Γ N ops (λi=>R.getD i []) m rs F (bB (ops.toList.take m) F) MJ (λi=>gs.getD i false) (λi=>ws.getD i false)/\ ∀i j,j∈R.getD i []->j<i:=by
  have hlen:rs.length=m:=by rw[h2,List.length_take];simp;omega
  have uu:=(wN ops.toList []).2
  rw[hR]at uu
  simp only[List.length_nil,Nat.zero_add]at uu
  have dr: ∀{i o},ops[i]? =some o->ops.toList[i]? =some o:=λh=>by rw[Array.getElem?_toList];exact h
  have zK: ∀{i o},ops[i]? =some o->R.getD i []=gp (R.take i) o.after.toList []:=λh=>by
    rw[List.getD_eq_getElem?_getD,uu _ _ (dr h)];rfl
  have nD: ∀i o,ops[i]? =some o-> ∀e∈o.after,Region.binds .any e=true->e.on<i:=λi o ho e he hb=>by
    have:=wH c1 i o (dr ho) e he hb
    omega
  have uU: ∀i o,ops[i]? =some o-> ∀x∈R.getD i [],∃e∈o.after,Region.binds .any e=true/\(x=e.on\/x∈R.getD e.on []):=by
    intro i o ho x hx
    rw[zK ho,mF]at hx
    rcases hx with hx|⟨e,he,hb,hx⟩
    · simp at hx
    · refine⟨e,by simpa using he,hb,hx.imp (λh=>h) λhx=>?_⟩
      have af:=nD i o ho e (by simpa using he) hb
      rwa [List.getD_eq_getElem?_getD,List.getElem?_take_of_lt af,<-List.getD_eq_getElem?_getD]at hx
  have zp: ∀{i j},j∈R.getD i []-> ∃o,ops[i]? =some o:=by
    intro i j hj
    rcases Nat.lt_or_ge i ops.size with hi|hi
    · exact⟨_,Array.getElem?_eq_getElem hi⟩
    · exfalso
      have hRl:R.length<=ops.size:=by
        have: ∀(l:List Oper) (acc:List (List Nat)),(bH l acc).length=acc.length+l.length:=by
          intro l
          induction l with
          |nil=>intro acc;simp[bH]
          |cons o r ih=>intro acc;simp only[bH,ih];simp;omega
        rw[<-hR,this];simp
      rw[List.getD_eq_getElem?_getD,List.getElem?_eq_none (by omega)]at hj
      simp at hj
  have af: ∀i j,j∈R.getD i []->j<i:=by
    intro i
    induction i using Nat.strongRecOn with
    |ind i ih=>
     intro j hj
     obtain⟨o,ho⟩:=zp hj
     obtain⟨e,he,hb,hx⟩:=uU i o ho j hj
     have:=nD i o ho e he hb
     rcases hx with rfl|hx
     · exact this
     · have:=ih e.on this j hx;omega
  have lM: ∀{i o e},ops[i]? =some o->e∈o.after->Region.binds .any e=true->e.on∈R.getD i []/\ ∀x∈R.getD e.on [],x∈R.getD i []:=by
    intro i o e ho he hb
    have uV:=nD i o ho e he hb
    rw[zK ho]
    refine⟨mF.2 (.inr ⟨e,by simpa using he,hb,.inl rfl⟩),λx hx=>mF.2 (.inr ⟨e,by simpa using he,hb,.inr ?_⟩)⟩
    rwa [List.getD_eq_getElem?_getD,List.getElem?_take_of_lt uV,<-List.getD_eq_getElem?_getD]
  have vj: ∀i j,j∈R.getD i []-> ∀k∈R.getD j [],k∈R.getD i []:=by
    intro i
    induction i using Nat.strongRecOn with
    |ind i ih=>
     intro j hj k hk
     obtain⟨o,ho⟩:=zp hj
     obtain⟨e,he,hb,hx⟩:=uU i o ho j hj
     rcases hx with rfl|hx
     · exact(lM ho he hb).2 k hk
     · exact(lM ho he hb).2 k (ih e.on (nD i o ho e he hb) j hx k hk)
  have FF:gs.length=m:=by rw[kB,List.length_take];simp;omega
  simp only[nC,Bool.and_eq_true]at c6
  obtain⟨k1,k2⟩:=c6
  have k1:=la k1
  have kk: ∀i,i<m->_:=λi hi=>List.all_eq_true.1 k2 i (List.mem_range.2 (by rw[hlen];exact hi))
  have short: ∀i,m<=i->aL rs i=⟨[],[],[]⟩:=λi hi=>by
    unfold aL
    rw[List.getD_eq_getElem?_getD,List.getElem?_eq_none (by omega)];rfl
  have lY: ∀{i k},k∈keys rs i->i<m:=λ{i k} hk=>by
    rcases Nat.lt_or_ge i m with h|h
    · exact h
    · unfold keys at hk;rw[short i h]at hk;simp at hk
  have uv: ∀i,nB ops.toList i=dS ops i:=λi=>by
    unfold nB dS
    rw[Array.getElem?_toList]
    cases ops[i]? <;>rfl
  have SS:ea P sg Gl Γ N ops (λi=>R.getD i []) m rs F (bB (ops.toList.take m) F) MJ (λi=>gs.getD i false) (λi=>ws.getD i false):=by
    refine⟨uU,vj,af,nD,kv,?_,?_,?_,?_,?_,?_,?_,?_,?_,?_,?_,?_,short,?_,?_⟩
    · intro i o hi ho dD gC
      obtain⟨dI,p,g1,g2⟩:=(h3 i o (by rw[List.getElem?_take_of_lt hi];exact dr ho)).2.1 dD gC
      refine⟨dI,p,?_,g2⟩
      have e1:vF (rs.take i) (bB (ops.toList.take m) F) (R.getD i [])=vF rs (bB (ops.toList.take m) F) (R.getD i []):=by
        unfold vF;rw[ik λj hj=>by rw[iV (af i j hj)]]
      have e2:vM (rs.take i) MJ (R.getD i [])=vM rs MJ (R.getD i []):=by
        unfold vM;rw[ik λj hj=>by rw[iV (af i j hj)]]
      have e3:vH (rs.take i) (R.getD i [])=vH rs (R.getD i []):=by
        unfold vH;rw[ik λj hj=>by rw[iV (af i j hj)]]
      rw[e1,e2,e3]at g1
      exact g1
    · intro i o hi ho dD gC
      obtain⟨q,u,g1,g2,g3⟩:=(h3 i o (by rw[List.getElem?_take_of_lt hi];exact dr ho)).2.2 gC
      have e1:vF (rs.take i) (bB (ops.toList.take m) F) (R.getD i [])=vF rs (bB (ops.toList.take m) F) (R.getD i []):=by
        unfold vF;rw[ik λj hj=>by rw[iV (af i j hj)]]
      have e2:vM (rs.take i) MJ (R.getD i [])=vM rs MJ (R.getD i []):=by
        unfold vM;rw[ik λj hj=>by rw[iV (af i j hj)]]
      have e3:vH (rs.take i) (R.getD i [])=vH rs (R.getD i []):=by
        unfold vH;rw[ik λj hj=>by rw[iV (af i j hj)]]
      rw[e1,e2,e3]at g1
      exact⟨Bg g1,by rw[g2],by rw[g2],q,by rw[g2];exact g1,g3⟩
    · intro i gC k hk
      obtain⟨p,hp,rfl⟩:=List.mem_map.1 hk
      have:=kk i (lY hk)
      simp only[Bool.and_eq_true]at this
      have:=List.all_eq_true.1 this.2 p hp
      simp only[Bool.and_eq_true,Bool.or_eq_true]at this
      rcases this.1.1 with h|h
      · exact h
      · have gC:ws.getD i false=false:=gC
        rw[gC]at h;cases h.1.1
    · intro i o hi ho dD
      obtain⟨_,g1,s,g3,g4⟩:=(h3 i o (by rw[List.getElem?_take_of_lt hi];exact dr ho)).1 dD
      have e1:vF (rs.take i) (bB (ops.toList.take m) F) (R.getD i [])=vF rs (bB (ops.toList.take m) F) (R.getD i []):=by
        unfold vF;rw[ik λj hj=>by rw[iV (af i j hj)]]
      have e2: ∀MJ,vM (rs.take i) MJ (R.getD i [])=vM rs MJ (R.getD i []):=by
        intro MJ
        unfold vM;rw[ik λj hj=>by rw[iV (af i j hj)]]
      rw[e1,e2]at g4
      exact⟨g1,s,g3,g4⟩
    · intro i oi hi dD ho j oj Ac aP kC bt
      have:=List.all_eq_true.1 c7 i (List.mem_range.2 (by omega))
      rw[dD,dr ho]at this
      simp only[Bool.not_true,Bool.false_or,Bool.and_eq_true]at this
      have aw:=(Array.getElem?_eq_some_iff.1 Ac).1
      have:=List.all_eq_true.1 this.2 j (List.mem_range.2 (by simpa using aw))
      rw[dr Ac,Bool.or_eq_true,Bool.or_eq_true]at this
      rcases this with(h|h)|h
      · exact absurd (Nat.eq_of_beq_eq_true h) aP
      · exact absurd (cU.1 h) kC
      · rw[Bool.or_eq_true]at h
        rcases h with h|h
        · rw[List.any_eq_true]at h
          obtain⟨e,he,hb⟩:=h
          rw[Bool.and_eq_true]at hb
          exact absurd (Nat.eq_of_beq_eq_true hb.2) (bt e (by simpa using he) hb.1)
        · simpa using h
    · intro i hi dD
      have:=List.all_eq_true.1 c7 i (List.mem_range.2 (by omega))
      have aN:i<ops.toList.length:=by simp;omega
      rw[dD,List.getElem?_eq_getElem aN]at this
      simp only[Bool.not_true,Bool.false_or,Bool.and_eq_true]at this
      simpa using this.1
    · intro i p hp
      have hi:i<m:=by
        rcases Nat.lt_or_ge i m with h|h
        · exact h
        · rw[short i h]at hp;simp at hp
      have:=kk i hi
      simp only[Bool.and_eq_true]at this
      have:=List.all_eq_true.1 this.1.1 p hp
      rw[Bool.and_eq_true]at this
      rw[<-uv]
      exact⟨tS this.1,Nat.le_of_ble_eq_true this.2⟩
    · intro i x hx
      have hi:i<m:=by
        rcases Nat.lt_or_ge i m with h|h
        · exact h
        · rw[short i h]at hx;simp at hx
      have:=kk i hi
      simp only[Bool.and_eq_true]at this
      have:=List.all_eq_true.1 this.1.2 x hx
      rw[Bool.and_eq_true,List.any_eq_true]at this
      obtain⟨d1,g,hg,d2⟩:=this
      rw[<-uv]
      exact⟨tS d1,g,hg,by rw[<-uv];exact tS d2⟩
    · intro i j t hi hj e1 e2
      have get: ∀{q},q<m->dS ops q=some t-> ∃x,((ops.toList.take m).map λo=>o.dst.toList)[q]? =some x/\t∈x:=by
        intro q hq hd
        unfold dS at hd
        cases ho:ops[q]? with
        |none=>rw[ho]at hd;cases hd
        |some o=>
         rw[ho]at hd
         have hd:o.dst=some t:=hd
         exact⟨o.dst.toList,by rw[List.getElem?_map,List.getElem?_take_of_lt hq,dr ho];rfl,by rw[hd];simp⟩
      obtain⟨x,x1,x2⟩:=get hi e1
      obtain⟨y,y1,y2⟩:=get hj e2
      exact sT (la c3) x1 y1 x2 y2
    · intro i j k hi hj
      have get: ∀{q},q<m->(rs.map λrc=>rc.u.map (·.1))[q]? =some (keys rs q):=by
        intro q hq
        have:rs[q]? =some rs[q]:=List.getElem?_eq_getElem (by omega)
        rw[List.getElem?_map,this]
        simp[keys,aL,List.getD_eq_getElem?_getD,this]
      exact sT k1 (get (lY hi)) (get (lY hj)) hi hj
    · intro i k hk
      obtain⟨p,hp,rfl⟩:=List.mem_map.1 hk
      have:=kk i (lY hk)
      simp only[Bool.and_eq_true]at this
      have:=List.all_eq_true.1 this.2 p hp
      simp only[Bool.and_eq_true,Bool.or_eq_true,Bool.not_eq_true']at this
      rcases this.1.1 with h|⟨⟨_,h⟩,h2⟩
      · exact .inl h
      · refine .inr ⟨h,?_⟩
        obtain⟨p',n_,EK,vt⟩:=tq hk
        obtain⟨x,hx,hxe⟩:=List.mem_map.1 hk
        rw[vt]
        have:=kk i (lY hk)
        simp only[Bool.and_eq_true]at this
        have:=List.all_eq_true.1 this.2 p' n_
        simp only[Bool.and_eq_true,Bool.or_eq_true,Bool.not_eq_true']at this
        rw[<-EK]at h⊢
        rcases this.1.1 with h'|⟨_,h'⟩
        · rw[h]at h';cases h'
        · exact Cl h'
    · intro i k hk
      obtain⟨p,hp,rfl,vt⟩:=tq hk
      have:=kk i (lY hk)
      simp only[Bool.and_eq_true]at this
      have:=List.all_eq_true.1 this.2 p hp
      simp only[Bool.and_eq_true]at this
      rw[vt]
      exact⟨Nat.eq_of_beq_eq_true this.1.2,Nat.eq_of_beq_eq_true this.2⟩
    · intro t
      rcases o_ (ops.toList.take m) F t with e|⟨e1,e2⟩
      · exact .inl e
      · refine .inr ⟨e1,λi hi fW=>?_⟩
        unfold dS at fW
        cases ho:ops[i]? with
        |none=>rw[ho]at fW;cases fW
        |some o=>
         rw[ho]at fW
         exact e2 o (List.mem_of_getElem? (i:=i) (by rw[List.getElem?_take_of_lt hi];exact dr ho)) fW
    · intro t ht
      rcases o_ (ops.toList.take m) F t with e|⟨e1,_⟩
      · exact e
      · rw[e1];exact gB.out t ht
  exact⟨SS,af⟩
theorem xy (hS:Sound P Gl Γ) {sg:Bool} {ops:Array Oper} {Q:Exit->Act->World->Prop} {K:Fr->Mem->Nat->Prop} {S:List Nat} {nx:Nat}
    (dK: ∀d c a v w,Q (.panic c) (Act.put a d v) w->Q (.panic c) a w) (hQ: ∀a' w',nE P Gl N S a w J K a' w'->Q .normal a' w') (hd: ∀o∈ops.toList,∀t,o.dst=some t->t∈S) (h:St P Gl N F M a w J) (he:pS P sg Gl Γ N ops.toList K F M nx):P.follows .mixedOrders=true/\wpAny P .any ops Q ops.size (Array.replicate ops.size false) a {w with drawn:=w.drawn+1}:=by
  unfold pS at he
  simp only[mG,eL]at he
  split at he
  rotate_left
  · exact he.elim
  next c1 c3 c4 c5=>
  generalize hR:bH ops.toList []=R at*
  generalize hm:tk ops.toList 0 R 0=m at*
  have kv:m<=ops.size:=by simpa using Nat.le_of_ble_eq_true c4
  have kD:ai w J (gq ((ops.toList.take m).filterMap (lu Gl (eN P sg Gl Γ N M (ops.toList.take m) F nx))) M):=mL _ h.mem
  generalize gq ((ops.toList.take m).filterMap (lu Gl (eN P sg Gl Γ N M (ops.toList.take m) F nx))) M=MJ at*
  obtain⟨rs,gs,ws,bj,U,h2,kB,lX,h3⟩:=px (ops.toList.take m) 0 [] [] [] nx rfl rfl rfl he
  simp only[List.nil_append,Nat.zero_add]at U h3
  split at U
  rotate_left
  · exact U.elim
  next c6=>
  rw[Bool.and_eq_true,Bool.and_eq_true]at c6
  obtain⟨⟨c6,c2⟩,c7⟩:=c6
  have dr: ∀{i o},ops[i]? =some o->ops.toList[i]? =some o:=λh=>by rw[Array.getElem?_toList];exact h
  obtain⟨SS,af⟩:=sU (Gl:=Gl) (Γ:=Γ) (sg:=sg) (bj:=bj) hR kv c1 c3 h.frame h2 kB lX h3 c6 c7
  have hT: ∀i,m<=i->i<ops.size-> ∀j,j<i->j∈R.getD i []\/(j<m/\gs.getD j false=true):=by
    intro i qJ aN j hj
    have:=List.all_eq_true.1 c2 i (List.mem_range.2 (by simpa using aN))
    rw[Bool.or_eq_true]at this
    rcases this with h|h
    · have:i<m:=Nat.le_of_ble_eq_true h
      omega
    · have h:=List.all_eq_true.1 h j (List.mem_range.2 hj)
      rw[Bool.or_eq_true,Bool.and_eq_true]at h
      exact h.imp cU.1 λh=>⟨Nat.le_of_ble_eq_true h.1,h.2⟩
  refine⟨c5,?_⟩
  have dL:Cw w {w with drawn:=w.drawn+1}:=⟨rfl,rfl,rfl,Nat.le_refl _,λ_ _=>rfl⟩
  have hJ:St P Gl N F MJ a w J:=⟨h.frame,h.bG,kD,h.defers⟩
  have h':=hJ.step (az.more kD dL)
  have bJ:=h'.mem
  refine C6 (J:=J) (a0:=a) (al:=J) hS SS hT bJ h'.frame h'.bG dK ?_ ops.size (Array.replicate ops.size false) a _ (by simp) ?_ ?_
  · intro a' w' ae I
    obtain⟨g1,g2,g3⟩:=I.all SS bJ h'.frame (E:=List.range m) (λj hj=>List.mem_range.1 hj) (λj hj k hk=>List.mem_range.2 (by have:=af j k hk;have:=List.mem_range.1 hj;omega))
    have aF:=I.iI SS bJ (List.range m)
    have aD:St P Gl N (vF rs (bB (ops.toList.take m) F) (List.range m)) (vM rs MJ (List.range m)) a' w' (aY rs MJ ae (List.range m)):=⟨g2,λg=>Den.ext (o:=J.bare) aF.bare (h'.bG g),g1,I.defers⟩
    obtain⟨F5,M5,oa,oc,U⟩:=kZ U
    refine ir hS hQ (ops.toList.drop m) _ _ bj _ a' w' _ (λo ho=>hd o (List.mem_of_mem_drop ho)) (aD.congr oa oc) g3 ((dL.ext J).trans aF) ⟨by rw[I.size,h.frame.size],λi hi=>?_⟩ U
    refine I.gy i λj hj dy=>?_
    unfold dS at dy
    cases ho:ops[j]? with
    |none=>rw[ho]at dy;cases dy
    |some o=>
     rw[ho]at dy
     exact hi (hd o (List.mem_of_getElem? (dr ho)) i dy)
  · unfold eQ
    exact Nat.le_trans (List.length_filter_le _ _) (by simp)
  · have no: ∀j,¬(Array.replicate ops.size false).getD j false=true:=λj=>by
      simp[Array.getD]
    exact⟨λj hj=>absurd hj (no j),λj hj=>absurd hj (no j),⟨rfl,rfl,rfl,Nat.le_refl _,λ_ _ _=>rfl⟩,λj k _ _ L hL=>(let⟨_,_,_,_,c,T,U,h2,_⟩:=bJ.row k none L hL;⟨c,T,U,h2⟩),λ_ h=>h,bJ.bI,λ_ _ h=>h,rfl,bJ.dj,rfl,λ_ _ _=>rfl,λk p L hL=>bJ.own _ ⟨k,p,L,hL,rfl⟩,bJ.inj,h.defers,h.frame.size,λ_ _=>rfl,λj hj=>absurd hj (no j)⟩
theorem Bh (hS:Sound P Gl Γ) {sg:Bool} {ops:Array Oper} {Q:Exit->Act->World->Prop} {K:Fr->Mem->Nat->Prop} {S:List Nat} {nx:Nat}
    (dK: ∀d c a v w,Q (.panic c) (Act.put a d v) w->Q (.panic c) a w) (hQ: ∀a' w',nE P Gl N S a w J K a' w'->Q .normal a' w') (hd: ∀o∈ops.toList,∀t,o.dst=some t->t∈S) (h:St P Gl N F M a w J) {m:Nat} (he:tl P sg Gl Γ N ops.toList m K F M nx):P.follows .mixedOrders=true/\wpAny P .any ops Q ops.size (Array.replicate ops.size false) a {w with drawn:=w.drawn+1}:=by
  unfold tl at he
  simp only[mG]at he
  split at he
  rotate_left
  · exact he.elim
  next c1 c3 c4 c5=>
  generalize hR:bH ops.toList []=R at*
  have kv:m<=ops.size:=by simpa using Nat.le_of_ble_eq_true c4
  have kD:ai w J (gq ((ops.toList.take m).filterMap (lu Gl (eN P sg Gl Γ N M (ops.toList.take m) F nx))) M):=mL _ h.mem
  generalize gq ((ops.toList.take m).filterMap (lu Gl (eN P sg Gl Γ N M (ops.toList.take m) F nx))) M=MJ at*
  obtain⟨rs,gs,ws,bj,U,h2,kB,lX,h3⟩:=px (ops.toList.take m) 0 [] [] [] nx rfl rfl rfl he
  simp only[List.nil_append,Nat.zero_add]at U h3
  split at U
  rotate_left
  · exact U.elim
  next p KQ oB c6 cq lZ=>
  split at U
  rotate_left
  · exact U.elim
  next pr κ ck cn=>
  split at U
  rotate_left
  · exact U.elim
  next wz=>
  obtain⟨hp,vu,U⟩:=U
  simp only[Bool.and_eq_true]at c6
  obtain⟨⟨⟨c6,c2⟩,c7⟩,c8⟩:=c6
  have dr: ∀{i o},ops[i]? =some o->ops.toList[i]? =some o:=λh=>by rw[Array.getElem?_toList];exact h
  obtain⟨SS,af⟩:=sU (Gl:=Gl) (Γ:=Γ) (sg:=sg) (bj:=bj) hR kv c1 c3 h.frame h2 kB lX h3 c6 c7
  have hT: ∀i,m<i->i<ops.size-> ∀j,j<i->j∈R.getD i []:=by
    intro i qJ aN j hj
    have:=List.all_eq_true.1 c2 i (List.mem_range.2 (by simpa using aN))
    rw[Bool.or_eq_true]at this
    rcases this with h|h
    · have:i<=m:=Nat.le_of_ble_eq_true h
      omega
    · exact cU.1 (List.all_eq_true.1 h j (List.mem_range.2 hj))
  have qj:ops[m]? =some oB:=by rw[<-Array.getElem?_toList];exact lZ
  unfold qH at c8
  rw[lZ]at c8
  simp only[Bool.and_eq_true]at c8
  have QQ:qK P Gl N ops (λi=>R.getD i []) m rs (bB (ops.toList.take m) F) MJ (λi=>gs.getD i false) KQ oB:=by
    refine⟨qj,λj o hj ho hn hr=>oP cq hp j (List.mem_range.2 hj) o (dr ho) hn hr,⟨_,pr,κ,cn,vu,λk hk kE=>?_⟩,λk hk=>?_,by simpa using c8.1,λj o hj ho hn=>?_,λj hj=>af m j hj⟩
    · have:=List.all_eq_true.1 wz k hk
      rw[cU.2 kE]at this
      cases this
    · have:=List.all_eq_true.1 ck k hk
      simp only[Bool.and_eq_true,Bool.not_eq_true']at this
      refine⟨this.1,λj bk=>?_⟩
      unfold keys at bk
      have kF:j<rs.length:=by
        rcases Nat.lt_or_ge j rs.length with h|h
        · exact h
        · unfold aL at bk
          rw[List.getD_eq_getElem?_getD,List.getElem?_eq_none h]at bk
          simp at bk
      have fc:aL rs j∈rs:=by
        unfold aL
        rw[List.getD_eq_getElem?_getD,List.getElem?_eq_getElem kF]
        exact List.getElem_mem kF
      have:=List.all_eq_true.1 this.2 (aL rs j) fc
      rw[cU.2 bk]at this
      cases this
    · have:=List.all_eq_true.1 c8.2 j (List.mem_range.2 hj)
      rw[Bool.or_eq_true]at this
      rcases this with h|h
      · exact absurd (cU.1 h) hn
      · rw[dr ho]at h
        simpa using h
  refine⟨c5,?_⟩
  have dL:Cw w {w with drawn:=w.drawn+1}:=⟨rfl,rfl,rfl,Nat.le_refl _,λ_ _=>rfl⟩
  have hJ:St P Gl N F MJ a w J:=⟨h.frame,h.bG,kD,h.defers⟩
  have h':=hJ.step (az.more kD dL)
  have bJ:=h'.mem
  refine Cm (J:=J) (a0:=a) (al:=J) hS SS hT bJ h'.frame h'.bG dK QQ ?_ ops.size (Array.replicate ops.size false) a _ (by simp) ?_ ?_
  · intro a' w' ae I
    obtain⟨g1,g2,g3⟩:=I.all SS bJ h'.frame (E:=List.range m) (λj hj=>List.mem_range.1 hj) (λj hj k hk=>List.mem_range.2 (by have:=af j k hk;have:=List.mem_range.1 hj;omega))
    have aF:=I.iI SS bJ (List.range m)
    have aD:St P Gl N (vF rs (bB (ops.toList.take m) F) (List.range m)) (vM rs MJ (List.range m)) a' w' (aY rs MJ ae (List.range m)):=⟨g2,λg=>Den.ext (o:=J.bare) aF.bare (h'.bG g),g1,I.defers⟩
    obtain⟨F5,M5,oa,oc,U⟩:=kZ U
    refine ir hS hQ (ops.toList.drop m) _ _ bj _ a' w' _ (λo ho=>hd o (List.mem_of_mem_drop ho)) (aD.congr oa oc) g3 ((dL.ext J).trans aF) ⟨by rw[I.size,h.frame.size],λi hi=>?_⟩ U
    refine I.gy i λj hj dy=>?_
    unfold dS at dy
    cases ho:ops[j]? with
    |none=>rw[ho]at dy;cases dy
    |some o=>
     rw[ho]at dy
     exact hi (hd o (List.mem_of_getElem? (dr ho)) i dy)
  · unfold eQ
    exact Nat.le_trans (List.length_filter_le _ _) (by simp)
  · have no: ∀j,¬(Array.replicate ops.size false).getD j false=true:=λj=>by
      simp[Array.getD]
    exact⟨λj hj=>absurd hj (no j),λj hj=>absurd hj (no j),⟨rfl,rfl,rfl,Nat.le_refl _,λ_ _ _=>rfl⟩,λj k _ _ L hL=>(let⟨_,_,_,_,c,T,U,h2,_⟩:=bJ.row k none L hL;⟨c,T,U,h2⟩),λ_ h=>h,bJ.bI,λ_ _ h=>h,rfl,bJ.dj,rfl,λ_ _ _=>rfl,λk p L hL=>bJ.own _ ⟨k,p,L,hL,rfl⟩,bJ.inj,h.defers,h.frame.size,λ_ _=>rfl,λj hj=>absurd hj (no j)⟩
theorem Cn {u:ak} {X Y:Mem} (h: ∀k,aa X k=aa Y k) (k:Nat):aa (u++X) k=aa (u++Y) k:=by
  by_cases hk:k∈u.map (·.1)
  · rw[pU hk,pU hk]
  · rw[mU hk,mU hk];exact h k
theorem Bi (hS:Sound P Gl Γ) {sg:Bool} {ops:Array Oper} {Q:Exit->Act->World->Prop} {K:Fr->Mem->Nat->Prop} {S:List Nat} {nx:Nat}
    (dK: ∀d c a v w,Q (.panic c) (Act.put a d v) w->Q (.panic c) a w) (hQ: ∀a' w',nE P Gl N S a w J K a' w'->Q .normal a' w') (hd: ∀o∈ops.toList,∀t,o.dst=some t->t∈S) (h:St P Gl N F M a w J) {m:Nat} (he:tm P sg Gl Γ N ops.toList m K F M nx):P.follows .mixedOrders=true/\wpAny P .any ops Q ops.size (Array.replicate ops.size false) a {w with drawn:=w.drawn+1}:=by
  unfold tm at he
  simp only[mG]at he
  split at he
  rotate_left
  · exact he.elim
  next c1 c3 c4 c5=>
  generalize hR:bH ops.toList []=R at*
  have kv:m<=ops.size:=by simpa using Nat.le_of_ble_eq_true c4
  obtain⟨rs,gs,ws,bj,U,h2,kB,lX,h3⟩:=px (ops.toList.take m) 0 [] [] [] nx rfl rfl rfl he
  simp only[List.nil_append,Nat.zero_add]at U h3
  split at U
  rotate_left
  · exact U.elim
  next p KQ oB c6 cq lZ=>
  split at U
  rotate_left
  · exact U.elim
  next pr sB uB ck cn=>
  split at U
  rotate_left
  · exact U.elim
  next wz EL=>
  obtain⟨hp,vu,U⟩:=U
  simp only[Bool.and_eq_true]at c6
  obtain⟨⟨⟨⟨c6,c2⟩,c7⟩,c8⟩,c9⟩:=c6
  have dr: ∀{i o},ops[i]? =some o->ops.toList[i]? =some o:=λh=>by rw[Array.getElem?_toList];exact h
  obtain⟨SS,af⟩:=sU (Gl:=Gl) (Γ:=Γ) (sg:=sg) (bj:=bj) hR kv c1 c3 h.frame h2 kB lX h3 c6 c7
  have hT: ∀i,m<i->i<ops.size-> ∀j,j<i->j∈R.getD i []:=by
    intro i qJ aN j hj
    have:=List.all_eq_true.1 c2 i (List.mem_range.2 (by simpa using aN))
    rw[Bool.or_eq_true]at this
    rcases this with h|h
    · have:i<=m:=Nat.le_of_ble_eq_true h
      omega
    · exact cU.1 (List.all_eq_true.1 h j (List.mem_range.2 hj))
  have qj:ops[m]? =some oB:=by rw[<-Array.getElem?_toList];exact lZ
  unfold qH at c8
  rw[lZ]at c8
  simp only[Bool.and_eq_true]at c8
  have uW: ∀j,j<m->j∉R.getD m []->keys rs j= []/\ws.getD j false=false:=by
    intro j hj hn
    have:=List.all_eq_true.1 c9 j (List.mem_range.2 hj)
    rw[Bool.or_eq_true]at this
    rcases this with h|h
    · exact absurd (cU.1 h) hn
    · rw[Bool.and_eq_true,Bool.not_eq_true']at h
      refine⟨?_,h.2⟩
      have h:=h.1
      unfold keys
      split at h
      · next e=>rw[e];rfl
      · cases h
  have QQ:qk P Gl Γ N ops (λi=>R.getD i []) m rs (bB (ops.toList.take m) F) M (λi=>gs.getD i false) (λi=>ws.getD i false) KQ oB sB uB:=by
    refine⟨qj,λj o hj ho hn hr=>oP cq hp j (List.mem_range.2 hj) o (dr ho) hn hr,uW,⟨bj,pr,cn,vu⟩,λk hk kE=>?_,λk hk=>?_,by simpa using c8.1,λj o hj ho hn=>?_,λj hj=>af m j hj⟩
    · have:=List.all_eq_true.1 wz k hk
      rw[cU.2 kE]at this
      cases this
    · have:=List.all_eq_true.1 ck k hk
      simp only[Bool.and_eq_true,Bool.not_eq_true']at this
      refine⟨this.1,λj bk=>?_⟩
      unfold keys at bk
      have kF:j<rs.length:=by
        rcases Nat.lt_or_ge j rs.length with h|h
        · exact h
        · unfold aL at bk
          rw[List.getD_eq_getElem?_getD,List.getElem?_eq_none h]at bk
          simp at bk
      have fc:aL rs j∈rs:=by
        unfold aL
        rw[List.getD_eq_getElem?_getD,List.getElem?_eq_getElem kF]
        exact List.getElem_mem kF
      have:=List.all_eq_true.1 this.2 (aL rs j) fc
      rw[cU.2 bk]at this
      cases this
    · have:=List.all_eq_true.1 c8.2 j (List.mem_range.2 hj)
      rw[Bool.or_eq_true]at this
      rcases this with h|h
      · exact absurd (cU.1 h) hn
      · rw[dr ho]at h
        simpa using h
  refine⟨c5,?_⟩
  have dL:Cw w {w with drawn:=w.drawn+1}:=⟨rfl,rfl,rfl,Nat.le_refl _,λ_ _=>rfl⟩
  have h':=h.step (az.more h.mem dL)
  have bJ:=h'.mem
  have gD:m<ops.size:=(Array.getElem?_eq_some_iff.1 qj).1
  refine Co (J:=J) (a0:=a) (al:=J) hS SS hT bJ h'.frame h'.bG dK QQ ?_ ops.size (Array.replicate ops.size false) a _ (by simp) ?_ ?_
  · intro a' w' ae v w2 I p8
    obtain⟨_,dm,hx,fc,fb⟩:=p8
    obtain⟨g1,g2,g3⟩:=I.all SS bJ h'.frame (E:=List.range m) (λj hj=>List.mem_range.1 hj) (λj hj k hk=>List.mem_range.2 (by have:=af j k hk;have:=List.mem_range.1 hj;omega))
    have lM:aY rs M ae (List.range m)=aY rs M ae (R.getD m []):=by
      show(⟨_,_,_,_⟩:Ow)=⟨_,_,_,_⟩
      congr 1
      funext k q
      have:c_ rs M (List.range m) k↔c_ rs M (R.getD m []) k:=by
        constructor
        · rintro ⟨e0,e1,e2⟩
          exact⟨e0,e1,λ⟨j,hj,bk⟩=>e2 ⟨j,List.mem_range.2 (af m j hj),bk⟩⟩
        · rintro ⟨e0,e1,e2⟩
          refine⟨e0,e1,?_⟩
          rintro ⟨j,hj,bk⟩
          have dz:=List.mem_range.1 hj
          by_cases hn:j∈R.getD m []
          · exact e2 ⟨j,hn,bk⟩
          · rw[(uW j dz hn).1]at bk;cases bk
      by_cases hh:c_ rs M (List.range m) k
      · rw[if_pos hh,if_pos (this.1 hh)]
      · rw[if_neg hh,if_neg (λe=>hh (this.2 e))]
    have lN: ∀k,aa (vM rs M (List.range m)) k=aa (vM rs M (R.getD m [])) k:=by
      intro k
      by_cases hk: ∃j∈R.getD m [],k∈keys rs j
      · obtain⟨j,hj,bk⟩:=hk
        rw[lb (λi j=>SS.key i j _) bk (List.mem_range.2 (af m j hj)),lb (λi j=>SS.key i j _) bk hj]
      · rw[iq λj hj bk=>?_,iq λj hj bk=>hk ⟨j,hj,bk⟩]
        have dz:=List.mem_range.1 hj
        by_cases hn:j∈R.getD m []
        · exact hk ⟨j,hn,bk⟩
        · rw[(uW j dz hn).1]at bk;cases bk
    rw[lM]at g1 g2 g3
    have aF:=I.iI SS bJ (R.getD m [])
    have aD:St P Gl N (vF rs (bB (ops.toList.take m) F) (List.range m)) (uB++vM rs M (List.range m)) a' w2 dm:=⟨g2.ext hx,λg=>Den.ext (o:=J.bare) (aF.trans hx).bare (h'.bG g),fc.congr (Cn lN),I.defers⟩
    obtain⟨F5,M5,oa,oc,U⟩:=kZ U
    have EM:oB∈ops.toList:=List.mem_of_getElem? lZ
    have EN:bq S a a':=by
      refine⟨by rw[I.size,h.frame.size],λi hi=>?_⟩
      refine I.gy i λj hj dy=>?_
      unfold dS at dy
      cases ho:ops[j]? with
      |none=>rw[ho]at dy;cases dy
      |some o=>
       rw[ho]at dy
       exact hi (hd o (List.mem_of_getElem? (dr ho)) i dy)
    exact ir hS hQ (ops.toList.drop (m+1)) _ _ _ _ (a'.put oB.dst v) w2 dm (λo ho=>hd o (List.mem_of_mem_drop ho)) ((aD.put fb).congr oa oc) ((g3.ext hx).put EL v) (((dL.ext J).trans aF).trans hx) (EN.put (hd oB EM) v) U
  · unfold eQ
    exact Nat.le_trans (List.length_filter_le _ _) (by simp)
  · have no: ∀j,¬(Array.replicate ops.size false).getD j false=true:=λj=>by
      simp[Array.getD]
    exact⟨λj hj=>absurd hj (no j),λj hj=>absurd hj (no j),⟨rfl,rfl,rfl,Nat.le_refl _,λ_ _ _=>rfl⟩,λj k _ _ L hL=>(let⟨_,_,_,_,c,T,U,h2,_⟩:=bJ.row k none L hL;⟨c,T,U,h2⟩),λ_ h=>h,bJ.bI,λ_ _ h=>h,rfl,bJ.dj,rfl,λ_ _ _=>rfl,λk p L hL=>bJ.own _ ⟨k,p,L,hL,rfl⟩,bJ.inj,h.defers,h.frame.size,λ_ _=>rfl,λj hj=>absurd hj (no j)⟩
def DG (P:Program) (Gl:Nat->SV) (Γ:Table) (ops:List Oper) (m:Nat) (F:Fr) (M:Mem) (nx:Nat):Option Nat:=
  (List.range m).find? λi=>match ops[i]? with|some o=>(match p9 P Gl Γ F M nx o with|some x=>!dT (aa M) x.2.2|none=>false)|none=>false
def DH (Gl:Nat->SV) (ops:List Oper) (m:Nat) (F:Fr) (M:Mem):Option Nat:=
  (List.range m).find? λi=>match ops[i]? with|some o=>(match o.op with| .store _ x _=>(match aW Gl F x with| .ptr k _ _ _ _=>(match (aa M k).b with| .row _ _ _=>true|_=>false)|_=>false)|_=>false)|none=>false
def lg (ops:List Oper):Nat->List (List Nat)->Nat->Nat
  |_,[],m=>m
  |i,p::r,m=>lg ops (i+1) r (match nf ops i||Nat.beq p.length i||(List.range i).all λj=>aT p j||nf ops j with|true=>m|false=>i+1)
def yM (ops:List Oper) (m:Nat):Nat->List (List Nat)->List Nat->List Nat
  |_,[],acc=>acc
  |i,p::r,acc=>yM ops m (i+1) r (match !Nat.blt i m&&nf ops i&&!((List.range i).all λj=>aT p j||nf ops j)&&p.all (λj=>Nat.blt j m||aT acc j)with|true=>acc++ [i]|false=>acc)
def isApp:Op->Bool
  | .call {callee:= .builtin .append,args:=_,argTypes:=_}=>true
  |_=>false
def Cp:Op->Option Nat
  | .call {callee:= .builtin .append,args:=⟨[.tmp t,_]⟩,argTypes:=_}=>some t
  |_=>none
def C7:SV->Bool
  | .aC _ _ _ _ _=>true
  |_=>false
def Eh:Op->Bool
  | .load _ _=>true
  |_=>false
def DI (V:Fr) (ops:List Oper) (o:Oper):Bool:=
  match Cp o.op with
  |some t=>
   (match ops.any λp=>isApp p.op&&lW p.dst t with
    |true=>true
    |false=>match ops.any λp=>Eh p.op&&lW p.dst t with
     |true=>C7 (look V t)
     |false=>false)
  |none=>false
def DJ (V:Fr) (ops:List Oper) (m:Nat):Option Nat:=(List.range m).find? λi=>match ops[i]? with|some o=>DI V ops o|none=>false
def eF (R:List (List Nat)) (n i:Nat):List Nat×List Nat:=((List.range n).filter λk=>!Nat.beq k i&&!aT (R.getD k []) i,(List.range n).filter λk=>aT (R.getD k []) i)
def th (P:Program) (sg:Bool) (Gl:Nat->SV) (Γ:Table) (N:Nat) (ops:List Oper) (K:Fr->Mem->Nat->Prop) (F:Fr) (M:Mem) (nx:Nat):Prop:=
  j8 (bH ops []) λR=>
  bZ (lg ops 0 R 0) λm=>
  match DJ (eN P sg Gl Γ N M (ops.take m) F nx) ops m with
  |some i=>
   kp ((eF R ops.length i).1++ [i]++(eF R ops.length i).2) λord=>
   match jf ord ops.length with
   |true=>bZ (eF R ops.length i).1.length λmB=>l_ (dU ord ops) λnF=>tl P sg Gl Γ N nF mB K F M nx
   |false=>False
  |none=>
  match (match DG P Gl Γ ops m (eN P sg Gl Γ N M (ops.take m) F nx) M nx with|some i=>some i|none=>DH Gl ops m (eN P sg Gl Γ N M (ops.take m) F nx) M)with
  |some i=>
   kp ((eF R ops.length i).1++ [i]++(eF R ops.length i).2) λord=>
   match jf ord ops.length with
   |true=>bZ (eF R ops.length i).1.length λmB=>l_ (dU ord ops) λnF=>tm P sg Gl Γ N nF mB K F M nx
   |false=>False
  |none=>
  match yM ops m 0 R []with
  | []=>pS P sg Gl Γ N ops K F M nx
  |i::r=>
   kp (List.range m++(i::r)++((List.range ops.length).filter λk=>!Nat.blt k m&&!aT (i::r) k)) λord=>
   match jf ord ops.length with
   |true=>l_ (dU ord ops) λnF=>pS P sg Gl Γ N nF K F M nx
   |false=>False
theorem Cj (hS:Sound P Gl Γ) {sg:Bool} {id:Nat} {ops:Array Oper} {Q:Exit->Act->World->Prop} {K:Fr->Mem->Nat->Prop} {S:List Nat} {nx:Nat}
    (dK: ∀d c a v w,Q (.panic c) (Act.put a d v) w->Q (.panic c) a w) (hQ: ∀a' w',nE P Gl N S a w J K a' w'->Q .normal a' w') (hd: ∀o∈ops.toList,∀t,o.dst=some t->t∈S) (h:St P Gl N F M a w J) (he:th P sg Gl Γ N ops.toList K F M nx):(Code.region id ops true).wp P Q a w:=by
  unfold th at he
  simp only[mG,eL,sV,yN]at he
  split at he
  · next iB _=>
    split at he
    · next hp=>
      have hp:jf ((eF (bH ops.toList []) ops.toList.length iB).1++ [iB]++(eF (bH ops.toList []) ops.toList.length iB).2) ops.size=true:=by simpa using hp
      revert he hp
      generalize (eF (bH ops.toList []) ops.toList.length iB).1.length=mB
      generalize ((eF (bH ops.toList []) ops.toList.length iB).1++ [iB]++(eF (bH ops.toList []) ops.toList.length iB).2)=ord
      intro he hp
      have gr:=sW hp
      obtain⟨U,h2⟩:=Bh (ops:=(dU ord ops.toList).toArray) (m:=mB) hS dK hQ (λo ho t ht=>by
        obtain⟨o0,od,e⟩:=sX (by simpa using ho)
        exact hd o0 od t (e▸ht)) h (by simpa using he)
      rw[ld gr]at h2
      exact wp_region_any U (oS gr ops.size (vw gr) h2)
    · exact he.elim
  split at he
  · next iB _=>
    split at he
    · next hp=>
      have hp:jf ((eF (bH ops.toList []) ops.toList.length iB).1++ [iB]++(eF (bH ops.toList []) ops.toList.length iB).2) ops.size=true:=by simpa using hp
      revert he hp
      generalize (eF (bH ops.toList []) ops.toList.length iB).1.length=mB
      generalize ((eF (bH ops.toList []) ops.toList.length iB).1++ [iB]++(eF (bH ops.toList []) ops.toList.length iB).2)=ord
      intro he hp
      have gr:=sW hp
      obtain⟨U,h2⟩:=Bi (ops:=(dU ord ops.toList).toArray) (m:=mB) hS dK hQ (λo ho t ht=>by
        obtain⟨o0,od,e⟩:=sX (by simpa using ho)
        exact hd o0 od t (e▸ht)) h (by simpa using he)
      rw[ld gr]at h2
      exact wp_region_any U (oS gr ops.size (vw gr) h2)
    · exact he.elim
  split at he
  · obtain⟨U,h2⟩:=xy hS dK hQ hd h he
    exact wp_region_any U h2
  · next i r hmv=>
    split at he
    · next hp=>
      have hp:jf (List.range (lg ops.toList 0 (bH ops.toList []) 0)++(i::r)++((List.range ops.toList.length).filter λk=>!Nat.blt k (lg ops.toList 0 (bH ops.toList []) 0)&&!aT (i::r) k)) ops.size=true:=by simpa using hp
      revert he hp
      generalize (List.range (lg ops.toList 0 (bH ops.toList []) 0)++(i::r)++((List.range ops.toList.length).filter λk=>!Nat.blt k (lg ops.toList 0 (bH ops.toList []) 0)&&!aT (i::r) k))=ord
      intro he hp
      have gr:=sW hp
      obtain⟨U,h2⟩:=xy (ops:=(dU ord ops.toList).toArray) hS dK hQ (λo ho t ht=>by
        obtain⟨o0,od,e⟩:=sX (by simpa using ho)
        exact hd o0 od t (e▸ht)) h (by simpa using he)
      rw[ld gr]at h2
      exact wp_region_any U (oS gr ops.size (vw gr) h2)
    · exact he.elim
end
end Go.Sy
