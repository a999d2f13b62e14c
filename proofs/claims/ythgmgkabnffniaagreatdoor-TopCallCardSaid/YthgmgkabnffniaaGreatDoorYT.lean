/- A word that is sent: the plain law. -/
import Derived.Test.YthgmgkabnffniaaGreatDoorYS
import Derived.Test.YthgmgkabnffniaaGreatDoorYI
import Derived.OpenShut
import Derived.ChangeArms
import Derived.MakeChecks
import Derived.Lay
import Derived.Test.YthgmgkabnffniaaGreatDoorTie
import Derived.ChangeSame
import Derived.ChangeVars
import Derived.JoinedOf
import Derived.RowKit
import Derived.LaidLaws
import Derived.LaidHandle
import Derived.Stop.Joined
import Derived.SevenTiedAt
import Derived.OpenVars
import Derived.Test.YthgmgkabnffniaaGreatDoorCards
import Derived.Test.YthgmgkabnffniaaGreatDoorYQ
set_option linter.unusedVariables false
set_option linter.unusedSimpArgs false
set_option maxRecDepth 100000
namespace Go.Proofs.YthgmgkabnffniaaGreatDoor
open Go.RowKit Go.Sy
theorem RT (E R:Nat->Int):(aM (aM (ct E R) 0) 1).ai 0=8:=by kernel_rfl
theorem RU (E R:Nat->Int):(aM (aM (ct E R) 0) 1).ai 1=9:=by kernel_rfl
theorem H4 (E R:Nat->Int):cH (aM (aM (ct E R) 0) 1) 9 10 7=0:=by kernel_rfl
theorem RS (E R:Nat->Int):lh (aM (aM (ct E R) 0) 1) 9=0:=by kernel_rfl
theorem H5 (E R:Nat->Int):cH (b_ (aM (aM (ct E R) 0) 1) 9 10) 8 10 7=0:=by kernel_rfl
theorem H6 (E R:Nat->Int):cH (aM (aM (ct E R) 0) 1) 8 10 7=0:=by kernel_rfl
theorem H7 (E R:Nat->Int) (bd wd:Int):cH (ca (aM (aM (ct E R) 0) 1) 8 10 bd wd true) 9 10 7=0:=by kernel_rfl
theorem RV (E R:Nat->Int) (bd wd:Int):lh (ca (aM (aM (ct E R) 0) 1) 8 10 bd wd true) 9=0:=by kernel_rfl
theorem aaN (E R:Nat->Int) (bd wd:Int):((ca (b_ (aM (aM (ct E R) 0) 1) 9 10) 8 10 bd wd true).tasks 9).r1=bd:=by kernel_rfl
theorem aaO (E R:Nat->Int) (bd wd:Int):((ca (b_ (aM (aM (ct E R) 0) 1) 9 10) 8 10 bd wd true).tasks 9).r2=wd:=by kernel_rfl
theorem aaP (E R:Nat->Int) (bd wd:Int):((ca (b_ (aM (aM (ct E R) 0) 1) 9 10) 8 10 bd wd true).tasks 9).ar=8:=by kernel_rfl
theorem aaQ (E R:Nat->Int) (bd wd:Int):((ca (b_ (aM (aM (ct E R) 0) 1) 9 10) 8 10 bd wd true).tasks 8).st=5:=by kernel_rfl
theorem aaR (E R:Nat->Int) (bd wd:Int):cH (aM (ca (b_ (aM (aM (ct E R) 0) 1) 9 10) 8 10 bd wd true) 1) 9 10 7=0:=by kernel_rfl
theorem aaS (E R:Nat->Int) (bd wd:Int):lh (aM (ca (b_ (aM (aM (ct E R) 0) 1) 9 10) 8 10 bd wd true) 1) 9=7:=by kernel_rfl
theorem QK (E R:Nat->Int) (bd wd:Int):cH (aM (ca (b_ (aM (aM (ct E R) 0) 1) 9 10) 8 10 bd wd true) 1) 9 9 6=0:=by kernel_rfl
theorem QL (E R:Nat->Int) (bd wd:Int):lX (aM (ca (b_ (aM (aM (ct E R) 0) 1) 9 10) 8 10 bd wd true) 1) 9=0:=by kernel_rfl
theorem acK (E R:Nat->Int) (bd wd:Int):(aM (ca (b_ (aM (aM (ct E R) 0) 1) 9 10) 8 10 bd wd true) 1).kinds 9=6:=by kernel_rfl
theorem aaT (E R:Nat->Int) (bd wd an:Int):cH (fa (aM (ca (b_ (aM (aM (ct E R) 0) 1) 9 10) 8 10 bd wd true) 1) 9 an) 9 9 6=0:=by kernel_rfl
theorem aaU (E R:Nat->Int) (bd wd an:Int):lX (fa (aM (ca (b_ (aM (aM (ct E R) 0) 1) 9 10) 8 10 bd wd true) 1) 9 an) 9=6:=by kernel_rfl
theorem aaV (E R:Nat->Int) (bd wd an:Int):((fa (aM (ca (b_ (aM (aM (ct E R) 0) 1) 9 10) 8 10 bd wd true) 1) 9 an).tasks 8).st=1:=by kernel_rfl
theorem aaW (E R:Nat->Int) (bd wd an:Int):((fa (aM (ca (b_ (aM (aM (ct E R) 0) 1) 9 10) 8 10 bd wd true) 1) 9 an).tasks 8).r1=0:=by kernel_rfl
theorem aaX (E R:Nat->Int) (bd wd an:Int):((fa (aM (ca (b_ (aM (aM (ct E R) 0) 1) 9 10) 8 10 bd wd true) 1) 9 an).tasks 8).r2=an:=by kernel_rfl
theorem aaY (E R:Nat->Int) (bd wd an:Int):((fa (aM (ca (b_ (aM (aM (ct E R) 0) 1) 9 10) 8 10 bd wd true) 1) 9 an).tasks 9).ar= -1:=by kernel_rfl
theorem aaZ (E R:Nat->Int) (bd wd:Int):((b_ (ca (aM (aM (ct E R) 0) 1) 8 10 bd wd true) 9 10).tasks 9).r1=bd:=by kernel_rfl
theorem aa0 (E R:Nat->Int) (bd wd:Int):((b_ (ca (aM (aM (ct E R) 0) 1) 8 10 bd wd true) 9 10).tasks 9).r2=wd:=by kernel_rfl
theorem aa1 (E R:Nat->Int) (bd wd:Int):((b_ (ca (aM (aM (ct E R) 0) 1) 8 10 bd wd true) 9 10).tasks 9).ar=8:=by kernel_rfl
theorem aa2 (E R:Nat->Int) (bd wd:Int):((b_ (ca (aM (aM (ct E R) 0) 1) 8 10 bd wd true) 9 10).tasks 8).st=5:=by kernel_rfl
theorem aa3 (E R:Nat->Int) (bd wd:Int):cH (aM (b_ (ca (aM (aM (ct E R) 0) 1) 8 10 bd wd true) 9 10) 1) 9 10 7=0:=by kernel_rfl
theorem aa4 (E R:Nat->Int) (bd wd:Int):lh (aM (b_ (ca (aM (aM (ct E R) 0) 1) 8 10 bd wd true) 9 10) 1) 9=7:=by kernel_rfl
theorem QM (E R:Nat->Int) (bd wd:Int):cH (aM (b_ (ca (aM (aM (ct E R) 0) 1) 8 10 bd wd true) 9 10) 1) 9 9 6=0:=by kernel_rfl
theorem QN (E R:Nat->Int) (bd wd:Int):lX (aM (b_ (ca (aM (aM (ct E R) 0) 1) 8 10 bd wd true) 9 10) 1) 9=0:=by kernel_rfl
theorem acL (E R:Nat->Int) (bd wd:Int):(aM (b_ (ca (aM (aM (ct E R) 0) 1) 8 10 bd wd true) 9 10) 1).kinds 9=6:=by kernel_rfl
theorem aa5 (E R:Nat->Int) (bd wd an:Int):cH (fa (aM (b_ (ca (aM (aM (ct E R) 0) 1) 8 10 bd wd true) 9 10) 1) 9 an) 9 9 6=0:=by kernel_rfl
theorem aa6 (E R:Nat->Int) (bd wd an:Int):lX (fa (aM (b_ (ca (aM (aM (ct E R) 0) 1) 8 10 bd wd true) 9 10) 1) 9 an) 9=6:=by kernel_rfl
theorem aa7 (E R:Nat->Int) (bd wd an:Int):((fa (aM (b_ (ca (aM (aM (ct E R) 0) 1) 8 10 bd wd true) 9 10) 1) 9 an).tasks 8).st=1:=by kernel_rfl
theorem aa8 (E R:Nat->Int) (bd wd an:Int):((fa (aM (b_ (ca (aM (aM (ct E R) 0) 1) 8 10 bd wd true) 9 10) 1) 9 an).tasks 8).r1=0:=by kernel_rfl
theorem aa9 (E R:Nat->Int) (bd wd an:Int):((fa (aM (b_ (ca (aM (aM (ct E R) 0) 1) 8 10 bd wd true) 9 10) 1) 9 an).tasks 8).r2=an:=by kernel_rfl
theorem aa_ (E R:Nat->Int) (bd wd an:Int):((fa (aM (b_ (ca (aM (aM (ct E R) 0) 1) 8 10 bd wd true) 9 10) 1) 9 an).tasks 9).ar= -1:=by kernel_rfl
theorem RR (W:Wd) (c:Nat):(aM W c).ak=W.ak/\(aM W c).aC=W.aC:=by have h:=(Q4 W c).1;simp only[ee,pN,and_true]at h;exact⟨h.2.1,h.2.2.2.2.2.2.1⟩
structure eQ (W:Wd):Prop where
 s:bI W
 k:W.ak=24
 c:W.aC=2
theorem eQ.mT {W:Wd} (t:eQ W) {c:Nat} (b:c<2):eQ (aM W c):=⟨t.s.mT (by rw[t.c];exact b),(RR W c).1.trans t.k,(RR W c).2.trans t.c⟩
theorem eQ.Em {W:Wd} (t:eQ W) {x a:Int} (b:cH W x a 7=0):eQ (b_ W x a):=⟨t.s.qe (t.s.t0.Em b) rfl rfl rfl rfl rfl rfl rfl rfl,t.k,t.c⟩
theorem eQ.snd {W:Wd} (t:eQ W) {x a b w:Int} {c:Bool} (d:cH W x a 7=0) (e:0<=b/\b<=65535) (g:0<=w/\w<=65535):eQ (ca W x a b w c):=⟨t.s.qe (t.s.t0.snd d e g) rfl rfl rfl rfl rfl rfl rfl rfl,t.k,t.c⟩
theorem eQ.En {W:Wd} (t:eQ W) {w:Int} (b:W.kinds 9=6) (d:0<=w/\w<=65535):eQ (fa W 9 w):=⟨t.s.qe (t.s.t0.En (by rw[t.k];decide) b d) rfl rfl rfl rfl rfl rfl rfl rfl,t.k,t.c⟩
theorem Ab {W:Wd} {x a:Int} (h:cH W x a 7=0) (e:Int) (h2:lh W x=e):fe W x a=e:=by unfold fe;rw[h];exact h2
theorem Sn {W:Wd} {x a:Int} (h:cH W x a 7=0) (h2:lh W x=0):eL W x a=b_ W x a:=by rw[Qn,Ab h 0 h2,show fJ 0 (m_ W x a)=m_ W x a from rfl,RO (by rw[h];rfl)]
theorem Iq {W:Wd} {x a b w:Int} (h:cH W x a 7=0) (c:0<=b/\b<=65535) (d:0<=w/\w<=65535):dX W x a b w=0:=by unfold dX;rw[h,ej c,ej d];rfl
theorem Sp {W:Wd} {x a b w:Int} {c:Bool} (h:cH W x a 7=0) (d:0<=b/\b<=65535) (e:0<=w/\w<=65535):eF W x a b w c=ca W x a b w c:=by rw[Qm,RM (by rw[Iq h d e];rfl)]
theorem Ac {W:Wd} {x w:Int} (h:cH W x x 6=0) (b:0<=w/\w<=65535) (e:Int) (h2:lX W x=e):fI W x w=e:=by unfold fI;rw[h,ej b];exact h2
theorem Sq {W:Wd} {x w:Int} (h:cH W x x 6=0) (b:0<=w/\w<=65535) (h2:lX W x=0):n_ W x w=fa W x w:=by rw[Qo,Ac h b 0 h2,show fJ 0 (m' W x w)=m' W x w from rfl,RP (by unfold mN;rw[h,ej b];rfl)]
structure TCP (b c d g h:Wd) (bd wd_ an:Int):Prop where
 wb:eQ b
 wc:eQ c
 wd:eQ d
 wg:eQ g
 wh:eQ h
 b0:b.ai 0=8
 b1:b.ai 1=9
 r1:(d.tasks 9).r1=bd
 r2:(d.tasks 9).r2=wd_
 ow:(d.tasks 9).ar=8
 st:(d.tasks 8).st=5
 gE:fe g 9 10=7
 aE:fI g 9 an=0
 hE:fI h 9 an=6
 hs:(h.tasks 8).st=1
 h1:(h.tasks 8).r1=0
 h2:(h.tasks 8).r2=an
 ho:(h.tasks 9).ar= -1
theorem DE (n:Nat) (raw:Nat->Int):∃E R,bs (bs (cb n raw 7) 0) 1=aM (aM (ct E R) 0) 1/\eQ (aM (aM (ct E R) 0) 1)/\eQ (cb n raw 7):=by obtain⟨R,b⟩:=Q3 n raw 7;have t:eQ (cb n raw 7):=⟨(Y7 (by decide)).1,(Q2 n raw 7).2,(Q2 n raw 7).1⟩;have c:=t;rw[b]at c;refine⟨_,R,?_,(c.mT (by decide)).mT (by decide),t⟩;rw[tj,tj,b]
theorem abF (n:Nat) (raw:Nat->Int) {bd wd an:Int} (c:0<=bd/\bd<=65535) (d:0<=wd/\wd<=65535) (b:0<=an/\an<=65535):(fe (bs (bs (cb n raw 7) 0) 1) 9 10=0/\dX (eL (bs (bs (cb n raw 7) 0) 1) 9 10) 8 10 bd wd=0)/\TCP (bs (bs (cb n raw 7) 0) 1) (eL (bs (bs (cb n raw 7) 0) 1) 9 10) (eF (eL (bs (bs (cb n raw 7) 0) 1) 9 10) 8 10 bd wd true) (bs (eF (eL (bs (bs (cb n raw 7) 0) 1) 9 10) 8 10 bd wd true) 1) (n_ (bs (eF (eL (bs (bs (cb n raw 7) 0) 1) 9 10) 8 10 bd wd true) 1) 9 an) bd wd an:=by
 obtain⟨E,R,e,g,_⟩:=DE n raw;have ec:(eL (bs (bs (cb n raw 7) 0) 1) 9 10)=(b_ (aM (aM (ct E R) 0) 1) 9 10):=by rw[e];exact Sn (H4 E R) (RS E R)
 have ed:(eF (eL (bs (bs (cb n raw 7) 0) 1) 9 10) 8 10 bd wd true)=(ca (b_ (aM (aM (ct E R) 0) 1) 9 10) 8 10 bd wd true):=by rw[ec];exact Sp (H5 E R) c d
 have h:eQ (b_ (aM (aM (ct E R) 0) 1) 9 10):=g.Em (H4 E R);have i:eQ (ca (b_ (aM (aM (ct E R) 0) 1) 9 10) 8 10 bd wd true):=h.snd (H5 E R) c d;have j:eQ (aM (ca (b_ (aM (aM (ct E R) 0) 1) 9 10) 8 10 bd wd true) 1):=i.mT (by decide);have k:(bs (eF (eL (bs (bs (cb n raw 7) 0) 1) 9 10) 8 10 bd wd true) 1)=(aM (ca (b_ (aM (aM (ct E R) 0) 1) 9 10) 8 10 bd wd true) 1):=by rw[ed];exact tj _ _
 have l:(n_ (bs (eF (eL (bs (bs (cb n raw 7) 0) 1) 9 10) 8 10 bd wd true) 1) 9 an)=fa (aM (ca (b_ (aM (aM (ct E R) 0) 1) 9 10) 8 10 bd wd true) 1) 9 an:=by rw[k];exact Sq (QK E R bd wd) b (QL E R bd wd)
 have o:eQ (fa (aM (ca (b_ (aM (aM (ct E R) 0) 1) 9 10) 8 10 bd wd true) 1) 9 an):=j.En (acK E R bd wd) b;rw[l,k,ed,ec,e];exact⟨⟨Ab (H4 E R) 0 (RS E R),Iq (H5 E R) c d⟩,g,h,i,j,o,RT E R,RU E R,aaN E R bd wd,aaO E R bd wd,aaP E R bd wd,aaQ E R bd wd,Ab (aaR E R bd wd) 7 (aaS E R bd wd),Ac (QK E R bd wd) b 0 (QL E R bd wd),Ac (aaT E R bd wd an) b 6 (aaU E R bd wd an),aaV E R bd wd an,aaW E R bd wd an,aaX E R bd wd an,aaY E R bd wd an⟩
theorem abG (n:Nat) (raw:Nat->Int) {bd wd an:Int} (c:0<=bd/\bd<=65535) (d:0<=wd/\wd<=65535) (b:0<=an/\an<=65535):(dX (bs (bs (cb n raw 7) 0) 1) 8 10 bd wd=0/\fe (eF (bs (bs (cb n raw 7) 0) 1) 8 10 bd wd true) 9 10=0)/\TCP (bs (bs (cb n raw 7) 0) 1) (eF (bs (bs (cb n raw 7) 0) 1) 8 10 bd wd true) (eL (eF (bs (bs (cb n raw 7) 0) 1) 8 10 bd wd true) 9 10) (bs (eL (eF (bs (bs (cb n raw 7) 0) 1) 8 10 bd wd true) 9 10) 1) (n_ (bs (eL (eF (bs (bs (cb n raw 7) 0) 1) 8 10 bd wd true) 9 10) 1) 9 an) bd wd an:=by
 obtain⟨E,R,e,g,_⟩:=DE n raw;have ec:(eF (bs (bs (cb n raw 7) 0) 1) 8 10 bd wd true)=(ca (aM (aM (ct E R) 0) 1) 8 10 bd wd true):=by rw[e];exact Sp (H6 E R) c d
 have ed:(eL (eF (bs (bs (cb n raw 7) 0) 1) 8 10 bd wd true) 9 10)=(b_ (ca (aM (aM (ct E R) 0) 1) 8 10 bd wd true) 9 10):=by rw[ec];exact Sn (H7 E R bd wd) (RV E R bd wd)
 have h:eQ (ca (aM (aM (ct E R) 0) 1) 8 10 bd wd true):=g.snd (H6 E R) c d;have i:eQ (b_ (ca (aM (aM (ct E R) 0) 1) 8 10 bd wd true) 9 10):=h.Em (H7 E R bd wd);have j:eQ (aM (b_ (ca (aM (aM (ct E R) 0) 1) 8 10 bd wd true) 9 10) 1):=i.mT (by decide);have k:(bs (eL (eF (bs (bs (cb n raw 7) 0) 1) 8 10 bd wd true) 9 10) 1)=(aM (b_ (ca (aM (aM (ct E R) 0) 1) 8 10 bd wd true) 9 10) 1):=by rw[ed];exact tj _ _
 have l:(n_ (bs (eL (eF (bs (bs (cb n raw 7) 0) 1) 8 10 bd wd true) 9 10) 1) 9 an)=fa (aM (b_ (ca (aM (aM (ct E R) 0) 1) 8 10 bd wd true) 9 10) 1) 9 an:=by rw[k];exact Sq (QM E R bd wd) b (QN E R bd wd)
 have o:eQ (fa (aM (b_ (ca (aM (aM (ct E R) 0) 1) 8 10 bd wd true) 9 10) 1) 9 an):=j.En (acL E R bd wd) b;rw[l,k,ed,ec,e];exact⟨⟨Iq (H6 E R) c d,Ab (H7 E R bd wd) 0 (RV E R bd wd)⟩,g,h,i,j,o,RT E R,RU E R,aaZ E R bd wd,aa0 E R bd wd,aa1 E R bd wd,aa2 E R bd wd,Ab (aa3 E R bd wd) 7 (aa4 E R bd wd),Ac (QM E R bd wd) b 0 (QN E R bd wd),Ac (aa5 E R bd wd an) b 6 (aa6 E R bd wd an),aa7 E R bd wd an,aa8 E R bd wd an,aa9 E R bd wd an,aa_ E R bd wd an⟩
def oT:Nat->SV:=λg=>bif Nat.beq g 1 then mS 1 else gP g
theorem yM:∀g,bk g=oT g\/bk g= .aI:=λ_=> .inr rfl
theorem ML:∀g,mS g=oT g\/mS g= .aI:=λg=>by
 cases h:Nat.beq g 1 with
 |true=>obtain rfl:=a_ h;exact .inl rfl
 |false=>right;unfold mS;rw[h];rfl
theorem qA:∀g,gP g=oT g\/gP g= .aI:=λg=>by
 cases h:Nat.beq g 1 with
 |true=>obtain rfl:=a_ h;exact .inr rfl
 |false=>left;unfold oT;rw[h];rfl
noncomputable def SW (n:Nat) (raw:Nat->Int) (word aH answer:Int):Cut where
 σ:=Nat
 rt:= [(11,0),(12,0)]
 sh _:= [(11,cm 0),(12,cm 1),(1,.v (.int .i64 (bj word 65536))),(2,.v (.int .i64 (bj aH 65536))),(3,.v (.int .i64 (bj answer 65536))),(14,.er 43 66 (0) (-1))]
 mem _:= [h_ (cb n raw 7),h_ (bs (cb n raw 7) 0)]
 inv _:=True
 dec _ _:=0
noncomputable def SX (n:Nat) (raw:Nat->Int) (word aH answer:Int):Cut where
 σ:=Nat
 rt:= [(11,0),(15,0)]
 sh _:= [(11,cm 0),(15,cm 1),(1,.v (.int .i64 (bj word 65536))),(2,.v (.int .i64 (bj aH 65536))),(3,.v (.int .i64 (bj answer 65536))),(14,.er 43 66 (0) (-1)),(17,.er 43 66 (0) (-1))]
 mem _:= [h_ (cb n raw 7),h_ (bs (bs (cb n raw 7) 0) 1)]
 inv _:=True
 dec _ _:=0
noncomputable def abx (n:Nat) (raw:Nat->Int) (word aH answer:Int):Cut where
 σ:=Nat
 rt:= [(11,0),(18,0)]
 sh _:= [(11,cm 0),(18,cm 1),(1,.v (.int .i64 (bj word 65536))),(2,.v (.int .i64 (bj aH 65536))),(3,.v (.int .i64 (bj answer 65536))),(19,.er 43 66 (fe (bs (bs (cb n raw 7) 0) 1) 9 10) (-1))]
 mem _:= [h_ (cb n raw 7),h_ (eL (bs (bs (cb n raw 7) 0) 1) 9 10)]
 inv _:=True
 dec _ _:=0
noncomputable def aby (n:Nat) (raw:Nat->Int) (word aH answer:Int):Cut where
 σ:=Nat
 rt:= [(11,0),(20,0)]
 sh _:= [(11,cm 0),(20,cm 1),(1,.v (.int .i64 (bj word 65536))),(2,.v (.int .i64 (bj aH 65536))),(3,.v (.int .i64 (bj answer 65536))),(19,.er 43 66 (0) (-1))]
 mem _:= [h_ (cb n raw 7),h_ (eF (eL (bs (bs (cb n raw 7) 0) 1) 9 10) 8 10 (bj aH 65536) (bj word 65536) true)]
 inv _:=True
 dec _ _:=0
noncomputable def abz (n:Nat) (raw:Nat->Int) (word aH answer:Int):Cut where
 σ:=Nat
 rt:= [(11,0),(21,0)]
 sh _:= [(11,cm 0),(21,cm 1),(1,.v (.int .i64 (bj word 65536))),(2,.v (.int .i64 (bj aH 65536))),(3,.v (.int .i64 (bj answer 65536))),(19,.er 43 66 (0) (-1))]
 mem _:= [h_ (cb n raw 7),h_ (bs (eF (eL (bs (bs (cb n raw 7) 0) 1) 9 10) 8 10 (bj aH 65536) (bj word 65536) true) 1)]
 inv _:=True
 dec _ _:=0
noncomputable def abA (n:Nat) (raw:Nat->Int) (word aH answer:Int):Cut where
 σ:=Nat
 rt:= [(11,0),(25,0)]
 sh _:= [(11,cm 0),(25,cm 1),(1,.v (.int .i64 (bj word 65536))),(2,.v (.int .i64 (bj aH 65536))),(3,.v (.int .i64 (bj answer 65536))),(19,.er 43 66 (fI (bs (eF (eL (bs (bs (cb n raw 7) 0) 1) 9 10) 8 10 (bj aH 65536) (bj word 65536) true) 1) 9 (bj answer 65536)) (-1)),(23,.v (.int .i64 (fe (bs (eF (eL (bs (bs (cb n raw 7) 0) 1) 9 10) 8 10 (bj aH 65536) (bj word 65536) true) 1) 9 10)))]
 mem _:= [h_ (cb n raw 7),h_ (n_ (bs (eF (eL (bs (bs (cb n raw 7) 0) 1) 9 10) 8 10 (bj aH 65536) (bj word 65536) true) 1) 9 (bj answer 65536))]
 inv _:=True
 dec _ _:=0
noncomputable def abB (n:Nat) (raw:Nat->Int) (word aH answer:Int):Cut where
 σ:=Nat
 rt:= [(11,0),(18,0)]
 sh _:= [(11,cm 0),(18,cm 1),(1,.v (.int .i64 (bj word 65536))),(2,.v (.int .i64 (bj aH 65536))),(3,.v (.int .i64 (bj answer 65536))),(19,.er 43 66 (0) (-1))]
 mem _:= [h_ (cb n raw 7),h_ (eF (bs (bs (cb n raw 7) 0) 1) 8 10 (bj aH 65536) (bj word 65536) true)]
 inv _:=True
 dec _ _:=0
noncomputable def abC (n:Nat) (raw:Nat->Int) (word aH answer:Int):Cut where
 σ:=Nat
 rt:= [(11,0),(20,0)]
 sh _:= [(11,cm 0),(20,cm 1),(1,.v (.int .i64 (bj word 65536))),(2,.v (.int .i64 (bj aH 65536))),(3,.v (.int .i64 (bj answer 65536))),(19,.er 43 66 (fe (eF (bs (bs (cb n raw 7) 0) 1) 8 10 (bj aH 65536) (bj word 65536) true) 9 10) (-1))]
 mem _:= [h_ (cb n raw 7),h_ (eL (eF (bs (bs (cb n raw 7) 0) 1) 8 10 (bj aH 65536) (bj word 65536) true) 9 10)]
 inv _:=True
 dec _ _:=0
noncomputable def abD (n:Nat) (raw:Nat->Int) (word aH answer:Int):Cut where
 σ:=Nat
 rt:= [(11,0),(21,0)]
 sh _:= [(11,cm 0),(21,cm 1),(1,.v (.int .i64 (bj word 65536))),(2,.v (.int .i64 (bj aH 65536))),(3,.v (.int .i64 (bj answer 65536))),(19,.er 43 66 (0) (-1))]
 mem _:= [h_ (cb n raw 7),h_ (bs (eL (eF (bs (bs (cb n raw 7) 0) 1) 8 10 (bj aH 65536) (bj word 65536) true) 9 10) 1)]
 inv _:=True
 dec _ _:=0
noncomputable def abE (n:Nat) (raw:Nat->Int) (word aH answer:Int):Cut where
 σ:=Nat
 rt:= [(11,0),(25,0)]
 sh _:= [(11,cm 0),(25,cm 1),(1,.v (.int .i64 (bj word 65536))),(2,.v (.int .i64 (bj aH 65536))),(3,.v (.int .i64 (bj answer 65536))),(19,.er 43 66 (fI (bs (eL (eF (bs (bs (cb n raw 7) 0) 1) 8 10 (bj aH 65536) (bj word 65536) true) 9 10) 1) 9 (bj answer 65536)) (-1)),(23,.v (.int .i64 (fe (bs (eL (eF (bs (bs (cb n raw 7) 0) 1) 8 10 (bj aH 65536) (bj word 65536) true) 9 10) 1) 9 10)))]
 mem _:= [h_ (cb n raw 7),h_ (n_ (bs (eL (eF (bs (bs (cb n raw 7) 0) 1) 8 10 (bj aH 65536) (bj word 65536) true) 9 10) 1) 9 (bj answer 65536))]
 inv _:=True
 dec _ _:=0
structure JL where
 (W X:Wd)
def JM:Sy.Spec:=⟨JL,λ⟨W,X⟩=> [hK W,hK X],λ_=> [],λ⟨W,X⟩=>bI X/\X.ak=W.ak/\X.aC=W.aC,λ_=> .v (.bool true),λ_=> [],
 λargs mem=>match args with| [a0,a1]=>some ⟨jj a0,jj a1⟩|_=>none⟩
def TP:aZ:=⟨[],(JM).g,none⟩
def JN:JL->Prop:=λ⟨W,X⟩=>let a0:=X.ak;let b0:=X.ao;let c0:=X.aO;let d0:=X.aX;let e0:=X.aC;let d:=X.aR;tn 2 ((((((((((((((True/\X.ay=X.ay/\(∀h0:Nat,h0<X.ay->True/\X.af h0=X.af h0))/\a0=a0/\(∀k0:Nat,k0<a0->True/\X.kinds k0=X.kinds k0))/\b0=b0/\(∀e:Nat,e<b0->aK (X.aa e) (X.aa e)))/\c0=c0/\(∀o0:Nat,o0<c0->aJ (X.tasks o0) (X.tasks o0)))/\d0=d0/\(∀b:Nat,let r0:=X.ah b;b<d0->True/\r0=r0/\(∀g:Nat,g<r0->True/\X.lines b g=X.lines b g)))/\X.aP=X.aP/\(∀v0:Nat,v0<X.aP->True/\X.bits v0=X.bits v0))/\e0=e0/\(∀w0:Nat,w0<e0->True/\X.ai w0=X.ai w0))/\d=d/\(∀c:Nat,let h:=X.al c;c<d->True/\h=h/\(∀z0:Nat,z0<h->True/\X.ready c z0=X.ready c z0)))/\X.aQ=X.aQ/\(∀a1:Nat,let b1:=X.aD a1;a1<X.aQ->True/\b1=b1/\(∀c1:Nat,c1<b1->aG (X.ax a1 c1) (X.ax a1 c1))))/\X.aL=X.aL/\(∀d1:Nat,d1<X.aL->True/\X.aA d1=X.aA d1))/\X.time=X.time)/\True)/\True/\Gf.match_1 (λj:B_=>Prop) (B_.mk X) (λi:Wd=>Sm i))/\cond (cond (wE X==0&&decide (0<(a0:Int))) ((a0:Int)==((W.ak:Nat):Int)) false) ((e0:Int)==((W.aC:Nat):Int)) false=true/\True)
set_option maxHeartbeats 1000000 in
theorem Jq:aY Tryz.prog oT 7 TP:=bn (.cons (VD.up yM) .nil) false Tryz.call7 Tryz.func7 (λ_=> []) (V:=JN) (λ_=>by kernel_rfl) λ⟨W,X⟩ hp=>by
 dsimp only[JM]at hp;dsimp only[JN,tn,aw];simp only[bq,bx,eq_self,implies_true,bo];obtain⟨hs,b,c⟩:=hp;have k0:=hs.z.k0;refine⟨⟨?_,hs.sm⟩,?_⟩
 ·repeat' (first|exact trivial|rfl|refine And.intro ?_ ?_|intro _)
 ·rw[zZ hs,b,c,decide_eq_true (show(0:Int)<(W.ak:Int) by omega)];simp
structure JO where
 (n:Nat) (raw:Nat->Int) (word aH answer:Int)
noncomputable def rU:Sy.Spec:=⟨JO,λ⟨n,raw,word,aH,answer⟩=> [.sl true 1 n (λb _=> .v (.int .i64 (raw b))),.v (.int .i64 word),.v (.int .i64 aH),.v (.int .i64 answer),.v (.bool true)],λ_=> [],λ⟨n,raw,word,aH,answer⟩=>(∀k,k<n->fH (raw k))/\fH word/\fH aH/\fH answer,λ_=> .v (.bool true),λ_=> [],
 λargs mem=>match args with| [a0,a1,c,a3,a4]=>some ⟨bT a0,λi=>av (bO a0 i 0),av (a1),av (c),av (a3)⟩|_=>none⟩
def EN:JO->Prop:=λ⟨n,raw,word,aH,answer⟩=>let a0:=decide (256<(n:Int));let b0:=true=true/\True;let c0:=(0:Int)=0;let d0:=True/\True;let e0:=tn 9 d0;let g0:=(65536:Int)=65536/\True;let h0:=(0:Int)<65536;let k0:=cb n raw 7;let l0:=k0.ay;let o0:=k0.ak;let q0:=k0.ao;let r0:=k0.aO;let u0:=k0.aX;let v0:=k0.aP;let w0:=k0.aC;let x0:=k0.aR;let y0:=k0.aQ;let z0:=k0.aL;let a1:=k0.time;let b1:=((((((((((True/\l0=l0/\(∀c1:Nat,c1<l0->True/\k0.af c1=k0.af c1))/\o0=o0/\(∀d1:Nat,d1<o0->True/\k0.kinds d1=k0.kinds d1))/\q0=q0/\(∀e1:Nat,e1<q0->aK (k0.aa e1) (k0.aa e1)))/\r0=r0/\(∀g1:Nat,g1<r0->aJ (k0.tasks g1) (k0.tasks g1)))/\u0=u0/\(∀h1:Nat,let k1:=k0.ah h1;h1<u0->True/\k1=k1/\(∀l1:Nat,l1<k1->True/\k0.lines h1 l1=k0.lines h1 l1)))/\v0=v0/\(∀o1:Nat,o1<v0->True/\k0.bits o1=k0.bits o1))/\w0=w0/\(∀q1:Nat,q1<w0->True/\k0.ai q1=k0.ai q1))/\x0=x0/\(∀u1:Nat,let v1:=k0.al u1;u1<x0->True/\v1=v1/\(∀w1:Nat,w1<v1->True/\k0.ready u1 w1=k0.ready u1 w1)))/\y0=y0/\(∀x1:Nat,let y1:=k0.aD x1;x1<y0->True/\y1=y1/\(∀z1:Nat,z1<y1->aG (k0.ax x1 z1) (k0.ax x1 z1))))/\z0=z0/\(∀a2:Nat,a2<z0->True/\k0.aA a2=k0.aA a2))/\a1=a1;let b2:=SV.ptr 0 0 none 0 0;let c2:=b2=b2;let d2:=SV.ptr 1 0 none 0 0;let e2:=d2=d2;let g2:=bj word 65536;let h2:=g2=g2;let k2:=bj aH 65536;let l2:=k2=k2;let o2:=bj answer 65536;let X:=o2=o2;let u2:=((-1):Int)=(-1);let v2:=c0/\u2;let g:=bs k0 (Int.toNat 0);let b:=bs k0 0;let y2:=b.ay;let z2:=b.ak;let a3:=b.ao;let b3:=b.aO;let c3:=b.aX;let d3:=b.aP;let e3:=b.aC;
 let g3:=b.aR;let h3:=b.aQ;let k3:=b.aL;let l3:=b.time;let o3:=(1:Int)=1/\True;let q3:=(0:Int)<=1;let r3:=Int.toNat 1;let h:=bs b r3;let v3:=bs b 1;let w3:=v3.ay;let x3:=v3.ak;let y3:=v3.ao;let z3:=v3.aO;let a4:=v3.aX;let b4:=v3.aP;let Y:=v3.aC;let d4:=v3.aR;let e4:=v3.aQ;let g4:=v3.aL;let h4:=v3.time;let k4:=(0:Int) !=0;let l4:=cond k4 true k4;let o4:=((((((((((True/\w3=w3/\(∀q4:Nat,q4<w3->True/\v3.af q4=v3.af q4))/\x3=x3/\(∀r4:Nat,r4<x3->True/\v3.kinds r4=v3.kinds r4))/\y3=y3/\(∀u4:Nat,u4<y3->aK (v3.aa u4) (v3.aa u4)))/\z3=z3/\(∀v4:Nat,v4<z3->aJ (v3.tasks v4) (v3.tasks v4)))/\a4=a4/\(∀w4:Nat,let x4:=v3.ah w4;w4<a4->True/\x4=x4/\(∀y4:Nat,y4<x4->True/\v3.lines w4 y4=v3.lines w4 y4)))/\b4=b4/\(∀z4:Nat,z4<b4->True/\v3.bits z4=v3.bits z4))/\Y=Y/\(∀a5:Nat,a5<Y->True/\v3.ai a5=v3.ai a5))/\d4=d4/\(∀b5:Nat,let c5:=v3.al b5;b5<d4->True/\c5=c5/\(∀d5:Nat,d5<c5->True/\v3.ready b5 d5=v3.ready b5 d5)))/\e4=e4/\(∀e5:Nat,let g5:=v3.aD e5;e5<e4->True/\g5=g5/\(∀h5:Nat,h5<g5->aG (v3.ax e5 h5) (v3.ax e5 h5))))/\g4=g4/\(∀k5:Nat,k5<g4->True/\v3.aA k5=v3.aA k5))/\h4=h4;let l5:=bI v3;let o5:=!true;let q5:=cond l4 true o5;let r5:=(Y:Int);let u5:=cond q5 true (v3.ai (Int.toNat 0) !=8);let v5:=cond u5 true (v3.ai r3 !=9);let w5:=false=true/\True;let x5:=(9:Int)=9/\(10:Int)=10/\True;let y5:=fe v3 9 10;let e:=eL v3 9 10;let a6:=e.ay;let b6:=e.ak;let c6:=e.ao;let d6:=e.aO;let e6:=e.aX;let g6:=e.aP;let h6:=e.aC;
 let k6:=e.aR;let l6:=e.aQ;let o6:=e.aL;let q6:=e.time;let r6:=((((((((((True/\a6=a6/\(∀u6:Nat,u6<a6->True/\e.af u6=e.af u6))/\b6=b6/\(∀v6:Nat,v6<b6->True/\e.kinds v6=e.kinds v6))/\c6=c6/\(∀w6:Nat,w6<c6->aK (e.aa w6) (e.aa w6)))/\d6=d6/\(∀x6:Nat,x6<d6->aJ (e.tasks x6) (e.tasks x6)))/\e6=e6/\(∀y6:Nat,let z6:=e.ah y6;y6<e6->True/\z6=z6/\(∀a7:Nat,a7<z6->True/\e.lines y6 a7=e.lines y6 a7)))/\g6=g6/\(∀b7:Nat,b7<g6->True/\e.bits b7=e.bits b7))/\h6=h6/\(∀c7:Nat,c7<h6->True/\e.ai c7=e.ai c7))/\k6=k6/\(∀d7:Nat,let e7:=e.al d7;d7<k6->True/\e7=e7/\(∀g7:Nat,g7<e7->True/\e.ready d7 g7=e.ready d7 g7)))/\l6=l6/\(∀h7:Nat,let k7:=e.aD h7;h7<l6->True/\k7=k7/\(∀l7:Nat,l7<k7->aG (e.ax h7 l7) (e.ax h7 l7))))/\o6=o6/\(∀o7:Nat,o7<o6->True/\e.aA o7=e.aA o7))/\q6=q6;let q7:=b1/\r6/\True;let r7:=y5 !=0;let u7:=bI e;let v7:=cond r7 true o5;let d:=eF e 8 10 k2 g2 true;let x7:=d.ay;let y7:=d.ak;let z7:=d.ao;let a8:=d.aO;let b8:=d.aX;let c8:=d.aP;let d8:=d.aC;let e8:=d.aR;let g8:=d.aQ;let h8:=d.aL;let k8:=d.time;
 let l8:=((((((((((True/\x7=x7/\(∀o8:Nat,o8<x7->True/\d.af o8=d.af o8))/\y7=y7/\(∀q8:Nat,q8<y7->True/\d.kinds q8=d.kinds q8))/\z7=z7/\(∀r8:Nat,r8<z7->aK (d.aa r8) (d.aa r8)))/\a8=a8/\(∀u8:Nat,u8<a8->aJ (d.tasks u8) (d.tasks u8)))/\b8=b8/\(∀v8:Nat,let w8:=d.ah v8;v8<b8->True/\w8=w8/\(∀x8:Nat,x8<w8->True/\d.lines v8 x8=d.lines v8 x8)))/\c8=c8/\(∀y8:Nat,y8<c8->True/\d.bits y8=d.bits y8))/\d8=d8/\(∀z8:Nat,z8<d8->True/\d.ai z8=d.ai z8))/\e8=e8/\(∀a9:Nat,let b9:=d.al a9;a9<e8->True/\b9=b9/\(∀c9:Nat,c9<b9->True/\d.ready a9 c9=d.ready a9 c9)))/\g8=g8/\(∀d9:Nat,let e9:=d.aD d9;d9<g8->True/\e9=e9/\(∀g9:Nat,g9<e9->aG (d.ax d9 g9) (d.ax d9 g9))))/\h8=h8/\(∀h9:Nat,h9<h8->True/\d.aA h9=d.aA h9))/\k8=k8;let k9:=b1/\l8/\True;let l9:=k4=false;let o9:=bI d;let q9:=cond k4 true o5;let r9:=q9=false;let u9:=(a8:Int);let v9:=(0:Int)<=9/\9<u9;let w9:=q3/\1<((8:Nat):Int);let x9:=d.tasks (Int.toNat 9);let y9:=cond q9 true (x9.r1 !=k2);let z9:=y9=false;let Am:=(0:Int)<=2/\2<((8:Nat):Int);let Ao:=cond y9 true (x9.r2 !=g2);let Ap:=cond Ao true (x9.ar !=8);let d10:=cond Ap true ((d.tasks (Int.toNat 8)).st !=5);let c:=bs d r3;let g10:=bs d 1;let u:=g10.ay;let v:=g10.ak;let x:=g10.ao;let y:=g10.aO;let z:=g10.aX;let A:=g10.aP;let B:=g10.aC;let v10:=g10.aR;let C:=g10.aQ;let E:=g10.aL;let Z:=g10.time;
 let Aq:=((((((((((True/\u=u/\(∀uc:Nat,uc<u->True/\g10.af uc=g10.af uc))/\v=v/\(∀ud:Nat,ud<v->True/\g10.kinds ud=g10.kinds ud))/\x=x/\(∀ue:Nat,ue<x->aK (g10.aa ue) (g10.aa ue)))/\y=y/\(∀d11:Nat,d11<y->aJ (g10.tasks d11) (g10.tasks d11)))/\z=z/\(∀G:Nat,let g11:=g10.ah G;G<z->True/\g11=g11/\(∀uf:Nat,uf<g11->True/\g10.lines G uf=g10.lines G uf)))/\A=A/\(∀ug:Nat,ug<A->True/\g10.bits ug=g10.bits ug))/\B=B/\(∀uh:Nat,uh<B->True/\g10.ai uh=g10.ai uh))/\v10=v10/\(∀I:Nat,let ui:=g10.al I;I<v10->True/\ui=ui/\(∀uj:Nat,uj<ui->True/\g10.ready I uj=g10.ready I uj)))/\C=C/\(∀J:Nat,let v11:=g10.aD J;J<C->True/\v11=v11/\(∀uk:Nat,uk<v11->aG (g10.ax J uk) (g10.ax J uk))))/\E=E/\(∀uo:Nat,uo<E->True/\g10.aA uo=g10.aA uo))/\Z=Z;let Ar:=True/\Sm g10/\bI g10;let uq:=fe g10 9 10;let a12:=uq=uq;let Au:=(9:Int)=9/\X/\True;let ur:=fI g10 9 o2;let d12:=n_ g10 9 o2;let uu:=d12.ay;let g12:=d12.ak;let uv:=d12.ao;let K:=d12.aO;let uw:=d12.aX;let ux:=d12.aP;let O:=d12.aC;let uy:=d12.aR;let uz:=d12.aQ;let v12:=d12.aL;let Av:=d12.time;
 let Aw:=((((((((((True/\uu=uu/\(∀uA:Nat,uA<uu->True/\d12.af uA=d12.af uA))/\g12=g12/\(∀z12:Nat,z12<g12->True/\d12.kinds z12=d12.kinds z12))/\uv=uv/\(∀uC:Nat,uC<uv->aK (d12.aa uC) (d12.aa uC)))/\K=K/\(∀uD:Nat,uD<K->aJ (d12.tasks uD) (d12.tasks uD)))/\uw=uw/\(∀R:Nat,let d13:=d12.ah R;R<uw->True/\d13=d13/\(∀uE:Nat,uE<d13->True/\d12.lines R uE=d12.lines R uE)))/\ux=ux/\(∀g13:Nat,g13<ux->True/\d12.bits g13=d12.bits g13))/\O=O/\(∀uF:Nat,uF<O->True/\d12.ai uF=d12.ai uF))/\uy=uy/\(∀S:Nat,let uG:=d12.al S;S<uy->True/\uG=uG/\(∀uH:Nat,uH<uG->True/\d12.ready S uH=d12.ready S uH)))/\uz=uz/\(∀T:Nat,let uI:=d12.aD T;T<uz->True/\uI=uI/\(∀uJ:Nat,uJ<uI->aG (d12.ax T uJ) (d12.ax T uJ))))/\v12=v12/\(∀uK:Nat,uK<v12->True/\d12.aA uK=d12.aA uK))/\Av=Av;let Ax:=b1/\Aw/\True;let Ay:=cond (ur !=0) true (uq !=7);let Az:=bI d12;let AA:=cond Ay true o5;let uL:=fI d12 9 o2;let AB:=uL==6;let AD:=(K:Int);let d14:=(0:Int)<=8/\8<AD;let uM:=d12.tasks (Int.toNat 8);let g14:=cond AB (uM.st==1) false;let AE:=g14=true;let AF:=cond g14 (uM.r1==0) false;let AG:=AF=true;let AH:=cond AF (uM.r2==o2) false;(n:Int)<=9223372036854775807->(a0=true->b0)/\(a0=false->(((n=n/\(∀uN:Nat,uN<n->True/\raw uN=raw uN))/\c0/\(7:Int)=7/\True)/\True/\(∀uO:Nat,uO<n->(-9223372036854775808)<=raw uO/\raw uO<=9223372036854775807)/\(((-9223372036854775808):Int)<=0/\(0:Int)<=9223372036854775807)/\bj 0 2=0/\(1:Int)<=7/\(7:Int)<=100)/\True/\e0/\
 ((word=word/\g0)/\True/\((-9223372036854775808)<=word/\word<=9223372036854775807)/\h0)/\((aH=aH/\g0)/\True/\((-9223372036854775808)<=aH/\aH<=9223372036854775807)/\h0)/\((answer=answer/\g0)/\True/\((-9223372036854775808)<=answer/\answer<=9223372036854775807)/\h0)/\(((b1/\c0/\True)/\True/\Sm k0/\bI k0/\(0:Int)<=0/\0<(w0:Int))/\True/\e0/\c2/\e2/\h2/\l2/\X/\v2/\(b1/\(((((((((((True/\g.ay=y2/\(∀uP:Nat,uP<y2->True/\g.af uP=b.af uP))/\g.ak=z2/\(∀uQ:Nat,uQ<z2->True/\g.kinds uQ=b.kinds uQ))/\g.ao=a3/\(∀uR:Nat,uR<a3->aK (g.aa uR) (b.aa uR)))/\g.aO=b3/\(∀uS:Nat,uS<b3->aJ (g.tasks uS) (b.tasks uS)))/\g.aX=c3/\(∀i:Nat,i<c3->True/\g.ah i=b.ah i/\(∀uT:Nat,uT<b.ah i->True/\g.lines i uT=b.lines i uT)))/\g.aP=d3/\(∀uU:Nat,uU<d3->True/\g.bits uU=b.bits uU))/\g.aC=e3/\(∀uV:Nat,uV<e3->True/\g.ai uV=b.ai uV))/\g.aR=g3/\(∀j:Nat,j<g3->True/\g.al j=b.al j/\(∀d15:Nat,d15<b.al j->True/\g.ready j d15=b.ready j d15)))/\g.aQ=h3/\(∀k:Nat,k<h3->True/\g.aD k=b.aD k/\(∀g15:Nat,g15<b.aD k->aG (g.ax k g15) (b.ax k g15))))/\g.aL=k3/\(∀uW:Nat,uW<k3->True/\g.aA uW=b.aA uW))/\g.time=l3)/\True)/\True)/\(∀k15:Nat,True->((((((((((((((True/\y2=y2/\(∀uX:Nat,uX<y2->True/\b.af uX=b.af uX))/\z2=z2/\(∀uY:Nat,uY<z2->True/\b.kinds uY=b.kinds uY))/\a3=a3/\(∀uZ:Nat,uZ<a3->aK (b.aa uZ) (b.aa uZ)))/\b3=b3/\(∀u_:Nat,u_<b3->aJ (b.tasks u_) (b.tasks u_)))/\c3=c3/\(∀U:Nat,
 let vb:=b.ah U;U<c3->True/\vb=vb/\(∀vd:Nat,vd<vb->True/\b.lines U vd=b.lines U vd)))/\d3=d3/\(∀ve:Nat,ve<d3->True/\b.bits ve=b.bits ve))/\e3=e3/\(∀vf:Nat,vf<e3->True/\b.ai vf=b.ai vf))/\g3=g3/\(∀V:Nat,let vg:=b.al V;V<g3->True/\vg=vg/\(∀vh:Nat,vh<vg->True/\b.ready V vh=b.ready V vh)))/\h3=h3/\(∀W:Nat,let d16:=b.aD W;W<h3->True/\d16=d16/\(∀qd:Nat,qd<d16->aG (b.ax W qd) (b.ax W qd))))/\k3=k3/\(∀g16:Nat,g16<k3->True/\b.aA g16=b.aA g16))/\l3=l3)/\o3)/\True/\Sm b/\bI b/\q3/\1<(e3:Int))/\True/\e0/\c2/\e2/\h2/\l2/\X/\v2/\v2/\(b1/\(((((((((((True/\h.ay=w3/\(∀vj:Nat,vj<w3->True/\h.af vj=v3.af vj))/\h.ak=x3/\(∀vk:Nat,vk<x3->True/\h.kinds vk=v3.kinds vk))/\h.ao=y3/\(∀vl:Nat,vl<y3->aK (h.aa vl) (v3.aa vl)))/\h.aO=z3/\(∀vm:Nat,vm<z3->aJ (h.tasks vm) (v3.tasks vm)))/\h.aX=a4/\(∀l:Nat,l<a4->True/\h.ah l=v3.ah l/\(∀vn:Nat,vn<v3.ah l->True/\h.lines l vn=v3.lines l vn)))/\h.aP=b4/\(∀u16:Nat,u16<b4->True/\h.bits u16=v3.bits u16))/\h.aC=Y/\(∀vo:Nat,vo<Y->True/\h.ai vo=v3.ai vo))/\h.aR=d4/\(∀o:Nat,o<d4->True/\h.al o=v3.al o/\(∀vp:Nat,vp<v3.al o->True/\h.ready o vp=v3.ready o vp)))/\h.aQ=e4/\(∀p:Nat,p<e4->True/\h.aD p=v3.aD p/\(∀vq:Nat,vq<v3.aD p->aG (h.ax p vq) (v3.ax p vq))))/\h.aL=g4/\(∀vr:Nat,vr<g4->True/\h.aA vr=v3.aA vr))/\h.time=h4)/\True)/\True)/\(∀b17:Nat,True->(l4=false->(b1/\o4/\True)/\True/\
 l5/\x3=o0/\Y=w0)/\(q5=false->(0:Int)<=0/\0<r5)/\(u5=false->q3/\1<r5)/\(v5=true->w5)/\(v5=false->True/\e0/\(((o4/\x5)/\True/\Sm v3/\l5)/\e0/\c2/\e2/\h2/\l2/\X/\(y5=y5/\u2)/\q7/\True)/\(∀c17:Nat,True->(r7=false->q7/\True/\u7/\b6=o0/\h6=w0)/\(v7=true->w5)/\(v7=false->True/\e0/\(((r6/\(8:Int)=8/\(10:Int)=10/\l2/\h2/\b0)/\True/\Sm e/\u7/\dX e 8 10 k2 g2=0)/\e0/\c2/\e2/\h2/\l2/\X/\v2/\k9/\True)/\(∀d17:Nat,True->(l9->k9/\True/\o9/\y7=o0/\d8=w0)/\(r9->v9)/\(r9->w9)/\(z9->v9)/\(z9->Am)/\(Ao=false->v9)/\(Ap=false->(0:Int)<=8/\8<u9)/\(d10=true->w5)/\(d10=false->(((l8/\o3)/\True/\Sm d/\o9/\q3/\1<(d8:Int))/\True/\e0/\c2/\e2/\h2/\l2/\X/\v2/\(b1/\(((((((((((True/\c.ay=u/\(∀vt:Nat,vt<u->True/\c.af vt=g10.af vt))/\c.ak=v/\(∀g17:Nat,g17<v->True/\c.kinds g17=g10.kinds g17))/\c.ao=x/\(∀vu:Nat,vu<x->aK (c.aa vu) (g10.aa vu)))/\c.aO=y/\(∀vv:Nat,vv<y->aJ (c.tasks vv) (g10.tasks vv)))/\c.aX=z/\(∀q:Nat,q<z->True/\c.ah q=g10.ah q/\(∀vw:Nat,vw<g10.ah q->True/\c.lines q vw=g10.lines q vw)))/\c.aP=A/\(∀vx:Nat,vx<A->True/\c.bits vx=g10.bits vx))/\c.aC=B/\(∀vy:Nat,vy<B->True/\c.ai vy=g10.ai vy))/\c.aR=v10/\(∀r:Nat,r<v10->True/\c.al r=g10.al r/\(∀vz:Nat,vz<g10.al r->True/\c.ready r vz=g10.ready r vz)))/\c.aQ=C/\(∀t:Nat,t<C->True/\c.aD t=g10.aD t/\(∀vA:Nat,vA<g10.aD t->aG (c.ax t vA) (g10.ax t vA))))/\c.aL=E/\(∀vC:Nat,vC<E->True/\c.aA vC=g10.aA vC))/\c.time=Z)/\True)/\True)/\(∀z17:Nat,
 True->(k4=true->w5)/\(l9->((Aq/\x5)/\Ar)/\(((a12/\u2)/\True)/\d0)/\(((Aq/\Au)/\Ar)/\True/\e0/\c2/\e2/\h2/\l2/\X/\(ur=ur/\u2)/\a12/\Ax/\True)/\(∀a18:Nat,True->(Ay=false->Ax/\True/\Az/\g12=o0/\O=w0)/\(AA=true->w5)/\(AA=false->((Aw/\Au)/\True/\Sm d12/\Az)/\(((uL=uL/\u2)/\True)/\d0)/\(AB=true->d14)/\(AE->d14)/\(AE->w9)/\(AG->d14)/\(AG->Am)/\(AH=true->(0:Int)<=9/\9<AD)/\cond AH ((d12.tasks (Int.toNat 9)).ar==(-1)) false=true/\True))))))))))))
set_option maxHeartbeats 2000000 in
theorem Ts:∀x,rU.pre x->gl Tryz.prog oT 4 (rU.args x) (rU.mem x) (rU.res x) (rU.bH x):=λx hp=>qT (.cons (K3.up ML) (.cons (MM.up yM) (.cons Jq (.cons (MN.up qA) (.cons (MO.up qA) (.cons (MP.up qA) (.cons (yN.up yM) (.cons (MQ.up qA) .nil)))))))) false Tryz.func4 ((λ⟨n,raw,word,aH,answer⟩=> [.zM [14,20],.cut 8 (SW n raw word aH answer),.cut 9 (SX n raw word aH answer),.cut 16 (abx n raw word aH answer),.cut 22 (aby n raw word aH answer),.cut 25 (abz n raw word aH answer),.cut 30 (abA n raw word aH answer)]) x) (V:=EN x) (by kernel_rfl)<|(λ⟨n,raw,word,aH,answer⟩ hp=>by
 dsimp only[rU]at hp;dsimp only[EN,tn,aw];simp only[bq,bx,eq_self,implies_true,bo];obtain⟨B,h1,h2,C⟩:=hp;have t0:Int.toNat 0=0:=rfl;have t1:Int.toNat 1=1:=rfl;have l:Int.toNat 8=8:=rfl;have o:Int.toNat 9=9:=rfl;have p:∀a:bM,aK a a=True:=λa=>eq_true (by repeat' (first|exact trivial|rfl|refine And.intro ?_ ?_));have re:∀a:aF,aJ a a=True:=λa=>eq_true (by repeat' (first|exact trivial|rfl|refine And.intro ?_ ?_));have q:∀a:dG,aG a a=True:=λa=>eq_true (by repeat' (first|exact trivial|rfl|refine And.intro ?_ ?_));have z0:((0:Int) !=0)=false:=rfl;have e:∀x:Int,0<=bj x 65536/\bj x 65536<=65535:=λx=>by have:=hU (c:=x) (n:=65536) (by decide);omega
 obtain⟨E,R,_,_,d⟩:=DE n raw;obtain⟨i,b⟩:=abF n raw (e aH) (e word) (e answer);have g:bI (bs (cb n raw 7) 0)/\(bs (cb n raw 7) 0).aC=2:=by rw[tj];exact⟨(d.mT (c:=0) (by decide)).s,(d.mT (c:=0) (by decide)).c⟩
 have sm:=λ{W:Wd} (h:bI W)=>h.sm;have j:=λ{W:Wd} (h:eQ W)=>(show W.aO=24 by have:=h.s.z.tasks;have:=h.k;omega);have r:∀x:Int,(x !=x)=false:=λx=>by simp
 simp only[t0,t1,l,o,p,re,q,z0,r,b.b0,b.b1,b.r1,b.r2,b.ow,b.st,b.hs,b.h1,b.h2,b.ho,b.wb.k,b.wb.c,b.wc.k,b.wc.c,b.wd.k,b.wd.c,b.wg.k,b.wg.c,b.wh.k,b.wh.c,d.k,d.c,g.2,j b.wd,j b.wh,i.1,i.2,b.gE,b.aE,b.hE,implies_true,and_self,true_and,and_true,jw,iI,yV,forall_const,zd,false_implies];intro _ _;have b1:=d.s;have b2:=d.s.sm;have G:=g.1;have I:=g.1.sm;have J:=b.wb.s;have K:=b.wb.s.sm;have O:=b.wc.s;have S:=b.wc.s.sm;have T:=b.wd.s;have t:=b.wd.s.sm;have u:=b.wg.s;have v:=b.wg.s.sm;have y:=b.wh.s;have A:=b.wh.s.sm
 repeat' (first|assumption|exact trivial|(refine And.intro ?_ ?_)|intro _)
 all_goals first|assumption|rfl|omega|(simp;done)
 :∀x,rU.pre x->EN x) x hp
structure JP where
 (n:Nat) (raw:Nat->Int) (word aH answer:Int)
noncomputable def rV:Sy.Spec:=⟨JP,λ⟨n,raw,word,aH,answer⟩=> [.sl true 1 n (λb _=> .v (.int .i64 (raw b))),.v (.int .i64 word),.v (.int .i64 aH),.v (.int .i64 answer),.v (.bool false)],λ_=> [],λ⟨n,raw,word,aH,answer⟩=>(∀k,k<n->fH (raw k))/\fH word/\fH aH/\fH answer,λ_=> .v (.bool true),λ_=> [],
 λargs mem=>match args with| [a0,a1,c,a3,a4]=>some ⟨bT a0,λi=>av (bO a0 i 0),av (a1),av (c),av (a3)⟩|_=>none⟩
def EO:JP->Prop:=λ⟨n,raw,word,aH,answer⟩=>let a0:=decide (256<(n:Int));let b0:=true=true/\True;let c0:=(0:Int)=0;let d0:=True/\True;let e0:=tn 9 d0;let g0:=(65536:Int)=65536/\True;let h0:=(0:Int)<65536;let k0:=cb n raw 7;let l0:=k0.ay;let o0:=k0.ak;let q0:=k0.ao;let r0:=k0.aO;let u0:=k0.aX;let v0:=k0.aP;let w0:=k0.aC;let x0:=k0.aR;let y0:=k0.aQ;let z0:=k0.aL;let a1:=k0.time;let b1:=((((((((((True/\l0=l0/\(∀c1:Nat,c1<l0->True/\k0.af c1=k0.af c1))/\o0=o0/\(∀d1:Nat,d1<o0->True/\k0.kinds d1=k0.kinds d1))/\q0=q0/\(∀e1:Nat,e1<q0->aK (k0.aa e1) (k0.aa e1)))/\r0=r0/\(∀g1:Nat,g1<r0->aJ (k0.tasks g1) (k0.tasks g1)))/\u0=u0/\(∀h1:Nat,let k1:=k0.ah h1;h1<u0->True/\k1=k1/\(∀l1:Nat,l1<k1->True/\k0.lines h1 l1=k0.lines h1 l1)))/\v0=v0/\(∀o1:Nat,o1<v0->True/\k0.bits o1=k0.bits o1))/\w0=w0/\(∀q1:Nat,q1<w0->True/\k0.ai q1=k0.ai q1))/\x0=x0/\(∀u1:Nat,let v1:=k0.al u1;u1<x0->True/\v1=v1/\(∀w1:Nat,w1<v1->True/\k0.ready u1 w1=k0.ready u1 w1)))/\y0=y0/\(∀x1:Nat,let y1:=k0.aD x1;x1<y0->True/\y1=y1/\(∀z1:Nat,z1<y1->aG (k0.ax x1 z1) (k0.ax x1 z1))))/\z0=z0/\(∀a2:Nat,a2<z0->True/\k0.aA a2=k0.aA a2))/\a1=a1;let b2:=SV.ptr 0 0 none 0 0;let c2:=b2=b2;let d2:=SV.ptr 1 0 none 0 0;let e2:=d2=d2;let g2:=bj word 65536;let h2:=g2=g2;let k2:=bj aH 65536;let l2:=k2=k2;let o2:=bj answer 65536;let X:=o2=o2;let u2:=((-1):Int)=(-1);let v2:=c0/\u2;let g:=bs k0 (Int.toNat 0);let b:=bs k0 0;let y2:=b.ay;let z2:=b.ak;let a3:=b.ao;let b3:=b.aO;let c3:=b.aX;let d3:=b.aP;let e3:=b.aC;
 let g3:=b.aR;let h3:=b.aQ;let k3:=b.aL;let l3:=b.time;let o3:=(1:Int)=1/\True;let q3:=(0:Int)<=1;let r3:=Int.toNat 1;let h:=bs b r3;let v3:=bs b 1;let w3:=v3.ay;let x3:=v3.ak;let y3:=v3.ao;let z3:=v3.aO;let a4:=v3.aX;let b4:=v3.aP;let Y:=v3.aC;let d4:=v3.aR;let e4:=v3.aQ;let g4:=v3.aL;let h4:=v3.time;let k4:=(0:Int) !=0;let l4:=cond k4 true k4;let o4:=((((((((((True/\w3=w3/\(∀q4:Nat,q4<w3->True/\v3.af q4=v3.af q4))/\x3=x3/\(∀r4:Nat,r4<x3->True/\v3.kinds r4=v3.kinds r4))/\y3=y3/\(∀u4:Nat,u4<y3->aK (v3.aa u4) (v3.aa u4)))/\z3=z3/\(∀v4:Nat,v4<z3->aJ (v3.tasks v4) (v3.tasks v4)))/\a4=a4/\(∀w4:Nat,let x4:=v3.ah w4;w4<a4->True/\x4=x4/\(∀y4:Nat,y4<x4->True/\v3.lines w4 y4=v3.lines w4 y4)))/\b4=b4/\(∀z4:Nat,z4<b4->True/\v3.bits z4=v3.bits z4))/\Y=Y/\(∀a5:Nat,a5<Y->True/\v3.ai a5=v3.ai a5))/\d4=d4/\(∀b5:Nat,let c5:=v3.al b5;b5<d4->True/\c5=c5/\(∀d5:Nat,d5<c5->True/\v3.ready b5 d5=v3.ready b5 d5)))/\e4=e4/\(∀e5:Nat,let g5:=v3.aD e5;e5<e4->True/\g5=g5/\(∀h5:Nat,h5<g5->aG (v3.ax e5 h5) (v3.ax e5 h5))))/\g4=g4/\(∀k5:Nat,k5<g4->True/\v3.aA k5=v3.aA k5))/\h4=h4;let l5:=bI v3;let o5:=!true;let q5:=cond l4 true o5;let r5:=(Y:Int);let u5:=cond q5 true (v3.ai (Int.toNat 0) !=8);let v5:=cond u5 true (v3.ai r3 !=9);let w5:=false=true/\True;let e:=eF v3 8 10 k2 g2 true;let y5:=e.ay;let z5:=e.ak;let a6:=e.ao;let b6:=e.aO;let c6:=e.aX;let d6:=e.aP;let e6:=e.aC;let g6:=e.aR;let h6:=e.aQ;
 let k6:=e.aL;let l6:=e.time;let o6:=((((((((((True/\y5=y5/\(∀q6:Nat,q6<y5->True/\e.af q6=e.af q6))/\z5=z5/\(∀r6:Nat,r6<z5->True/\e.kinds r6=e.kinds r6))/\a6=a6/\(∀u6:Nat,u6<a6->aK (e.aa u6) (e.aa u6)))/\b6=b6/\(∀v6:Nat,v6<b6->aJ (e.tasks v6) (e.tasks v6)))/\c6=c6/\(∀w6:Nat,let x6:=e.ah w6;w6<c6->True/\x6=x6/\(∀y6:Nat,y6<x6->True/\e.lines w6 y6=e.lines w6 y6)))/\d6=d6/\(∀z6:Nat,z6<d6->True/\e.bits z6=e.bits z6))/\e6=e6/\(∀a7:Nat,a7<e6->True/\e.ai a7=e.ai a7))/\g6=g6/\(∀b7:Nat,let c7:=e.al b7;b7<g6->True/\c7=c7/\(∀d7:Nat,d7<c7->True/\e.ready b7 d7=e.ready b7 d7)))/\h6=h6/\(∀e7:Nat,let g7:=e.aD e7;e7<h6->True/\g7=g7/\(∀h7:Nat,h7<g7->aG (e.ax e7 h7) (e.ax e7 h7))))/\k6=k6/\(∀k7:Nat,k7<k6->True/\e.aA k7=e.aA k7))/\l6=l6;let l7:=b1/\o6/\True;let o7:=k4=false;let q7:=bI e;let r7:=cond k4 true o5;let u7:=(9:Int)=9/\(10:Int)=10/\True;let v7:=fe e 9 10;let d:=eL e 9 10;let x7:=d.ay;let y7:=d.ak;let z7:=d.ao;let a8:=d.aO;let b8:=d.aX;let c8:=d.aP;let d8:=d.aC;let e8:=d.aR;let g8:=d.aQ;let h8:=d.aL;let k8:=d.time;
 let l8:=((((((((((True/\x7=x7/\(∀o8:Nat,o8<x7->True/\d.af o8=d.af o8))/\y7=y7/\(∀q8:Nat,q8<y7->True/\d.kinds q8=d.kinds q8))/\z7=z7/\(∀r8:Nat,r8<z7->aK (d.aa r8) (d.aa r8)))/\a8=a8/\(∀u8:Nat,u8<a8->aJ (d.tasks u8) (d.tasks u8)))/\b8=b8/\(∀v8:Nat,let w8:=d.ah v8;v8<b8->True/\w8=w8/\(∀x8:Nat,x8<w8->True/\d.lines v8 x8=d.lines v8 x8)))/\c8=c8/\(∀y8:Nat,y8<c8->True/\d.bits y8=d.bits y8))/\d8=d8/\(∀z8:Nat,z8<d8->True/\d.ai z8=d.ai z8))/\e8=e8/\(∀a9:Nat,let b9:=d.al a9;a9<e8->True/\b9=b9/\(∀c9:Nat,c9<b9->True/\d.ready a9 c9=d.ready a9 c9)))/\g8=g8/\(∀d9:Nat,let e9:=d.aD d9;d9<g8->True/\e9=e9/\(∀g9:Nat,g9<e9->aG (d.ax d9 g9) (d.ax d9 g9))))/\h8=h8/\(∀h9:Nat,h9<h8->True/\d.aA h9=d.aA h9))/\k8=k8;let k9:=b1/\l8/\True;let l9:=v7 !=0;let o9:=bI d;let q9:=cond l9 true o5;let r9:=q9=false;let u9:=(a8:Int);let v9:=(0:Int)<=9/\9<u9;let w9:=q3/\1<((8:Nat):Int);let x9:=d.tasks (Int.toNat 9);let y9:=cond q9 true (x9.r1 !=k2);let z9:=y9=false;let Am:=(0:Int)<=2/\2<((8:Nat):Int);let Ao:=cond y9 true (x9.r2 !=g2);let Ap:=cond Ao true (x9.ar !=8);let d10:=cond Ap true ((d.tasks (Int.toNat 8)).st !=5);let c:=bs d r3;let g10:=bs d 1;let u:=g10.ay;let v:=g10.ak;let x:=g10.ao;let y:=g10.aO;let z:=g10.aX;let A:=g10.aP;let B:=g10.aC;let v10:=g10.aR;let C:=g10.aQ;let E:=g10.aL;let Z:=g10.time;
 let Aq:=((((((((((True/\u=u/\(∀uc:Nat,uc<u->True/\g10.af uc=g10.af uc))/\v=v/\(∀ud:Nat,ud<v->True/\g10.kinds ud=g10.kinds ud))/\x=x/\(∀ue:Nat,ue<x->aK (g10.aa ue) (g10.aa ue)))/\y=y/\(∀d11:Nat,d11<y->aJ (g10.tasks d11) (g10.tasks d11)))/\z=z/\(∀G:Nat,let g11:=g10.ah G;G<z->True/\g11=g11/\(∀uf:Nat,uf<g11->True/\g10.lines G uf=g10.lines G uf)))/\A=A/\(∀ug:Nat,ug<A->True/\g10.bits ug=g10.bits ug))/\B=B/\(∀uh:Nat,uh<B->True/\g10.ai uh=g10.ai uh))/\v10=v10/\(∀I:Nat,let ui:=g10.al I;I<v10->True/\ui=ui/\(∀uj:Nat,uj<ui->True/\g10.ready I uj=g10.ready I uj)))/\C=C/\(∀J:Nat,let v11:=g10.aD J;J<C->True/\v11=v11/\(∀uk:Nat,uk<v11->aG (g10.ax J uk) (g10.ax J uk))))/\E=E/\(∀uo:Nat,uo<E->True/\g10.aA uo=g10.aA uo))/\Z=Z;let Ar:=True/\Sm g10/\bI g10;let uq:=fe g10 9 10;let a12:=uq=uq;let Au:=(9:Int)=9/\X/\True;let ur:=fI g10 9 o2;let d12:=n_ g10 9 o2;let uu:=d12.ay;let g12:=d12.ak;let uv:=d12.ao;let K:=d12.aO;let uw:=d12.aX;let ux:=d12.aP;let O:=d12.aC;let uy:=d12.aR;let uz:=d12.aQ;let v12:=d12.aL;let Av:=d12.time;
 let Aw:=((((((((((True/\uu=uu/\(∀uA:Nat,uA<uu->True/\d12.af uA=d12.af uA))/\g12=g12/\(∀z12:Nat,z12<g12->True/\d12.kinds z12=d12.kinds z12))/\uv=uv/\(∀uC:Nat,uC<uv->aK (d12.aa uC) (d12.aa uC)))/\K=K/\(∀uD:Nat,uD<K->aJ (d12.tasks uD) (d12.tasks uD)))/\uw=uw/\(∀R:Nat,let d13:=d12.ah R;R<uw->True/\d13=d13/\(∀uE:Nat,uE<d13->True/\d12.lines R uE=d12.lines R uE)))/\ux=ux/\(∀g13:Nat,g13<ux->True/\d12.bits g13=d12.bits g13))/\O=O/\(∀uF:Nat,uF<O->True/\d12.ai uF=d12.ai uF))/\uy=uy/\(∀S:Nat,let uG:=d12.al S;S<uy->True/\uG=uG/\(∀uH:Nat,uH<uG->True/\d12.ready S uH=d12.ready S uH)))/\uz=uz/\(∀T:Nat,let uI:=d12.aD T;T<uz->True/\uI=uI/\(∀uJ:Nat,uJ<uI->aG (d12.ax T uJ) (d12.ax T uJ))))/\v12=v12/\(∀uK:Nat,uK<v12->True/\d12.aA uK=d12.aA uK))/\Av=Av;let Ax:=b1/\Aw/\True;let Ay:=cond (ur !=0) true (uq !=7);let Az:=bI d12;let AA:=cond Ay true o5;let uL:=fI d12 9 o2;let AB:=uL==6;let AD:=(K:Int);let d14:=(0:Int)<=8/\8<AD;let uM:=d12.tasks (Int.toNat 8);let g14:=cond AB (uM.st==1) false;let AE:=g14=true;let AF:=cond g14 (uM.r1==0) false;let AG:=AF=true;let AH:=cond AF (uM.r2==o2) false;(n:Int)<=9223372036854775807->(a0=true->b0)/\(a0=false->(((n=n/\(∀uN:Nat,uN<n->True/\raw uN=raw uN))/\c0/\(7:Int)=7/\True)/\True/\(∀uO:Nat,uO<n->(-9223372036854775808)<=raw uO/\raw uO<=9223372036854775807)/\(((-9223372036854775808):Int)<=0/\(0:Int)<=9223372036854775807)/\bj 0 2=0/\(1:Int)<=7/\(7:Int)<=100)/\True/\e0/\
 ((word=word/\g0)/\True/\((-9223372036854775808)<=word/\word<=9223372036854775807)/\h0)/\((aH=aH/\g0)/\True/\((-9223372036854775808)<=aH/\aH<=9223372036854775807)/\h0)/\((answer=answer/\g0)/\True/\((-9223372036854775808)<=answer/\answer<=9223372036854775807)/\h0)/\(((b1/\c0/\True)/\True/\Sm k0/\bI k0/\(0:Int)<=0/\0<(w0:Int))/\True/\e0/\c2/\e2/\h2/\l2/\X/\v2/\(b1/\(((((((((((True/\g.ay=y2/\(∀uP:Nat,uP<y2->True/\g.af uP=b.af uP))/\g.ak=z2/\(∀uQ:Nat,uQ<z2->True/\g.kinds uQ=b.kinds uQ))/\g.ao=a3/\(∀uR:Nat,uR<a3->aK (g.aa uR) (b.aa uR)))/\g.aO=b3/\(∀uS:Nat,uS<b3->aJ (g.tasks uS) (b.tasks uS)))/\g.aX=c3/\(∀i:Nat,i<c3->True/\g.ah i=b.ah i/\(∀uT:Nat,uT<b.ah i->True/\g.lines i uT=b.lines i uT)))/\g.aP=d3/\(∀uU:Nat,uU<d3->True/\g.bits uU=b.bits uU))/\g.aC=e3/\(∀uV:Nat,uV<e3->True/\g.ai uV=b.ai uV))/\g.aR=g3/\(∀j:Nat,j<g3->True/\g.al j=b.al j/\(∀d15:Nat,d15<b.al j->True/\g.ready j d15=b.ready j d15)))/\g.aQ=h3/\(∀k:Nat,k<h3->True/\g.aD k=b.aD k/\(∀g15:Nat,g15<b.aD k->aG (g.ax k g15) (b.ax k g15))))/\g.aL=k3/\(∀uW:Nat,uW<k3->True/\g.aA uW=b.aA uW))/\g.time=l3)/\True)/\True)/\(∀k15:Nat,True->((((((((((((((True/\y2=y2/\(∀uX:Nat,uX<y2->True/\b.af uX=b.af uX))/\z2=z2/\(∀uY:Nat,uY<z2->True/\b.kinds uY=b.kinds uY))/\a3=a3/\(∀uZ:Nat,uZ<a3->aK (b.aa uZ) (b.aa uZ)))/\b3=b3/\(∀u_:Nat,u_<b3->aJ (b.tasks u_) (b.tasks u_)))/\c3=c3/\(∀U:Nat,
 let vb:=b.ah U;U<c3->True/\vb=vb/\(∀vd:Nat,vd<vb->True/\b.lines U vd=b.lines U vd)))/\d3=d3/\(∀ve:Nat,ve<d3->True/\b.bits ve=b.bits ve))/\e3=e3/\(∀vf:Nat,vf<e3->True/\b.ai vf=b.ai vf))/\g3=g3/\(∀V:Nat,let vg:=b.al V;V<g3->True/\vg=vg/\(∀vh:Nat,vh<vg->True/\b.ready V vh=b.ready V vh)))/\h3=h3/\(∀W:Nat,let d16:=b.aD W;W<h3->True/\d16=d16/\(∀qd:Nat,qd<d16->aG (b.ax W qd) (b.ax W qd))))/\k3=k3/\(∀g16:Nat,g16<k3->True/\b.aA g16=b.aA g16))/\l3=l3)/\o3)/\True/\Sm b/\bI b/\q3/\1<(e3:Int))/\True/\e0/\c2/\e2/\h2/\l2/\X/\v2/\v2/\(b1/\(((((((((((True/\h.ay=w3/\(∀vj:Nat,vj<w3->True/\h.af vj=v3.af vj))/\h.ak=x3/\(∀vk:Nat,vk<x3->True/\h.kinds vk=v3.kinds vk))/\h.ao=y3/\(∀vl:Nat,vl<y3->aK (h.aa vl) (v3.aa vl)))/\h.aO=z3/\(∀vm:Nat,vm<z3->aJ (h.tasks vm) (v3.tasks vm)))/\h.aX=a4/\(∀l:Nat,l<a4->True/\h.ah l=v3.ah l/\(∀vn:Nat,vn<v3.ah l->True/\h.lines l vn=v3.lines l vn)))/\h.aP=b4/\(∀u16:Nat,u16<b4->True/\h.bits u16=v3.bits u16))/\h.aC=Y/\(∀vo:Nat,vo<Y->True/\h.ai vo=v3.ai vo))/\h.aR=d4/\(∀o:Nat,o<d4->True/\h.al o=v3.al o/\(∀vp:Nat,vp<v3.al o->True/\h.ready o vp=v3.ready o vp)))/\h.aQ=e4/\(∀p:Nat,p<e4->True/\h.aD p=v3.aD p/\(∀vq:Nat,vq<v3.aD p->aG (h.ax p vq) (v3.ax p vq))))/\h.aL=g4/\(∀vr:Nat,vr<g4->True/\h.aA vr=v3.aA vr))/\h.time=h4)/\True)/\True)/\(∀b17:Nat,True->(l4=false->(b1/\o4/\True)/\True/\
 l5/\x3=o0/\Y=w0)/\(q5=false->(0:Int)<=0/\0<r5)/\(u5=false->q3/\1<r5)/\(v5=true->w5)/\(v5=false->True/\e0/\(((o4/\(8:Int)=8/\(10:Int)=10/\l2/\h2/\b0)/\True/\Sm v3/\l5/\dX v3 8 10 k2 g2=0)/\e0/\c2/\e2/\h2/\l2/\X/\v2/\l7/\True)/\(∀c17:Nat,True->(o7->l7/\True/\q7/\z5=o0/\e6=w0)/\(r7=true->w5)/\(r7=false->True/\e0/\(((o6/\u7)/\True/\Sm e/\q7)/\e0/\c2/\e2/\h2/\l2/\X/\(v7=v7/\u2)/\k9/\True)/\(∀d17:Nat,True->(l9=false->k9/\True/\o9/\y7=o0/\d8=w0)/\(r9->v9)/\(r9->w9)/\(z9->v9)/\(z9->Am)/\(Ao=false->v9)/\(Ap=false->(0:Int)<=8/\8<u9)/\(d10=true->w5)/\(d10=false->(((l8/\o3)/\True/\Sm d/\o9/\q3/\1<(d8:Int))/\True/\e0/\c2/\e2/\h2/\l2/\X/\v2/\(b1/\(((((((((((True/\c.ay=u/\(∀vt:Nat,vt<u->True/\c.af vt=g10.af vt))/\c.ak=v/\(∀g17:Nat,g17<v->True/\c.kinds g17=g10.kinds g17))/\c.ao=x/\(∀vu:Nat,vu<x->aK (c.aa vu) (g10.aa vu)))/\c.aO=y/\(∀vv:Nat,vv<y->aJ (c.tasks vv) (g10.tasks vv)))/\c.aX=z/\(∀q:Nat,q<z->True/\c.ah q=g10.ah q/\(∀vw:Nat,vw<g10.ah q->True/\c.lines q vw=g10.lines q vw)))/\c.aP=A/\(∀vx:Nat,vx<A->True/\c.bits vx=g10.bits vx))/\c.aC=B/\(∀vy:Nat,vy<B->True/\c.ai vy=g10.ai vy))/\c.aR=v10/\(∀r:Nat,r<v10->True/\c.al r=g10.al r/\(∀vz:Nat,vz<g10.al r->True/\c.ready r vz=g10.ready r vz)))/\c.aQ=C/\(∀t:Nat,t<C->True/\c.aD t=g10.aD t/\(∀vA:Nat,vA<g10.aD t->aG (c.ax t vA) (g10.ax t vA))))/\c.aL=E/\(∀vC:Nat,vC<E->True/\c.aA vC=g10.aA vC))/\c.time=Z)/\True)/\True)/\(∀z17:Nat,
 True->(k4=true->w5)/\(o7->((Aq/\u7)/\Ar)/\(((a12/\u2)/\True)/\d0)/\(((Aq/\Au)/\Ar)/\True/\e0/\c2/\e2/\h2/\l2/\X/\(ur=ur/\u2)/\a12/\Ax/\True)/\(∀a18:Nat,True->(Ay=false->Ax/\True/\Az/\g12=o0/\O=w0)/\(AA=true->w5)/\(AA=false->((Aw/\Au)/\True/\Sm d12/\Az)/\(((uL=uL/\u2)/\True)/\d0)/\(AB=true->d14)/\(AE->d14)/\(AE->w9)/\(AG->d14)/\(AG->Am)/\(AH=true->(0:Int)<=9/\9<AD)/\cond AH ((d12.tasks (Int.toNat 9)).ar==(-1)) false=true/\True))))))))))))
set_option maxHeartbeats 2000000 in
theorem Tt:∀x,rV.pre x->gl Tryz.prog oT 4 (rV.args x) (rV.mem x) (rV.res x) (rV.bH x):=λx hp=>qT (.cons (K3.up ML) (.cons (MM.up yM) (.cons Jq (.cons (MN.up qA) (.cons (MO.up qA) (.cons (MP.up qA) (.cons (yN.up yM) (.cons (MQ.up qA) .nil)))))))) false Tryz.func4 ((λ⟨n,raw,word,aH,answer⟩=> [.zM [14,20],.cut 8 (SW n raw word aH answer),.cut 9 (SX n raw word aH answer),.cut 16 (abB n raw word aH answer),.cut 22 (abC n raw word aH answer),.cut 25 (abD n raw word aH answer),.cut 30 (abE n raw word aH answer)]) x) (V:=EO x) (by kernel_rfl)<|(λ⟨n,raw,word,aH,answer⟩ hp=>by
 dsimp only[rV]at hp;dsimp only[EO,tn,aw];simp only[bq,bx,eq_self,implies_true,bo];obtain⟨B,h1,h2,C⟩:=hp;have t0:Int.toNat 0=0:=rfl;have t1:Int.toNat 1=1:=rfl;have l:Int.toNat 8=8:=rfl;have o:Int.toNat 9=9:=rfl;have p:∀a:bM,aK a a=True:=λa=>eq_true (by repeat' (first|exact trivial|rfl|refine And.intro ?_ ?_));have re:∀a:aF,aJ a a=True:=λa=>eq_true (by repeat' (first|exact trivial|rfl|refine And.intro ?_ ?_));have q:∀a:dG,aG a a=True:=λa=>eq_true (by repeat' (first|exact trivial|rfl|refine And.intro ?_ ?_));have z0:((0:Int) !=0)=false:=rfl;have e:∀x:Int,0<=bj x 65536/\bj x 65536<=65535:=λx=>by have:=hU (c:=x) (n:=65536) (by decide);omega
 obtain⟨E,R,_,_,d⟩:=DE n raw;obtain⟨i,b⟩:=abG n raw (e aH) (e word) (e answer);have g:bI (bs (cb n raw 7) 0)/\(bs (cb n raw 7) 0).aC=2:=by rw[tj];exact⟨(d.mT (c:=0) (by decide)).s,(d.mT (c:=0) (by decide)).c⟩
 have sm:=λ{W:Wd} (h:bI W)=>h.sm;have j:=λ{W:Wd} (h:eQ W)=>(show W.aO=24 by have:=h.s.z.tasks;have:=h.k;omega);have r:∀x:Int,(x !=x)=false:=λx=>by simp
 simp only[t0,t1,l,o,p,re,q,z0,r,b.b0,b.b1,b.r1,b.r2,b.ow,b.st,b.hs,b.h1,b.h2,b.ho,b.wb.k,b.wb.c,b.wc.k,b.wc.c,b.wd.k,b.wd.c,b.wg.k,b.wg.c,b.wh.k,b.wh.c,d.k,d.c,g.2,j b.wd,j b.wh,i.1,i.2,b.gE,b.aE,b.hE,implies_true,and_self,true_and,and_true,jw,iI,yV,forall_const,zd,false_implies];intro _ _;have b1:=d.s;have b2:=d.s.sm;have G:=g.1;have I:=g.1.sm;have J:=b.wb.s;have K:=b.wb.s.sm;have O:=b.wc.s;have S:=b.wc.s.sm;have T:=b.wd.s;have t:=b.wd.s.sm;have u:=b.wg.s;have v:=b.wg.s.sm;have y:=b.wh.s;have A:=b.wh.s.sm
 repeat' (first|assumption|exact trivial|(refine And.intro ?_ ?_)|intro _)
 all_goals first|assumption|rfl|omega|(simp;done)
 :∀x,rV.pre x->EO x) x hp
structure UB where
 (n:Nat) (raw:Nat->Int) (word aH answer:Int) (first:Bool)
def UC:Sy.Spec:=⟨UB,λ⟨n,raw,word,aH,answer,first⟩=> [.sl true 1 n (λb _=> .v (.int .i64 (raw b))),.v (.int .i64 word),.v (.int .i64 aH),.v (.int .i64 answer),.v (.bool first)],λ_=> [],λ⟨n,raw,word,aH,answer,_⟩=>(∀k,k<n->fH (raw k))/\fH word/\fH aH/\fH answer,λ_=> .v (.bool true),λ_=> [],
 λargs mem=>match args with| [a0,a1,c,a3,a4]=>some ⟨bT a0,λi=>av (bO a0 i 0),av (a1),av (c),av (a3),oH (a4)⟩|_=>none⟩
def E3:aZ:=⟨[],(UC).g,none⟩
theorem TO:aY Tryz.prog oT 4 E3:=py Tryz.call4 λ⟨n,raw,word,aH,answer,first⟩ _=>by
 have hp:(∀k,k<n->fH (raw k))/\fH word/\fH aH/\fH answer:=by assumption
 cases first with
 |true=>exact Ts ⟨n,raw,word,aH,answer⟩ hp
 |false=>exact Tt ⟨n,raw,word,aH,answer⟩ hp
open Go.ChangeShapes Go.WideShapes Go.RowKit Go.Sy
theorem K.own:ownKnob Tryz.prog.godebug=none:=by kernel_rfl
theorem K.et : Tryz.prog.globalNamed "errors.errorType" = some 0 := by kernel_rfl
theorem K.rt : (Tryz.prog.cutTypes.find? (·.1 == "internal/reflectlite.rtype")).map (·.2) = some 136 := by kernel_rfl
theorem K.aa':((List.range Tryz.prog.types.size).filter λt=>Tryz.prog.rowNamed t [101,114,114,111,114])= [31]:=by kernel_rfl
theorem K.handle {laid : List (String × DataW Unit)} {W : World} (h : laidMetH Tryz.prog laid W) (hm : ("errors.errorType", Rows.laid_errors_errorType) ∈ laid) : W.cell? ⟨0, 0, none⟩ = some A.kq := by
 have b : ("errors.errorType", Rows.laid_errors_errorType) ∈ laid.filter fun x => x.2.handleName?.isSome := List.mem_filter.2 ⟨hm, by rfl⟩;unfold laidMetH at h;split at h
 ·next e=>rw[e]at b;cases b
 next x r e=>
 rw[e]at b;obtain⟨name,u,ty,d,g,e3,e4,c⟩:=h.2 _ b;have en:name= [101,114,114,111,114]:=(aV d).symm;subst en;obtain rfl:=aV (K.rt.symm.trans g);have hm:ty∈(List.range Tryz.prog.types.size).filter λt=>Tryz.prog.rowNamed t [101,114,114,111,114]:=nF.2 ⟨cV.2 e3,e4⟩;rw[K.aa']at hm;obtain rfl:=Cz.1 hm;have i:typeHandle Tryz.prog 31= .pointer (some ⟨3,31,none⟩):=by kernel_rfl
 rw[i]at c;unfold A.kq;simpa using World.var?_cell K.et c 0
noncomputable def K.world (os:Os):World:=
 let w0:=World.holding Tryz.prog os ⟨#[],#[],[]⟩
 {w0 with heap:=w0.heap.modify 0 λ
  | .cells _ t frozen=> .cells #[A.kq] t frozen
  |o=>o}
theorem K.laidOut:laidOutB Tryz.prog=true:=by kernel_rfl
theorem K.trodAll {H:Type} {enc:TypeId×Value->H} {P:Program} (hl:laidOutB P=true) {W W':World} (l:Below W.heap.size W W'):∀{g:List TypeId} {vs:List Value} {ds:List (DataW H)} {i:List MemPlace},
 (g.all λt=>P.readableRec t&&decide (t<P.types.size))=true->DataW.TrodAll enc P W 0 (λ_=>true) true g vs ds i->(∀x∈i,x.block<W.heap.size)->DataW.TrodAll enc P W' 0 (λb=>decide (b<W.heap.size)) true g vs ds i
 | [],[],[],_,_,h,_=>h
 |t::g,v::vs,d::ds,i,j,⟨p,q,h1,h2,e⟩,c=>by subst e;simp only[wK,aW,decide_eq_true_eq]at j;exact⟨p,q,Below.trod hl j.1.1 j.1.2 h1 l (λx k=>c x (y_ _ k)),K.trodAll hl l j.2 h2 (λx k=>c x (List.mem_append_right _ k)),rfl⟩
theorem K.underlying4:Tryz.prog.underlying 4=some .bool:=by kernel_rfl
theorem K.len {H:Type} {enc:TypeId×Value->H} {P:Program} {w:World} {base:Nat} {spare:Nat->Bool} {held:Bool}:∀{b:List TypeId} {vs:List Value} {ds:List (DataW H)} {c:List MemPlace},DataW.TrodAll enc P w base spare held b vs ds c->ds.length=b.length
 | [],[],[],_,_=>rfl
 |_::_,_::_,_::_,_,⟨_,_,_,h,_⟩=>by simp[K.len h]
theorem K.Xo {b:Array TypeId} (h:(b.toList.all λt=>!Tryz.prog.wantsStandIn t)=true) {j:Nat} {t:TypeId} (c:b[j]? =some t):Tryz.prog.wantsStandIn t=false:=by have:=cY.1 h t (by rw[Array.mem_toList_iff];exact Array.mem_of_getElem? c);simpa using this
set_option maxRecDepth 100000 in
theorem K.lift {f:FuncId} {fn:Func} {s:ChangeSpec} {X:World->Prop} (I:∀(w w':World),w.heap=w'.heap->X w->X w') (os:Os) (started:os.Started) (H:Type) (enc:TypeId×Value->H)
 (c:Tryz.checked.prog.inits.idxOf? f=none) (o:Tryz.checked.prog.funcs[f]? =some fn)
 (hs:∀ds:List (DataW H),ds.length=fn.params.toList.length->s.fn H (ds++ [])={results:= [.lit (.bool true)],args:=ds}) (A:s.vars= []) (J:fn.resultTypes= #[4])
 (d:(fn.params.toList.all λt=>Tryz.prog.readableRec t&&decide (t<Tryz.prog.types.size))=true)
 (witness:∃(w:World) (tape:Tape) (i:Input),w.os=os/\(w.forCall tape i).Shaped Tryz.prog/\i.vars= []/\Input.okWide Tryz.prog (w.forCall tape i) .any w.heap.size f i/\
   ((s.pre enc Tryz.prog fn [] false (w.forCall tape i).memory i.args/\X (w.forCall tape i).memory)/\sizedMet enc Tryz.prog fn (OpenSpec.ofChange s) false (w.forCall tape i).memory i.args)/\({}:Assume).holds Tryz.prog (lone (Frame.enter Tryz.prog f i.args .normal) [] (w.forCall tape i)))
 (b:∀(W:World) (base:Nat) (args:Array Value) (ds:List (DataW H)) (p:List MemPlace),
   (∀(j:Nat) t v,fn.params[j]? =some t->args[j]? =some v->Value.okWide Tryz.prog W .any base t v)->
   DataW.TrodAll enc Tryz.prog W 0 (λ_=>true) true fn.params.toList args.toList ds p->X W->(∀x∈p,x.block<W.heap.size)->
   Calls Tryz.prog f args W λe W'=>e= .returned (.bool true)/\Below W.heap.size W W'):
 ReturnsInHanded {} Tryz.checked os f .any (λw args=>(s.pre enc Tryz.prog fn [] false w args/\X w)/\sizedMet enc Tryz.prog fn (OpenSpec.ofChange s) false w args) (s.post enc Tryz.prog fn false true false false):=by
 refine returnsInHanded_of_change_and (C:=Tryz.checked) (X:=λw _=>X w) (λw w' _ O h=>I w w' O h) K.own started c o witness ?_;intro W base args ds B before k E _ _ R _;have l:=E;obtain⟨p,q,u,y,rfl,S,_⟩:=E;have n:∀x∈p,x.block<W.heap.size:=λx T=>by simpa using l.lt x (y_ _ T)
 obtain⟨rfl,rfl⟩:B= []/\q= []:=by
  rw[A]at y;cases B with
  |nil=>exact⟨rfl,y⟩
  |cons g r=>exact absurd y (by intro h;cases h)
 refine(b W base args ds p k u R n).mono λe W' ⟨U,G⟩=>?_;have z:=hs ds (K.len u);refine⟨_,U,_,_,_,[],p,[],l,?_,?_,?_,G.frame _,λh=>by cases h⟩
 ·rw[z,J];exact trodAll_mk1 (shut_bool K.underlying4 true)
 ·rw[z];exact K.trodAll K.laidOut G d u n
 ·rw[z,A];rfl
theorem K.eT {laid : List (String × DataW Unit)} {W : World} (h : laidMetH Tryz.prog laid W) (hm : ("errors.errorType", Rows.laid_errors_errorType) ∈ laid) : Den W o0.bare (.pt false 1 fun _ => .v A.kq) (.pointer (some ⟨0, 0, none⟩)) :=
 ⟨_,rfl,λj b=>⟨_,by obtain rfl:j=0:=by omega
                    exact K.handle h hm,⟨id,λ_=>id⟩,rfl⟩⟩
theorem K.gE {laid : List (String × DataW Unit)} {W : World} (h : laidMetH Tryz.prog laid W) (hm : ("errors.errorType", Rows.laid_errors_errorType) ∈ laid) (g : Nat) : Den W o0.bare (gP g) (.pointer (some ⟨g, 0, none⟩)) := by
 unfold gP;split
 ·exact K.eT h hm
 ·trivial
theorem acM {s:ByteArray} {t:ByteArray} (h:s.data.toList=t.data.toList):s=t:=by cases s;cases t;simp only at h;congr 1;exact GY.1 h
theorem K.Ok:∀{l:List (String×DataW Unit)} {c:List MemPlace} {W:World},DataW.LaidVars Tryz.prog W l c->∀{n:String} {d:DataW Unit},(n,d)∈l->
 ∃g t b fuel p,Tryz.prog.globalNamed n=some g/\(Tryz.prog.globals[g]?).map (·.type)=some t/\W.var? Tryz.prog n=some b/\DataW.trod (λ_=>()) Tryz.prog W 0 (λ_=>true) false fuel t b.toList=some (d,p)
 |(n,d)::r,c,W,⟨g,t,b,fuel,p,q,h,i,j,hd,k,_⟩,o,u,hm=>by
  rcases eG.1 hm with e|e
  ·cases e;exact⟨g,t,b,fuel,p,h,i,j,hd⟩
  ·exact K.Ok k e
theorem K.WW {laid:List (String×DataW Unit)} {W:World} (h:laidMetH Tryz.prog laid W):∃b,DataW.LaidVars Tryz.prog W (laid.filter λx=>x.2.handleName?.isNone) b:=by
 unfold laidMetH at h;split at h
 ·next e=>
  have:(laid.filter λx=>x.2.handleName?.isNone)=laid:=by
   rw[List.filter_eq_self];intro x c;have h2:x∉laid.filter λx=>x.2.handleName?.isSome:=by rw[e];simp
   rw[nF]at h2;cases d:x.2.handleName? with
   |none=>rfl
   |some y=>exact absurd ⟨c,by rw[d];rfl⟩ h2
  rw[this];obtain⟨b,h1,_⟩:=h;exact⟨b,h1⟩
 ·obtain⟨⟨b,h1,_⟩,_⟩:=h;exact⟨b,h1⟩
theorem K.S_ : Tryz.prog.globalNamed "keyhold/keyholdref.kindNames" = some 1 := by kernel_rfl
theorem K.knT:(Tryz.prog.globals[1]?).map (·.type)=some 73:=by kernel_rfl
theorem K.knU:Tryz.prog.underlying 73=some (.slice 9):=by kernel_rfl
theorem K.adH:Tryz.prog.underlying 9=some .string:=by kernel_rfl
theorem K.c9:Tryz.prog.cellsOf 9=1:=by kernel_rfl
theorem K.knD:(Rows.laid_keyhold_keyholdref_kindNames:DataW Unit)= .slice ((List.range 7).map λi=> .lit (.string (jQ i).data.toList)) []:=by kernel_rfl
theorem K.kinds {laid : List (String × DataW Unit)} {W : World} (h : laidMetH Tryz.prog laid W) (hm : ("keyhold/keyholdref.kindNames", Rows.laid_keyhold_keyholdref_kindNames) ∈ laid) : Den W o0.bare (.pt false 1 (fun _ => .sl false 1 7 fun i _ => .v (.string (jQ i)))) (.pointer (some ⟨1, 0, none⟩)) := by
 obtain⟨C,d⟩:=K.WW h;obtain⟨g,t,q,fuel,p,r,u,b,hd⟩:=K.Ok d (nF.2 ⟨hm,by kernel_rfl⟩);obtain rfl:=aV (K.S_.symm.trans r);obtain rfl:=aV (K.knT.symm.trans u);rw[K.knD]at hd;rcases DataW.trod_slice K.knU hd with⟨_,e⟩|⟨a,len,cap,elems,rest,n,_,ec,e,_,h1,h2,x,l,_,_⟩
 ·cases (oz e).1
 obtain⟨o,_⟩:=DataW.slice.inj (oz e).1;have y:elems.length=7:=by have:=congrArg List.length o;simp only[nH,wU]at this;exact this.symm
 have cell:W.cell? ⟨1,0,none⟩=some (.slice (some a) len cap):=by
  rw[World.var?_cell K.S_ b];have:q.toList[0]? =some (.slice (some a) len cap):=by rw[ec];rfl
  simpa using this
 refine⟨_,rfl,λj E=>?_⟩;obtain rfl:j=0:=by omega
 refine⟨_,cell,⟨id,λ_=>id⟩,some a,cap,by rw[<-x,y],by omega,by omega,.inr ⟨a,rfl,λi z k G=>?_⟩⟩;obtain rfl:k=0:=by omega
 have hE:=l i (by omega);rw[eO (by omega)]at hE;rw[K.c9,Nat.mul_one]at hE;obtain⟨I,A,B⟩:=MK.1 hE;have e4:(elems.map (·.1))[i]? =some (elems[i]).1:=by rw[eX,eO (by omega)];rfl
 rw[<-o,eX,nD z]at e4;obtain⟨s0,a0,b0,_⟩:=DataW.trod_string K.adH B;have c:=aV e4;rw[b0]at c;have c:(DataW.lit (.string (jQ i).data.toList):DataW Unit)=DataW.lit (.string s0.data.toList):=c;simp only[DataW.lit.injEq,Lit.string.injEq]at c;refine⟨.string s0,?_,⟨id,λ_=>id⟩,?_⟩
 ·have:=(World.cells?_some A).2.2 0 (by omega);rw[a0]at this;simp only[Nat.mul_one,sP,yU]at this⊢;exact this
 ·show Value.string s0=Value.string (jQ i);rw[acM c]
theorem K.gK {laid : List (String × DataW Unit)} {W : World} (h : laidMetH Tryz.prog laid W) (hm : ("keyhold/keyholdref.kindNames", Rows.laid_keyhold_keyholdref_kindNames) ∈ laid) (g : Nat) : Den W o0.bare (mS g) (.pointer (some ⟨g, 0, none⟩)) := by
 cases e:Nat.beq g 1 with
 |false=>unfold mS;rw[e];trivial
 |true=>obtain rfl:=a_ e;exact K.kinds h hm
def K.knV:Array Value:=((List.range 7).map λi=>Value.string (jQ i)).toArray
def nms (i:Nat):ByteArray:=⟨(([[104,97,108,116],[115,101,116],[109,111,118],[97,100,100],[115,117,98],[109,117,108],[97,110,100],[111,114],[120,111,114],[108,101,115,115],[108,111,97,100],[115,116,111,114,101],[106,117,109,112],[122,101,114,111],[115,121,115]]:List (List UInt8)).getD i []).toArray⟩
def K.nmV:Array Value:=((List.range 15).map λi=>Value.string (nms i)).toArray
theorem K.adk {H:Type} {enc:TypeId×Value->H} {os:Os} {f:FuncId} {fn:Func} {s:ChangeSpec} {X:World->Prop} (w0:World) (args:Array Value) (d:w0.os=os)
 (g:(w0.forCall (λ_ _=>0) ⟨#[],args,[]⟩).variablesRefB Tryz.checked.prog=true)
 (h:((w0.forCall (λ_ _=>0) ⟨#[],args,[]⟩).heap.toList.drop Tryz.checked.prog.globals.size).take ((begin Tryz.checked.prog (λ_ _=>0) default).world.heap.size -Tryz.checked.prog.globals.size)=(begin Tryz.checked.prog (λ_ _=>0) default).world.heap.toList.drop Tryz.checked.prog.globals.size)
 (b:Input.okWideB Tryz.checked.prog (w0.forCall (λ_ _=>0) ⟨#[],args,[]⟩) f ⟨#[],args,[]⟩=true)
 (c:s.preB enc Tryz.checked.prog fn [] false (w0.forCall (λ_ _=>0) ⟨#[],args,[]⟩).memory args 8=true)
 (e:s.sizedB enc Tryz.checked.prog fn false (w0.forCall (λ_ _=>0) ⟨#[],args,[]⟩).memory args 8=true) (j:X (w0.forCall (λ_ _=>0) ⟨#[],args,[]⟩).memory):
 ∃(w:World) (tape:Tape) (i:Input),w.os=os/\(w.forCall tape i).Shaped Tryz.prog/\i.vars= []/\Input.okWide Tryz.prog (w.forCall tape i) .any w.heap.size f i/\
  ((s.pre enc Tryz.prog fn [] false (w.forCall tape i).memory i.args/\X (w.forCall tape i).memory)/\sizedMet enc Tryz.prog fn (OpenSpec.ofChange s) false (w.forCall tape i).memory i.args)/\({}:Assume).holds Tryz.prog (lone (Frame.enter Tryz.prog f i.args .normal) [] (w.forCall tape i)):=by
 refine⟨w0,λ_ _=>0,⟨#[],args,[]⟩,d,World.shaped_of_RefB g h,(Input.okWide_of_okWideB (base:=0) b).1,(Input.okWide_of_okWideB b).2,⟨⟨ChangeSpec.pre_of_preB c,j⟩,sizedMet_of_sizedB e⟩,?_⟩;simp only[Assume.holds];exact⟨by simp,by simp,λ_=>Modest.zero,by simp,by simp⟩
theorem K.gX {laid : List (String × DataW Unit)} {W : World} (h : laidMetH Tryz.prog laid W) (hm : ("errors.errorType", Rows.laid_errors_errorType) ∈ laid) (b : ("keyhold/keyholdref.kindNames", Rows.laid_keyhold_keyholdref_kindNames) ∈ laid) (g : Nat) : Den W o0.bare (oT g) (.pointer (some ⟨g, 0, none⟩)) := by
 unfold oT;cases e:Nat.beq g 1 with
 |false=>exact K.gE h hm g
 |true=>obtain rfl:=a_ e;exact K.gK h b 1
noncomputable def K.OJ (os:Os):World:=
 let w0:=World.holding Tryz.prog os ⟨#[],#[],[]⟩
 {w0 with heap:=((((w0.heap.modify 0 λ
  | .cells _ t frozen=> .cells #[A.kq] t frozen
  |o=>o).modify 1 λ
  | .cells _ t frozen=> .cells #[.slice (some ⟨w0.heap.size,0,none⟩) 7 7] t frozen
  |o=>o).modify 2 λ
  | .cells _ t frozen=> .cells #[.slice (some ⟨w0.heap.size+1,0,none⟩) 15 15] t frozen
  |o=>o).push (.cells K.knV 9)).push (.cells K.nmV 9)}
theorem K.adl (os : Os) (args : Array Value) : laidMetH Tryz.prog [("errors.errorType", Rows.laid_errors_errorType), ("keyhold/keyholdref.names", Rows.laid_keyhold_keyholdref_names), ("keyhold/keyholdref.kindNames", Rows.laid_keyhold_keyholdref_kindNames)] ((K.OJ os).forCall (fun _ _ => 0) ⟨#[], args, []⟩).memory :=
 laidMetH_of_parts (laidMet_of_run' 8 (by kernel_rfl) (by kernel_rfl)) (by kernel_rfl)
end Go.Proofs.YthgmgkabnffniaaGreatDoor
