/- . -/
import Derived.Test.YtendpobbjjaopaaGreatDoorXbh
import Derived.Test.YtendpobbjjaopaaGreatDoorXci
set_option linter.all false
set_option maxRecDepth 100000
set_option maxHeartbeats 16000000
namespace Go.Proofs.YtendpobbjjaopaaGreatDoor
open Go.RowKit
open Value renaming slice→oG,int→oH,pointer→oI,string→oJ
open Option renaming some→oM,none→oN
open IntKind renaming i64→oO
open Obj renaming cells→oP
open World renaming cell?→oT
variable{w:World}{steps tb:Nat}{T:List (Nd×Value)}
def FY(c:Ce)(t:Int):Bool:=decide (0<=t/\t<=38/\((Fh pz AS Bv t.toNat 1000 c.st).getD (0,0)).1≠0)
def dT(c:Ce)(t:Int)(h:t<0\/39<=t):FY c t=false:=decide_eq_false nX
def Sg{P:World}{i rb:Nat}{c:Ce}{J nv:Value}(h:CF P w i tb rb c.st c.ns T false steps J nv)(h0:0<c.st.length)(j:∀s∈c.st,s<AS.length)(C:∀t,t<=38->∃a,Fh pz AS Bv t 1000 c.st=oM a) :
  Fo w (oI (oM ⟨i,0,oN⟩)) (FY c):=fun t y l=>Zm (by
 have U:pz.nt=38:=rfl;unfold FY;by_cases I:0<=t/\t<=38
 ·obtain⟨a,ha⟩:=C t.toNat nX
  rw[ha];exact PL (h.later l) h0 t (fun _ _=>ha) j
 ·have p:=PL (f:=0) (a:=(0,0)) (h.later l) h0 t (fun o R=>absurd ⟨o,nX⟩ I) j
  rwa [decide_eq_false nX,<-show decide (0<=t/\t<=38/\((Fh pz AS Bv t.toNat 1000 c.st).getD (0,0)).1≠0)=false from decide_eq_false nX]at p)
section
set_option maxRecDepth 1000000
def JD:Ce:=⟨[0],[],[]⟩
def kA:((List.range 39).all fun t=>(Fh pz AS Bv t 1000 [0]).isSome)=true:=by decide +kernel
def jY:Ns (FY JD)=1/\FY JD 3=true/\JX (FY JD) ⟨#[60]⟩=true/\JX (FY JD) ⟨#[38]⟩=false:=by decide +kernel
def Xt{o:World}{i rb:Nat}{l nv:Value}(h:CF o w i tb rb [0] [] T false steps l nv):Fo w (oI (oM ⟨i,0,oN⟩)) (FY JD):=
 Sg (c:=JD) h (Nat.succ_pos _) (fun s j=>by rw[mS.1 j];exact(by decide +kernel:0<AS.length)) fun t p=>Option.isSome_iff_exists.1 (List.all_eq_true.1 kA t (List.mem_range.2 nX))
def RO(h:Gu w tb):tb<w.heap.size:=by obtain⟨_,_,_,_,_,_,_,_,_,_,_,_,_,_,_,_,_,_,_,_,_,h,-⟩:=h;exact h.lt
def dN{g:Nat}{s:ByteArray}(h:Ah w g 53 #[oH oO 1,oJ s,oJ ⟨#[]⟩,oG oN 0 0,oG oN 0 0]):I0 w (oM ⟨g,0,oN⟩) s:=
 ⟨g,0,rfl,h.lt,h.cell 0,h.cell 1⟩
def W3(hT:D9 w)(h:Gu w tb):Calls Tryz.prog 5 #[oI (oM ⟨tb,0,oN⟩)] w (fun e w'=>e=.returned (.bool true)/\Below w.heap.size w w'):=by
 have a2:=Hd (St h (RO h));have HT:=Hd fun y (l:Below w.heap.size w y)=>hT.later l
 obtain⟨v1,v2,v3,v4⟩:=jY;have P:=Hd v1;have R:=Hd v2;have a7:=Hd v3;have a8:=Hd v4;clear hT h v1 v2 v3 v4;go_enter Tryz.func5,Tryz.ntmps5
 go_upto_region 3 with(go_at_call 15;refine a2.out.mono ?_;rintro e i ⟨eb,rb,sv,rfl,he,p⟩;have HE:=Hd he;have I:=Hd p;clear he p a2)
 have h0:Below i.heap.size i ((i.alloc (oP #[oH oO 1,oJ ⟨#[102]⟩,oJ ⟨#[]⟩,oG oN 0 0,oG oN 0 0] 53)).alloc (oP #[oH oO 1,oH oO 0,oG (oM ⟨i.heap.size,0,oN⟩) 1 1,oJ ⟨#[]⟩] 57)):=(AG i _).alloc oA _;have hx:Ah ((i.alloc (oP #[oH oO 1,oJ ⟨#[102]⟩,oJ ⟨#[]⟩,oG oN 0 0,oG oN 0 0] 53)).alloc (oP #[oH oO 1,oH oO 0,oG (oM ⟨i.heap.size,0,oN⟩) 1 1,oJ ⟨#[]⟩] 57)) i.heap.size 53 #[oH oO 1,oJ ⟨#[102]⟩,oJ ⟨#[]⟩,oG oN 0 0,oG oN 0 0]:=(Ah.new i 53 _).alloc _
 have J:Ah ((i.alloc (oP #[oH oO 1,oJ ⟨#[102]⟩,oJ ⟨#[]⟩,oG oN 0 0,oG oN 0 0] 53)).alloc (oP #[oH oO 1,oH oO 0,oG (oM ⟨i.heap.size,0,oN⟩) 1 1,oJ ⟨#[]⟩] 57)) (i.heap.size+1) 57 #[oH oO 1,oH oO 0,oG (oM ⟨i.heap.size,0,oN⟩) 1 1,oJ ⟨#[]⟩]:=Ah.newAt oA;generalize (i.alloc (oP #[oH oO 1,oJ ⟨#[102]⟩,oJ ⟨#[]⟩,oG oN 0 0,oG oN 0 0] 53)).alloc (oP #[oH oO 1,oH oO 0,oG (oM ⟨i.heap.size,0,oN⟩) 1 1,oJ ⟨#[]⟩] 57)=o at h0 hx J ⊢;have C:Fo o (oI (oM ⟨eb,0,oN⟩)) (FY JD):=(Xt HE.out).later h0
 have U:=dN hx;have t:=HT.out o (I.out.trans (h0.mono I.out.size));have a0:=Hd fun y (l:Below o.heap.size o y)=>ZB (c:=1) (t.later l) (C.later l) R.out P.out (U.later l)
 have a5:=Hd fun y (l:Below o.heap.size o y)=>Qg (t.later l) (C.later l)
 have a6:=Hd fun y (l:Below o.heap.size o y)=>Z2 (c:=1) (t.later l) (C.later l) R.out (U.later l)
 have a3:=Hd fun y (l:Below o.heap.size o y)=>Oz (t.later l) (C.later l) ⟨#[60]⟩
 have a4:=Hd fun y (l:Below o.heap.size o y)=>Oz (t.later l) (C.later l) ⟨#[38]⟩
 rw[P.out]at a5;rw[a7.out]at a3;rw[a8.out]at a4;unfold LR at a0 a6;have T:Hid (∀y,Below o.heap.size o y->oT y ⟨i.heap.size+1,0,oN⟩=oM (oH oO 1)/\oT y ⟨i.heap.size+1,1,oN⟩=oM (oH oO 0)/\oT y ⟨i.heap.size+1,2,oN⟩=oM (oG (oM ⟨i.heap.size,0,oN⟩) 1 1)/\oT y ⟨i.heap.size+1,3,oN⟩=oM (oJ ⟨#[]⟩)/\i.heap.size+1<y.heap.size):=Hd fun y l=>by have h:=J.below l J.lt;exact⟨h.cell 0,h.cell 1,h.cell 2,h.cell 3,h.lt⟩
 have a1:=Hd (I.out.trans (h0.mono I.out.size));have j:=Hd (Below.refl o.heap.size o);obtain⟨d0,d1,d2,d3,dl⟩:=T.out _ j.out;clear h0 hx J C U t HE HT P R a7 a8;generalize i.heap.size+1=aa at *;generalize i.heap.size=a9 at *;go_wp2_with (first
  | (go_at_call 16;refine(a0.out _ j.out).mono ?_;rintro e w4 ⟨rfl,p⟩;replace j:=Hd (j.out.trans (p.mono j.out.size));obtain⟨d0,d1,d2,d3,dl⟩:=T.out _ j.out;clear p)
  | (go_at_call 17;refine(a5.out _ j.out).mono ?_;rintro e w4 ⟨rfl,p⟩;replace j:=Hd (j.out.trans (p.mono j.out.size));obtain⟨d0,d1,d2,d3,dl⟩:=T.out _ j.out;clear p)
  | (go_at_call 18;refine(a6.out _ j.out).mono ?_;rintro e w4 ⟨rfl,p⟩;replace j:=Hd (j.out.trans (p.mono j.out.size));clear p)
  | (go_at_call 8;(first|(with_reducible refine(a3.out _ j.out).mono ?_)|(with_reducible refine(a4.out _ j.out).mono ?_));rintro e w4 ⟨rfl,p⟩;replace j:=Hd (j.out.trans (p.mono j.out.size));clear p))
 go_ret;exact⟨rfl,a1.out.trans (j.out.mono a1.out.size)⟩
end
