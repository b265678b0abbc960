/- RuleTells. -/
import Derived.Test.YtlogpnoioimhjaaGreatDoorXcj
set_option linter.all false
set_option maxRecDepth 100000
set_option maxHeartbeats 16000000
namespace Go.Proofs.YtlogpnoioimhjaaGreatDoor
open Go.RowKit
def bE{w:World}(T:Gy w)(hT:Ei w){B:Option Addr}{m cb:Nat}(hl:m<=40->∀k,k<m->∃b off,B=some ⟨b,off,none⟩/\b<w.heap.size/\∃x:Int,w.cell? ⟨b,off+k,none⟩=some (.int .i64 x))
  {A:Option Addr} {n c:Nat} (hp:G6 w (.slice A n c)) (h1:n<=c) (h2:c<=maxLen) (K op:Int) (N:ByteArray) (nx:Bool) :
  Calls Tryz.prog 4 #[.slice B m cb,EM K op A n c N,.bool nx] w (fun e w'=>e=.returned (.bool true)/\Below w.heap.size w w'):=by
 obtain⟨h0,U⟩:=Kn w #[.int .i64 K,.int .i64 op,.slice A n c,.string N];have HX:Hid (∀y,Below (w.alloc (.cells #[.int .i64 K,.int .i64 op,.slice A n c,.string N] 26)).heap.size (w.alloc (.cells #[.int .i64 K,.int .i64 op,.slice A n c,.string N] 26)) y->y.cell? ⟨w.heap.size,0,none⟩=some (.int .i64 K)/\y.cell? ⟨w.heap.size,1,none⟩=some (.int .i64 op)/\y.cell? ⟨w.heap.size,2,none⟩=some (.slice A n c)/\y.cell? ⟨w.heap.size,3,none⟩=some (.string N)/\w.heap.size<y.heap.size):=Hd fun y i=>by have h:=(U y i).2;exact⟨h.cell 0,h.cell 1,h.cell 2,h.cell 3,h.lt⟩
 have HE:=Hd fun y i=>(U y i).1
 obtain⟨KM,an,ao⟩:=To hp;have a7:=Hd fun y i=>(ao y (U y i).1).mono fun e w' (h:_/\∃d,w'=y.drewN d)=>(⟨h.1,by obtain⟨d,rfl⟩:=h.2;exact MI (Below.refl _ _) d⟩:e=.returned (.int .i64 KM)/\Below y.heap.size y w')
 have ag:=Hd (UL (T.later h0));have P:=Hd fun y i=>hT.later (U y i).1
 have a8:Hid (KM<=200->∃k a3,EX w A n c k a3):=Hd fun h=>hp.word h1 h2 (by have:=an A n c rfl;omega)
 have a5:=Hd fun y tb (i:Below (w.alloc (.cells #[.int .i64 K,.int .i64 op,.slice A n c,.string N] 26)).heap.size (w.alloc (.cells #[.int .i64 K,.int .i64 op,.slice A n c,.string N] 26)) y) (ht:Fx y tb) (T:m<=40)=>dH (ca:=cb) ht T fun k hk=>by obtain⟨b,off,e,l,x,hc⟩:=hl T k hk;have ar:=(U y i).1;exact⟨b,off,e,Ba l ar.size,x,(ar.cell (p:=⟨b,off+k,none⟩) l).trans hc⟩
 have j:=Hd (Below.refl (w.alloc (.cells #[.int .i64 K,.int .i64 op,.slice A n c,.string N] 26)).heap.size (w.alloc (.cells #[.int .i64 K,.int .i64 op,.slice A n c,.string N] 26)));clear T hT hl hp h1 h2 h0 U an ao;unfold EM;go_enter Tryz.func4,Tryz.ntmps4
 go_upto_region 4 with(first
  | (go_at_call 5;refine ag.out.mono ?_;rintro e w1 ⟨tb,rfl,ht,l⟩;replace j:=Hd l;have af:=Hd (Rm (P.out _ l) ht);have J:=Hd ht;clear ht l ag)
  | (go_at_call 6;refine af.out.mono ?_;rintro e w2 ⟨rfl,l⟩;replace J:=Hd (J.out.later l);replace j:=Hd (j.out.trans (l.mono j.out.size));obtain⟨d0,d1,d2,d3,dl⟩:=HX.out _ j.out;clear l af))
 by_cases T:40<m
 ·have av:(40:Int)<(m:Int):=by omega
  clear a8 J P a5 a7;go_wp2_with fail
  go_ret;exact⟨rfl,HE.out _ j.out⟩
 have av:¬(40:Int)<(m:Int):=by omega
 by_cases hk:200<KM
 ·clear a8 J P a5
  go_wp2_with (go_at_call 7;refine(a7.out _ j.out).mono ?_;rintro e w3 ⟨rfl,l⟩;replace j:=Hd (j.out.trans (l.mono j.out.size));clear l)
  go_ret;exact⟨rfl,HE.out _ j.out⟩
 obtain⟨k,a3,hw⟩:=a8.out (by omega);have HW:=Hd hw;have aq:m<=40:=by omega
 have HM:=Hd aq;clear hw T aq a8;go_upto_region 7 with(first
  | (go_at_call 7;refine(a7.out _ j.out).mono ?_;rintro e w3 ⟨rfl,l⟩;replace j:=Hd (j.out.trans (l.mono j.out.size));replace J:=Hd (J.out.later l);clear l)
  | (go_at_call 16;refine(a5.out _ _ j.out J.out HM.out).mono ?_;rintro e o ⟨eb,v,ae,rfl,l,al,ak⟩;replace j:=Hd (j.out.trans (l.mono j.out.size));have a6:=Hd al;have a0:=Hd ak;clear l al ak))
 obtain⟨gb,gc,rfl⟩:∃gb gc,v=.slice (some ⟨gb,0,none⟩) 39 gc:=by obtain⟨⟨b,c,e,-⟩,-⟩:=a0.out;exact⟨b,c,e⟩
 have a1:=Hd fun y (i:Below o.heap.size o y)=>HE.out _ (j.out.trans (i.mono j.out.size))
 have a4:=Hd fun y (i:Below o.heap.size o y)=>Pm (P.out y (j.out.trans (i.mono j.out.size))) (a6.out.later i) (HW.out.later (a1.out y i)) K op N nx
 have a9:=Hd fun y (i:Below o.heap.size o y)=>Xw (a0.out.later i) (HW.out.later (a1.out y i)) K op N nx
 have ah:=Hd fun y (i:Below o.heap.size o y)=>LH (P.out y (j.out.trans (i.mono j.out.size))) (a6.out.later i)
 have ai:=Hd fun y (i:Below o.heap.size o y)=>NC (a0.out.later i)
 have ad:=Hd fun y (i:Below o.heap.size o y)=>OX (P.out y (j.out.trans (i.mono j.out.size))) (a6.out.later i) (HW.out.later (a1.out y i)) K op N
 have aa:=Hd fun y (i:Below o.heap.size o y)=>TX (a0.out.later i) (HW.out.later (a1.out y i)) K op N
 have R:=Hd fun y (i:Below o.heap.size o y)=>HX.out y (j.out.trans (i.mono j.out.size))
 have t:=Hd (Below.refl o.heap.size o);obtain⟨d0,d1,d2,d3,dl⟩:=R.out _ t.out;clear a7 a5 J P a6 a0 HX j HM HE;generalize Fu ae=au,Ir ae K op n k a3=u,IC ae K n k a3 nx=ab at *;unfold Ka at a4 a9;generalize (if ab=true then a3 else⟨#[]⟩)=tx at *;unfold EM at a4 a9 ad aa;go_upto_region 9 with(first
  | (go_at_call 8;refine(a4.out _ t.out).mono ?_;rintro e w5 ⟨rfl,l⟩;replace t:=Hd (t.out.trans (l.mono t.out.size));obtain⟨d0,d1,d2,d3,dl⟩:=R.out _ t.out;clear l)
  | (go_at_call 17;refine(a9.out _ t.out).mono ?_;rintro e w6 ⟨rfl,l⟩;replace t:=Hd (t.out.trans (l.mono t.out.size));clear l))
 obtain⟨I,aj,a2⟩:∃I:World->Prop,(∀w',I w'->Below o.heap.size o w')/\(∀w',Below o.heap.size o w'->I w'):=⟨_,fun _ h=>h,fun _ h=>h⟩
 have hI:I w6.drew:=a2 _ t.out.drew;have aw:Nonempty (Wd I):=⟨⟨_,hI⟩⟩
 have p:=Hd (fun x:Wd I=>aj _ x.ok);have g0:=fun y:Wd I=>(R.out _ (p.out y)).1
 have g1:=fun y:Wd I=>(R.out _ (p.out y)).2.1
 have g2:=fun y:Wd I=>(R.out _ (p.out y)).2.2.1
 have g3:=fun y:Wd I=>(R.out _ (p.out y)).2.2.2.1
 have gl:=fun y:Wd I=>(R.out _ (p.out y)).2.2.2.2
 have CP:=Hd (fun y:Wd I=>KI (I:=I) (v:=.int .i64 au) ((ah.out y.w (p.out y)).mono fun e w' C=>⟨C.1,a2 _ ((p.out y).trans (C.2.mono (p.out y).size))⟩));have CR:=Hd (fun y:Wd I=>KI (I:=I) (v:=.int .i64 au) ((ai.out y.w (p.out y)).mono fun e w' C=>⟨C.1,C.2▸y.ok⟩));have CT:=Hd (fun y:Wd I=>KI (I:=I) (v:=.int .i64 u) ((ad.out y.w (p.out y)).mono fun e w' C=>⟨C.1,a2 _ ((p.out y).trans (C.2.mono (p.out y).size))⟩));have CU:=Hd (fun y:Wd I=>KI (I:=I) (v:=.int .i64 u) ((aa.out y.w (p.out y)).mono fun e w' C=>⟨C.1,a2 _ ((p.out y).trans (C.2.mono (p.out y).size))⟩))
 clear aj a2 ah ai ad aa a4 a9 d0 d1 d2 d3 dl;refine Uf I (by kernel_rfl) (by kernel_rfl) hI ?_;repeat (go_big_quiet_step (first|(go_at_call 9;exact CP.out _)|(go_at_call 18;exact CR.out _)|(go_at_call 13;exact CT.out _)|(go_at_call 19;exact CU.out _)))
 refine wpQuiet_nil ?_;rintro _ ⟨x,rfl⟩;have HF:=Hd (a1.out _ (p.out x));clear g0 g1 g2 g3 gl;go_wp2;go_ret;exact⟨rfl,HF.out⟩
end Go.Proofs.YtlogpnoioimhjaaGreatDoor
