/- The document's 'Productive' and 'Reached. The document's 'Check' of layer 9. The POSIX grammar has no clashes. PosixClean. -/
import Derived.Test.YthaacmablcpdfaaGreatDoorYbc
import Derived.Test.YthaacmablcpdfaaGreatDoorYao
import Derived.Test.YthaacmablcpdfaaGreatDoorYbb
import Derived.Test.YthaacmablcpdfaaGreatDoorYn
set_option linter.unusedVariables false
set_option maxRecDepth 100000
set_option maxHeartbeats 16000000
namespace Go.Proofs.YthaacmablcpdfaaGreatDoor
open Go.RowKit
theorem M1{w:World}{v:Value}{g:Gz}(h:GN w v g):Calls Tryz.prog 41 #[v] w fun e w'=>e=.returned (.int .i64 0)/\Below w.heap.size w w':=by obtain⟨o,i,j,rfl⟩:=h.EF;refine(XT i).mono ?_;rintro e w' ⟨rfl,l⟩;exact⟨by rw[j],l⟩
def LB(g:Gz)(l:List Nat)(r:Nat×List Nat):List Nat:=if !(l.contains r.1)&&JR g l r.2 then l++[r.1] else l
def I1(g:Gz):Nat->Int->List Nat->Option (List Nat)
 | 0,_,_=>none
 | f+1,n,l=>if n=(l.length:Int) then some l else if 10000<l.length then none else I1 g f l.length (g.R.foldl (LB g) l)
theorem UM{w:World}{v:Value}{g:Gz}(l:GN w v g){f:Nat}{P:List Nat}(hP:Iw g f 0 [g.s]=some P) :
  Calls Tryz.prog 43 #[v] w (IL w (DP P (g.top+1))):=by
 have a1:=Hd (fun(y:World) (t:Below w.heap.size w y)=>M1 (l.later t));have a3:=Hd (fun(y:World) (t:Below w.heap.size w y)=>Xv (l.later t) hP);obtain⟨J,cT,C,U,I,cR,rfl,-,-⟩:=l.open_;have o:=Hd (Ay w (.cells #[.slice J g.nt cT,.slice C g.nn U,.slice I g.R.length cR,.int .i64 g.s] 32));have R:=Hd (Ah.new w 32 #[.slice J g.nt cT,.slice C g.nn U,.slice I g.R.length cR,.int .i64 g.s]);clear l hP;unfold IL;go_enter Tryz.func43,Tryz.ntmps43
 go_wp2_with (first
  | (
   go_at_call 41;refine(a1.out _ o.out).mono ?_;rintro e w1 ⟨rfl,p⟩
   have j:=Hd (o.out.trans (p.mono o.out.size));have i:=R.out.below p R.out.lt;have x0:=Ah.cell i 0;have x1:=Ah.cell i 1;have x2:=Ah.cell i 2;have x3:=Ah.cell i 3;have xl:=i.lt;simp at x0 x1 x2 x3;have a2:=Hd (a3.out w1 j.out);clear p i)
  | (go_at_call 97;refine a2.out.mono ?_;rintro e w2 ⟨a4,rfl,ho,a0⟩;have T:=Hd (And.intro ho a0);clear ho a0))
 go_ret;exact⟨_,rfl,Ei T.out.1 j.out.size,j.out.trans (T.out.2.mono j.out.size)⟩
theorem WO{w:World}{v:Value}{g:Gz}(hg:GN w v g){f:Nat}{P:List Nat}(hP:I1 g f (-1) []=some P) :
  Calls Tryz.prog 42 #[v] w (IL w (DP P (g.top+1))):=by
 have ao:=hg.fit;have bf:=ao.nr;have ar:=Hd (fun(y:World) (o:Below w.heap.size w y)=>M1 (hg.later o));have b9:=Hd (fun(y:World) (o:Below w.heap.size w y) (lv:Value) (l:List Nat) (h:EM y lv l) (hl:l.length<=100000)=>Po (hg.later o) h hl);have b6:=Hd (fun(y:World) (o:Below w.heap.size w y) (lv:Value) (l:List Nat) (h:EM y lv l) (hl:l.length<=100000) (rv:Value) (left:Nat) (r:List Nat) (J:Bz y rv r) (hr:r.length<=8)=>Vk (hg.later o) h hl (left:=left) J hr);have HF:=Hd ao;have ax:=Hd hP;obtain⟨AT,cT,AN,cN,AR,cR,rfl,b4,-⟩:=hg.open_
 have ad:=Hd b4;have ai:=Hd (Ay w (.cells #[.slice AT g.nt cT,.slice AN g.nn cN,.slice AR g.R.length cR,.int .i64 g.s] 32));have ak:=Hd (Ah.new w 32 #[.slice AT g.nt cT,.slice AN g.nn cN,.slice AR g.R.length cR,.int .i64 g.s]);clear hg hP b4 ao;unfold IL;go_enter Tryz.func42,Tryz.ntmps42
 go_wp2_with (go_at_call 41;refine(ar.out _ ai.out).mono ?_;rintro e w1 ⟨rfl,b0⟩;have aq:=Hd b0;clear b0)
 generalize w.alloc (.cells #[.slice AT g.nt cT,.slice AN g.nn cN,.slice AR g.R.length cR,.int .i64 g.s] 32)=U at *;have ae:Hid (∀y,Below U.heap.size U y->(y.cell? ⟨w.heap.size,0,none⟩=some (.slice AT g.nt cT)/\y.cell? ⟨w.heap.size,1,none⟩=some (.slice AN g.nn cN)/\y.cell? ⟨w.heap.size,2,none⟩=some (.slice AR g.R.length cR)/\y.cell? ⟨w.heap.size,3,none⟩=some (.int .i64 g.s))/\w.heap.size<y.heap.size/\Below w.heap.size w y):=Hd (fun y o=>by have a6:=ak.out.below o ak.out.lt;exact⟨⟨a6.cell 0,a6.cell 1,a6.cell 2,a6.cell 3⟩,a6.lt,ai.out.trans (o.mono ai.out.size)⟩)
 have b8:Hid (∀k r,g.R[k]?=some r->∃b off Ar cr,AR=some ⟨b,off,none⟩/\∀y,Below w.heap.size w y->b<y.heap.size/\y.cell? ⟨b,off+k*2,none⟩=some (.int .i64 r.1)/\y.cell? ⟨b,off+k*2+1,none⟩=some (.slice Ar r.2.length cr)/\Bz y (.slice Ar r.2.length cr) r.2):=Hd (fun k r hR=>by obtain⟨b,off,rv,e,a7,c0,c1,J⟩:=ad.out k _ hR;obtain⟨⟨Ar,cr,rfl,-⟩,-,-⟩:=id J;exact⟨b,off,Ar,cr,e,fun y hb=>⟨A0 a7 hb.size,(hb.cell (p:=⟨b,off+k*2,none⟩) a7).trans c0,(hb.cell (p:=⟨b,off+k*2+1,none⟩) a7).trans c1,J.later hb⟩⟩)
 clear ad ak ar;go_loopg [4,3] f (fun k nv tv wr=>∃(n:Int) (l:List Nat),nv=.int .i64 n/\Hid (Dk U wr tv l)/\Hid (l.length<=20000)/\Hid (I1 g k n l=some P))
 case atStart=>exact⟨-1,[],rfl,Hd ⟨(Dk.nil U).row |> (AS · aq.out),aq.out⟩,Hd (by decide),ax⟩
 case round=>
  obtain⟨n,l,rfl,j,av,HL⟩:=hrel;rename World=>w2
  obtain⟨At,ct,an⟩:=Cv j.out.row;subst an;have p:=HL.out;obtain⟨k',af⟩:∃k',gk=k'+1:=by
   cases gk with
   | zero=>unfold I1 at p;cases p
   | succ k'=>exact⟨k',rfl⟩
  rw[af]at p;unfold I1 at p;obtain⟨⟨x0,x1,x2,x3⟩,xl,T⟩:=ae.out w2 j.out.below;by_cases J:n=(l.length:Int)
  ·rw[if_pos J]at p
   have p:l=P:=Option.some.inj p;have HS:=Hd (b9.out w2 T _ l j.out.read (by have:=av.out;omega));have aj:=Hd T;subst p;obtain⟨ln,ag⟩:∃ln,l.length=ln:=⟨_,rfl⟩
   rw[ag]at J HS ⊢;subst J;clear ag T af HL ax;go_wp2_with (go_at_call 96;refine HS.out.mono ?_;rintro e t ⟨bh,rfl,ho,b1⟩;have HO:=Hd (And.intro ho b1);clear ho b1)
   go_ret;exact⟨_,rfl,Ei HO.out.1 aj.out.size,aj.out.trans (HO.out.2.mono aj.out.size)⟩
  ·rw[if_neg J]at p
   have b2:l.length<=10000:=by
    by_cases h:10000<l.length
    ·rw[if_pos h]at p;cases p
    ·omega
   rw[if_neg (by omega)]at p;obtain⟨Z,hZ⟩:∃Z,g.R.foldl (LB g) l=Z:=⟨_,rfl⟩
   rw[hZ]at p;have HZ:=Hd hZ;have aw:=Hd p;have HK:=Hd af;have au:=Hd b2;obtain⟨ln,ag⟩:∃ln,l.length=ln:=⟨_,rfl⟩
   rw[ag]at J j aw av au ⊢;have be:(n != (ln:Int))=true:=by simpa using J
   clear T p af HL hZ b2 J;go_wp2_with fail
   clear x0 x1 x2 x3 xl;go_loopw [5,3] (fun ii tv wr=>∃(i:Nat) (q:List Nat),i<=g.R.length/\ii=.int .i64 i/\Hid (Dk U wr tv q)/\Hid (q.length<=10000+i)/\Hid ((g.R.drop i).foldl (LB g) q=Z)) (fun ii _ _=>g.R.length-(intOf ii).toNat)
   case atStart=>exact⟨0,l,AP _,rfl,j,Hd (by have:=au.out;omega),HZ⟩
   case round=>
    clear j;obtain⟨i,q,hi,rfl,j,HQ,aa⟩:=hrel;rename World=>t
    obtain⟨A2,c2,an⟩:=Cv j.out.row;subst an;obtain⟨⟨x0,x1,x2,x3⟩,xl,T⟩:=ae.out t j.out.below;by_cases a7:i<g.R.length
    ·have hR:g.R[i]?=some (g.R.getD i (0,[])):=by rw[dG,eG a7];rfl
     have a3:=aa.out;rw[Er hR,List.foldl_cons]at a3;have b5:=HF.out.short _ (mG hR);obtain⟨b,off,Ar,cr,rfl,a8⟩:=b8.out i _ hR;generalize g.R.getD i (0,[])=r at *;obtain⟨C,rr⟩:=r;simp only at a8 b5;have a9:=Hd (fun(y:World) (o:Below t.heap.size t y)=>JJ (j.out.later o).read (by have:=HQ.out;omega) C);have a5:=Hd (fun(y:World) (o:Below t.heap.size t y)=>b6.out y (T.trans (o.mono T.size)) _ q (j.out.later o).read (by have:=HQ.out;omega) _ C rr (a8 y (T.trans (o.mono T.size))).2.2.2 b5);obtain⟨rl,b3⟩:∃rl,rr.length=rl:=⟨_,rfl⟩
     rw[b3]at a8 a5;have a0:Hid (∀y,Below t.heap.size t y->(y.cell? ⟨w.heap.size,0,none⟩=some (.slice AT g.nt cT)/\y.cell? ⟨w.heap.size,1,none⟩=some (.slice AN g.nn cN)/\y.cell? ⟨w.heap.size,2,none⟩=some (.slice (some ⟨b,off,none⟩) g.R.length cR)/\y.cell? ⟨w.heap.size,3,none⟩=some (.int .i64 g.s))/\y.cell? ⟨b,off+i*2,none⟩=some (.int .i64 C)/\y.cell? ⟨b,off+i*2+1,none⟩=some (.slice Ar rl cr)/\b<y.heap.size):=Hd (fun y o=>by obtain⟨h1,h2,h3⟩:=ae.out y (j.out.below.trans (o.mono j.out.below.size));obtain⟨h4,h5,h6,-⟩:=a8 y h3;exact⟨h1,h5,h6,h4⟩)
     obtain⟨ql,ah⟩:∃n,q.length=n:=⟨_,rfl⟩
     have ba:=HQ.out;have ad:Hid (t.ownsRow U.heap.size 3 1 (.slice A2 ql c2) ql (q.map AU)):=Hd (by have h:=j.out.row;rwa [ah]at h);rw[ah]at a9 a5 j ba ⊢;have b7:=Hd ah;have ab:=Hd a3;have bc:(i:Int)<(g.R.length:Int):=by omega
     obtain⟨I,az,al⟩:∃I:World->Prop,(∀w',I w'->Below t.heap.size t w')/\(∀w',Below t.heap.size t w'->I w'):=⟨_,fun _ h=>h,fun _ h=>h⟩
     have hI:I t.drew:=al _ (FW (Below.refl _ _));have bd:Nonempty (Wd I):=⟨⟨_,hI⟩⟩
     have R:=Hd (fun x:Wd I=>az _ x.ok);have XJ:=Hd al;clear az al T hR a3 a8 b3 ah aa;obtain⟨a1,ha1⟩:∃a,q.contains C=a:=⟨_,rfl⟩
     obtain⟨a2,ha2⟩:∃a,JR g q rr=a:=⟨_,rfl⟩
     rw[ha1]at a9;rw[ha2]at a5;have ay:Hid (LB g q (C,rr)=if !a1&&a2 then q++[C] else q):=Hd (by unfold LB;rw[ha1,ha2]);clear ha1 ha2;have CH:=Hd (fun y:Wd I=>Fh (I:=I) (v:=.bool a1) ((a9.out y.w (R.out y)).mono fun e w' hh=>⟨hh.1,by rw[hh.2];exact y.ok⟩));have CF:=Hd (fun y:Wd I=>Fh (I:=I) (v:=.bool a2) ((a5.out y.w (R.out y)).mono fun e w' hh=>⟨hh.1,XJ.out _ ((R.out y).trans (hh.2.mono (R.out y).size))⟩));clear a9 a5;cases a1<;>cases a2
     all_goals
      go_wp2_with fail
      have g0:=fun y:Wd I=>(a0.out _ (R.out y)).1.1
      have g1:=fun y:Wd I=>(a0.out _ (R.out y)).1.2.1
      have g2:=fun y:Wd I=>(a0.out _ (R.out y)).1.2.2.1
      have g3:=fun y:Wd I=>(a0.out _ (R.out y)).1.2.2.2
      have g4:=fun y:Wd I=>(a0.out _ (R.out y)).2.1
      have g5:=fun y:Wd I=>(a0.out _ (R.out y)).2.2.1
      refine Iy I (by kernel_rfl) (by kernel_rfl) hI ?_;repeat (go_big_quiet_step (first|(go_at_call 45;exact CH.out _)|(go_at_call 95;exact CF.out _)))
      refine wpQuiet_nil ?_;rintro _ ⟨x,rfl⟩;have a4:=Hd (R.out x);generalize x.w=w5 at *;clear g0 g1 g2 g3 g4 g5 CH CF x0 x1 x2 x3 xl hI
     rotate_left
     ·obtain⟨⟨x0,x1,x2,x3⟩,d0,d1,xl⟩:=a0.out w5 a4.out
      have bi:=(ae.out w5 (j.out.below.trans (a4.out.mono j.out.below.size))).2.1;go_wp2_with (
       at_builtin;refine DA Ip (.tmp 41) (.tmp 48) rfl rfl (base:=U.heap.size) (n:=ql) (m:=1) (N:=ql+1) (v:=.slice A2 ql c2) (src:=.slice (some ⟨w5.heap.size,0,none⟩) 1 1) (xs:=q.map AU) (news:=[AU C]) rfl rfl (AS (AS ad.out a4.out) (Ay w5 (.cells #[.int .i64 C] 3))) (Bc.An (c:=1) (cs:=[AU C]) (Ah.new w5 3 #[.int .i64 C]) rfl (by simp[Value.oneCell',AU])) rfl (by unfold maxLen;omega) (by omega) (by have:=j.out.below.size;have:=a4.out.size;simp;omega) ?_
       intro A c bb r1 r2 r3;have HP:Hid (Dk U bb (.slice A (ql+1) c) (q++[C])):=Hd (by have h2:=b7.out;subst h2;exact Dk.push ((j.out.later a4.out).later (Ay w5 (.cells #[.int .i64 C] 3))).below r1 r2)
       clear r1 r2 r3)
      go_roundw
      case rel=>exact⟨i+1,q++[C],by omega,by go_num,HP,Hd (by have:=HQ.out;simp;omega),Hd (by have h:=ab.out;rwa [ay.out]at h)⟩
      case measure=>simp[intOf];omega
     all_goals
      go_wp2;go_roundw
      case rel=>exact⟨i+1,q,by omega,by go_num,Hd (j.out.later a4.out),Hd (by have:=HQ.out;omega),Hd (by have h:=ab.out;rwa [ay.out]at h)⟩
      case measure=>simp[intOf];omega
    ·obtain rfl:i=g.R.length:=by omega
     have a3:=aa.out;rw[List.drop_length,List.foldl_nil]at a3;have ab:=Hd a3;clear a3 aa T;go_wp2
     go_roundg (gk-1)
     case measure=>have:=HK.out;omega
     case rel=>exact⟨ln,q,rfl,j,Hd (by have:=HQ.out;omega),Hd (by rw[ab.out,HK.out,Nat.add_sub_cancel];exact aw.out)⟩
def Qn(g:Gz)(p r:List Nat):Prop:=∀x,1<=x->x<=g.top->r.contains x=true/\(g.AV x=true->p.contains x=true)
theorem UQ{w:World}{v:Value}{g:Gz}(hg:GN w v g){f f':Nat}{P Q:List Nat}(hQ:I1 g f (-1) []=some Q)(hP:Iw g f' 0 [g.s]=some P)(hL:Qn g (DP Q (g.top+1)) (DP P (g.top+1))) :
  Calls Tryz.prog 11 #[v] w fun e w'=>e=.returned (.tuple #[.int .i64 0,.int .i64 0])/\Below w.heap.size w w':=by
 have ag:=hg.fit;have bc:g.top<=240:=by unfold Gz.top;have:=ag.nt;have:=ag.nn;omega
 have ah:=Hd (fun(y:World) (i:Below w.heap.size w y)=>M1 (hg.later i));have b4:=Hd (fun(y:World) (i:Below w.heap.size w y)=>OW (hg.later i));have b2:=Hd (fun(y:World) (i:Below w.heap.size w y) (x:Nat)=>S7 (hg.later i) x);have al:=Hd (fun(y:World) (i:Below w.heap.size w y)=>WO (hg.later i) hQ);have ao:=Hd (fun(y:World) (i:Below w.heap.size w y)=>UM (hg.later i) hP);have ba:=ND Q (g.top+1);have b9:=ND P (g.top+1);have HL:=Hd hL;obtain⟨J,U,C,R,I,T,rfl,-,-⟩:=hg.open_;have a5:=Hd (Ay w (.cells #[.slice J g.nt U,.slice C g.nn R,.slice I g.R.length T,.int .i64 g.s] 32))
 have ad:=Hd (Ah.new w 32 #[.slice J g.nt U,.slice C g.nn R,.slice I g.R.length T,.int .i64 g.s]);generalize DP Q (g.top+1)=q at *;generalize DP P (g.top+1)=a9 at *;clear hg hQ hP hL ag;go_enter Tryz.func11,Tryz.ntmps11
 go_upto_region 4 with(
      go_at_call 41;refine(ah.out _ a5.out).mono ?_;rintro e j ⟨rfl,af⟩
      have a0:=Hd (a5.out.trans (af.mono a5.out.size));have a2:=Hd (ad.out.below af ad.out.lt);have l:=a2.out;have x0:=Ah.cell l 0;have x1:=Ah.cell l 1;have x2:=Ah.cell l 2;have x3:=Ah.cell l 3;have xl:=l.lt;simp at x0 x1 x2 x3;clear af l)
 have a8:Hid (∀y,Below j.heap.size j y->y.cell? ⟨w.heap.size,0,none⟩=some (.slice J g.nt U)/\y.cell? ⟨w.heap.size,1,none⟩=some (.slice C g.nn R)/\y.cell? ⟨w.heap.size,2,none⟩=some (.slice I g.R.length T)/\y.cell? ⟨w.heap.size,3,none⟩=some (.int .i64 g.s)):=Hd (fun y i=>by have h:=a2.out.below i a2.out.lt;exact⟨h.cell 0,h.cell 1,h.cell 2,h.cell 3⟩)
 have HD:Hid (Below j.heap.size j j.drew):=Hd ((Below.refl _ j).drew);have an:Hid (∀y,Below j.heap.size j y->Calls Tryz.prog 42 #[.agg #[.slice J g.nt U,.slice C g.nn R,.slice I g.R.length T,.int .i64 g.s]] y (fun e w'=>∃A c,e=.returned (.slice A q.length c)/\Below j.heap.size j w'/\Below y.heap.size y w'/\EM w' (.slice A q.length c) q)):=Hd (fun y i=>by refine(al.out y (a0.out.trans (i.mono a0.out.size))).mono ?_;rintro e w' ⟨b6,rfl,ho,p⟩;obtain⟨A,c,rfl⟩:=Cv ho;exact⟨A,c,rfl,i.trans (p.mono i.size),p,EM.row ho rfl⟩)
 have aq:Hid (∀y,Below j.heap.size j y->Calls Tryz.prog 43 #[.agg #[.slice J g.nt U,.slice C g.nn R,.slice I g.R.length T,.int .i64 g.s]] y (fun e w'=>∃A c,e=.returned (.slice A a9.length c)/\Below j.heap.size j w'/\Below y.heap.size y w'/\EM w' (.slice A a9.length c) a9)):=Hd (fun y i=>by refine(ao.out y (a0.out.trans (i.mono a0.out.size))).mono ?_;rintro e w' ⟨b6,rfl,ho,p⟩;obtain⟨A,c,rfl⟩:=Cv ho;exact⟨A,c,rfl,i.trans (p.mono i.size),p,EM.row ho rfl⟩)
 go_region_held3 (fun y=>y.cell? ⟨w.heap.size,0,none⟩=some (.slice J g.nt U)/\y.cell? ⟨w.heap.size,1,none⟩=some (.slice C g.nn R)/\y.cell? ⟨w.heap.size,2,none⟩=some (.slice I g.R.length T)/\y.cell? ⟨w.heap.size,3,none⟩=some (.int .i64 g.s))
  (first|exact a8.out _ HD.out|exact a8.out _ ab.out|exact a8.out _ a7.out)
  (first
   | (go_at_call 42;refine(an.out _ (by first|exact a7.out|exact HD.out)).mono ?_;rintro e wp ⟨Ap,cp,rfl,p,-,hs⟩;have ab:=Hd p;have ar:=Hd hs;clear p hs)
   | (go_at_call 43;refine(aq.out _ (by first|exact ab.out|exact HD.out)).mono ?_;rintro e wr ⟨Ar,cr,rfl,p,ax,hs⟩;have a7:=Hd p;have av:=Hd hs;have au:=Hd (ar.out.later ax);clear p ax hs))
 have aw:=Hd (a0.out.trans (a7.out.mono a0.out.size));have ai:=Hd (a2.out.below a7.out a2.out.lt);obtain⟨pl,ay⟩:∃n,a9.length=n:=⟨_,rfl⟩
 obtain⟨ql,az⟩:∃n,q.length=n:=⟨_,rfl⟩
 have aj:=Hd (fun(y:World) (i:Below wr.heap.size wr y) (x:Nat)=>JJ (av.out.later i) (by omega) x);have ak:=Hd (fun(y:World) (i:Below wr.heap.size wr y) (x:Nat)=>JJ (au.out.later i) (by omega) x);rw[ay]at aj ⊢;rw[az]at ak ⊢;generalize b0:g.top=tp at *;have b3:=Hd b0;clear x0 x1 x2 x3 xl av au ar ab an aq a8 HD ah al ao a5 a0 ad a2 b0 ay az;go_wp2_with fail
 go_loopw [7] (fun ss y=>∃s:Nat,1<=s/\s<=tp+1/\ss=.int .i64 s/\Hid (Below wr.heap.size wr y)) (fun ss _=>tp+1-(intOf ss).toNat)
 case atStart=>exact⟨1,by omega,by omega,rfl,Hd (Below.refl _ _)⟩
 case round=>
  obtain⟨s,b5,bb,rfl,t⟩:=hrel;rename World=>w5
  have a3:=Hd (aw.out.trans (t.out.mono aw.out.size));have l:=ai.out.below t.out ai.out.lt;have z0:=Ah.cell l 0;have z1:=Ah.cell l 1;have z2:=Ah.cell l 2;have z3:=Ah.cell l 3;have zl:=l.lt;simp at z0 z1 z2 z3;have HT:=Hd (b4.out w5 a3.out);by_cases b7:s<=tp
  ·have b8:(s:Int)<=(tp:Int):=by omega
   have hl:=HL.out s b5 (by rw[b3.out];omega);have H1:Hid (∀y,Below w5.heap.size w5 y->Calls Tryz.prog 45 #[.slice Ar pl cr,.int .i64 s] y fun e w'=>e=.returned (.bool true)/\w'=y):=Hd (fun y i=>by rw[<-hl.1];exact aj.out y (t.out.trans (i.mono t.out.size)) s);have H2:Hid (∀y,Below w5.heap.size w5 y->Calls Tryz.prog 46 #[.agg #[.slice J g.nt U,.slice C g.nn R,.slice I g.R.length T,.int .i64 g.s],.int .i64 s] y (Bb y (g.AV s))/\y.cell? ⟨w.heap.size,0,none⟩=some (.slice J g.nt U)/\y.cell? ⟨w.heap.size,1,none⟩=some (.slice C g.nn R)/\y.cell? ⟨w.heap.size,2,none⟩=some (.slice I g.R.length T)/\y.cell? ⟨w.heap.size,3,none⟩=some (.int .i64 g.s)/\w.heap.size<y.heap.size):=Hd (fun y i=>⟨b2.out y (a3.out.trans (i.mono a3.out.size)) s,(i.cell zl).trans z0,(i.cell zl).trans z1,(i.cell zl).trans z2,(i.cell zl).trans z3,A0 zl i.size⟩)
   have H3:Hid (g.AV s=true->∀y,Below w5.heap.size w5 y->Calls Tryz.prog 45 #[.slice Ap ql cp,.int .i64 s] y fun e w'=>e=.returned (.bool true)/\w'=y):=Hd (fun hn y i=>by rw[<-hl.2 hn];exact ak.out y (t.out.trans (i.mono t.out.size)) s);clear hl l;generalize g.AV s=a at *;cases a with
   | false=>
    go_wp2_with (first
     | (go_at_call 44;refine HT.out.mono ?_;rintro e w6 ⟨rfl,o⟩;have a1:=Hd o;obtain⟨h2,z0,z1,z2,z3,zl⟩:=H2.out w6 o;have ae:=Hd h2;have aa:=Hd (H1.out w6 o);clear h2 o)
     | (go_at_call 45;with_reducible refine aa.out.mono ?_;rintro e w7 ⟨rfl,rfl⟩)
     | (go_at_call 46;refine ae.out.mono ?_;rintro e w8 ⟨rfl,a4⟩;have a6:=Hd (a1.out.trans (a4.mono a1.out.size));clear a4))
    go_roundw
    case rel=>exact⟨s+1,by omega,by omega,by go_num,Hd (t.out.trans (a6.out.mono t.out.size))⟩
    case measure=>simp[intOf];omega
   | true=>
    have H4:=Hd (H3.out rfl);clear H3;go_wp2_with (first
     | (go_at_call 44;refine HT.out.mono ?_;rintro e w6 ⟨rfl,o⟩;have a1:=Hd o;obtain⟨h2,z0,z1,z2,z3,zl⟩:=H2.out w6 o;have ae:=Hd h2;have aa:=Hd (H1.out w6 o);clear h2 o)
     | (go_at_call 45;with_reducible refine aa.out.mono ?_;rintro e w7 ⟨rfl,rfl⟩)
     | (go_at_call 46;refine ae.out.mono ?_;rintro e w8 ⟨rfl,a4⟩;have a6:=Hd (a1.out.trans (a4.mono a1.out.size));have b1:=Hd (H4.out w8 a6.out);clear a4)
     | (go_at_call 45;with_reducible refine b1.out.mono ?_;rintro e w9 ⟨rfl,rfl⟩))
    go_roundw
    case rel=>exact⟨s+1,by omega,by omega,by go_num,Hd (t.out.trans (a6.out.mono t.out.size))⟩
    case measure=>simp[intOf];omega
  ·obtain rfl:s=tp+1:=by omega
   go_wp2_with (go_at_call 44;refine HT.out.mono ?_;rintro e w6 ⟨rfl,o⟩;have a1:=Hd o;clear o)
   refine bodyPost_ret (v:=.tuple #[.int .i64 0,.int .i64 0]) (by simp[results,Tryz.f11,go_sem]) rfl ?_;exact⟨rfl,a3.out.trans (a1.out.mono a3.out.size)⟩
section
set_option maxRecDepth 1000000
def Oe(g:Gz):Bool:=match IE g 50 0,Ht g 1000 (2 ^ g.s) [g.s] with
 | some Q,some P=>(List.range (g.top+1)).all fun x=>x==0||(P.testBit x&&(!g.AV x||Q.testBit x))
 | _,_=>false
theorem ZN{g:Gz}(h:Oe g=true):∃P Q,IE g 50 0=some Q/\Ht g 1000 (2 ^ g.s) [g.s]=some P/\Live g P Q:=by
 unfold Oe at h;split at h
 ·rename_i Q P o l
  refine⟨P,Q,o,l,fun x t C=>?_⟩;have i:=List.all_eq_true.1 h x (List.mem_range.2 (by omega));simp only[Bool.or_eq_true,Bool.and_eq_true,beq_iff_eq,Bool.not_eq_true']at i;rcases i with i|⟨i,j⟩
  ·omega
  ·exact⟨i,fun p=>j.resolve_left (by rw[p];decide)⟩
 ·cases h
def Nn(g:Gz):Bool:=match I1 g 50 (-1) [],Iw g 50 0 [g.s] with
 | some Q,some P=>(List.range (g.top+1)).all fun x=>x==0||((DP P (g.top+1)).contains x&&(!g.AV x||(DP Q (g.top+1)).contains x))
 | _,_=>false
theorem Xq{g:Gz}(h:Nn g=true):∃P Q,I1 g 50 (-1) []=some Q/\Iw g 50 0 [g.s]=some P/\Qn g (DP Q (g.top+1)) (DP P (g.top+1)):=by
 unfold Nn at h;split at h
 ·rename_i Q P o l
  refine⟨P,Q,o,l,fun x t C=>?_⟩;have i:=List.all_eq_true.1 h x (List.mem_range.2 (by omega));simp only[Bool.or_eq_true,Bool.and_eq_true,beq_iff_eq,Bool.not_eq_true']at i;rcases i with i|⟨i,j⟩
  ·omega
  ·exact⟨i,fun p=>j.resolve_left (by rw[p];decide)⟩
 ·cases h
theorem Xk:Oe pz=true:=by decide +kernel
theorem fG:Nn pz=true:=by decide +kernel
theorem Us{w:World}{v:Value}(C:GN w v pz):Calls Tryz.prog 12 #[v] w fun e w'=>e=.returned (.tuple #[.slice none 0 0,.int .i64 0])/\Below w.heap.size w w':=by
 have a4:=Hd (fun(y:World) (hy:Below w.heap.size w y)=>Pu (C.later hy));have a2:Hid (∀y i,FN y i pz BK Ce G7->Calls Tryz.prog 25 #[i,.int .i64 pz.nt] y fun e w'=>e=.returned (.slice none 0 0)/\Below y.heap.size y w'):=Hd (fun y i h=>QS h NU Qf);have a3:Hid (∀y i,FN y i pz BK Ce G7->∃a n1 j c1 n2 l c2,i=.agg #[.int .i64 a,.slice j n1 c1,.slice l n2 c2]):=Hd (fun y i h=>by obtain⟨j,cL,l,co,e⟩:=h.form NU.k;exact⟨_,_,_,_,_,_,_,e⟩);obtain⟨R,cT,J,cN,P,cR,rfl,-,-⟩:=C.open_;have o:=Hd (Ay w (.cells #[.slice R pz.nt cT,.slice J pz.nn cN,.slice P pz.R.length cR,.int .i64 pz.s] 32))
 have U:=Hd (Ah.new w 32 #[.slice R pz.nt cT,.slice J pz.nn cN,.slice P pz.R.length cR,.int .i64 pz.s]);clear C;generalize pz.nt=n1 at *;generalize pz.nn=n2 at *;generalize pz.R.length=n3 at *;generalize pz.s=n4 at *;go_enter Tryz.func12,Tryz.ntmps12
 go_wp2_with (first
  | (
   go_at_call 24;refine(a4.out _ o.out).mono ?_;rintro e w2 ⟨i,rfl,p,t⟩
   obtain⟨a,m1,j,c1,m2,l,c2,rfl⟩:=a3.out _ _ p;have HC:=Hd (a2.out _ _ (p.later (Ay w2 (.cells #[.int .i64 a,.slice j m1 c1,.slice l m2 c2] 60))));have T:=Hd (o.out.trans (t.mono o.out.size));have I:=U.out.below t U.out.lt;have x0:=Ah.cell I 0;have xl:=I.lt;simp at x0;clear p t I)
  | (go_at_call 25;refine HC.out.mono ?_;rintro e w3 ⟨rfl,a0⟩;have a1:=Hd (T.out.trans (((Ay w2 (.cells #[.int .i64 a,.slice j m1 c1,.slice l m2 c2] 60)).trans (a0.mono (by simp))).mono T.out.size));clear a0))
 refine bodyPost_ret (v:=.tuple #[.slice none 0 0,.int .i64 0]) (by simp[results,Tryz.f12,go_sem]) rfl ?_;exact⟨rfl,a1.out⟩
end
theorem gP{w:World}(hm:Gk w)(hT:Hn w):Calls Tryz.prog 4 #[] w (fun e w'=>e=.returned (.bool true)/\Below w.heap.size w w'):=by
 have HA:=Hd (fun y (l:Below w.heap.size w y)=>XV (hm.later l) (hT.later l));have HM:=Hd (fun y (l:Below w.heap.size w y)=>dV (hm.later l));have HP:=Hd (OU hm);obtain⟨au,Q,hq,hp,hl⟩:=ZN Xk;obtain⟨P9,Q9,ao,an,al⟩:=Xq fG;have ai:=Hd (fun(y:World) (v:Value) (h:GP y v)=>Wq h.gn hq hp hl);have ah:=Hd (fun(y:World) (v:Value) (h:GP y v)=>UQ h.gn ao an al);clear hm hT hq hp hl ao an al;go_enter Tryz.func4,Tryz.ntmps4
 go_upto_region 6 with(first
  | (
   go_at_call 7;refine HP.out.mono ?_;rintro e o ⟨v,rfl,hg,ak⟩
   obtain⟨R,n1,cT,J,n2,T,P,n3,U,n4,hv⟩:∃R n1 cT J n2 T P n3 U n4,v=.agg #[.slice R n1 cT,.slice J n2 T,.slice P n3 U,.int .i64 n4]:=by obtain⟨R,cT,J,T,P,U,h,-,-⟩:=hg.gn.open_;exact⟨_,_,_,_,_,_,_,_,_,_,h⟩
   subst hv;have HG:=Hd (fun y (l:Below o.heap.size o y)=>hg.later l);have a2:=Hd ak;have ae:=Hd (Ah.new o 32 #[.slice R n1 cT,.slice J n2 T,.slice P n3 U,.int .i64 n4]);have a8:=Hd (Ay o (.cells #[.slice R n1 cT,.slice J n2 T,.slice P n3 U,.int .i64 n4] 32));clear hg ak)
  | (
   go_at_call 10;refine(ai.out _ _ (HG.out _ a8.out)).mono ?_;rintro e w2 ⟨rfl,a9⟩
   have a4:=Hd (a8.out.trans (a9.mono a8.out.size));have p:=Hd (ae.out.below a9 ae.out.lt);have x0:=Ah.cell p.out 0;have x1:=Ah.cell p.out 1;have x2:=Ah.cell p.out 2;have x3:=Ah.cell p.out 3;have xl:=p.out.lt;simp at x0 x1 x2 x3;clear a9)
  | (
   go_at_call 11;refine(ah.out _ _ (HG.out _ a4.out)).mono ?_;rintro e w3 ⟨rfl,aa⟩
   have a5:=Hd (a4.out.trans (aa.mono a4.out.size));have t:=Hd (p.out.below aa p.out.lt);clear x0 x1 x2 x3 xl;have x0:=Ah.cell t.out 0;have x1:=Ah.cell t.out 1;have x2:=Ah.cell t.out 2;have x3:=Ah.cell t.out 3;have xl:=t.out.lt;simp at x0 x1 x2 x3;clear aa)
  | (
   go_at_call 12;refine(Us (HG.out _ a5.out).gn).mono ?_;rintro e w4 ⟨rfl,ab⟩
   have a6:=Hd (a5.out.trans (ab.mono a5.out.size));have af:=Hd (t.out.below ab t.out.lt);have ar:=Hd (HM.out w4 (a2.out.trans (a6.out.mono a2.out.size)));clear x0 x1 x2 x3 xl ab)
  | (
   go_at_call 13;refine ar.out.mono ?_;rintro e C ⟨tb,rfl,ht,ad⟩
   have a7:=Hd (a6.out.trans (ad.mono a6.out.size));have ag:=Hd (af.out.below ad af.out.lt);have HT:=Hd ht;clear ht ad))
 obtain⟨u,hu,hc⟩:=HT.out.Jq;obtain⟨I,aj,a1⟩:∃I:World->Prop,(∀w',I w'->Below C.heap.size C w')/\(∀w',Below C.heap.size C w'->I w'):=⟨_,fun _ h=>h,fun _ h=>h⟩
 have hI:I C.drew:=a1 _ (FW (Below.refl _ _));have av:Nonempty (Wd I):=⟨⟨_,hI⟩⟩
 have i:=Hd (fun x:Wd I=>aj _ x.ok);have a0:Hid (∀y,Below C.heap.size C y->y.cell? ⟨o.heap.size,0,none⟩=some (.slice R n1 cT)/\y.cell? ⟨o.heap.size,1,none⟩=some (.slice J n2 T)/\y.cell? ⟨o.heap.size,2,none⟩=some (.slice P n3 U)/\y.cell? ⟨o.heap.size,3,none⟩=some (.int .i64 n4)):=Hd (fun y l=>by have h:=ag.out.below l ag.out.lt;exact⟨h.cell 0,h.cell 1,h.cell 2,h.cell 3⟩)
 have a3:=Hd (a2.out.trans (a7.out.mono a2.out.size));have g0:=fun y:Wd I=>(a0.out _ (i.out y)).1
 have g1:=fun y:Wd I=>(a0.out _ (i.out y)).2.1
 have g2:=fun y:Wd I=>(a0.out _ (i.out y)).2.2.1
 have g3:=fun y:Wd I=>(a0.out _ (i.out y)).2.2.2
 have CG:=Hd (fun y:Wd I=>Fh (I:=I) (v:=u) ((hc y.w (i.out y)).mono fun e w' j=>⟨j.1,a1 _ ((i.out y).trans (j.2.mono (i.out y).size))⟩));have CS:=Hd (fun y:Wd I=>Fh (I:=I) (v:=.bool true) ((GP.same (hu.later (i.out y)) (HG.out y.w (a7.out.trans ((i.out y).mono a7.out.size)))).mono fun e w' j=>⟨j.1,a1 _ ((i.out y).trans (j.2.mono (i.out y).size))⟩));have CA:=Hd (fun y:Wd I=>Fh (I:=I) (v:=.bool true) ((HA.out y.w (a3.out.trans ((i.out y).mono a3.out.size))).mono fun e w' j=>⟨j.1,a1 _ ((i.out y).trans (j.2.mono (i.out y).size))⟩));clear aj a1 hc hu a0 HT HA HM HP ai ah
 refine Iy I (by kernel_rfl) (by kernel_rfl) hI ?_;repeat (go_big_quiet_step (first|(go_at_call 15;exact CG.out _)|(go_at_call 14;exact CS.out _)|(go_at_call 9;exact CA.out _)))
 refine wpQuiet_nil ?_;rintro _ ⟨x,rfl⟩;have aq:=Hd (a3.out.trans ((i.out x).mono a3.out.size));clear g0 g1 g2 g3;go_wp2;go_ret;exact⟨rfl,aq.out⟩
end Go.Proofs.YthaacmablcpdfaaGreatDoor
