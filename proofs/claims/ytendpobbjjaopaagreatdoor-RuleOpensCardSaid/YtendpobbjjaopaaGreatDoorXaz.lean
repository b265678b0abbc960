/- . -/
import Derived.Test.YtendpobbjjaopaaGreatDoorXaj
set_option linter.all false
set_option maxRecDepth 100000
set_option maxHeartbeats 16000000
namespace Go.Proofs.YtendpobbjjaopaaGreatDoor
open Go.RowKit Go.Proofs.Tryz
open Value renaming slice→oG,int→oH,pointer→oI,string→oJ
open Option renaming some→oM,none→oN
open IntKind renaming i64→oO
open Obj renaming cells→oP
open Ending renaming returned→oQ
open World renaming cell?→oT
open Go renaming World→oU,Value→oV
variable{B c2 k mb n:Nat}{D:DataW Unit}{L:List AP}{s:List UInt8}{i j r:List Tk}{tb:Option Nat}{rv:oV}{a:List PR}{S:List PS×List Tk}{H:Except Bp (Bl×List Tk)}{e:TypeId}{xs:List oV}{cs:Array oV}{f:Bp}
section
open Go.RowKit Go.Proofs.Tryz Go.Maps
def On{w:oU}{L:List (List UInt8)}(h:w.ownsMap Tryz.prog 9 (plainElem Tryz.prog 3) mb n D)(p:Jm D L)(C:s.length<=8192):(Instr.lookup 133 (.map (oM mb)) (oJ (str s)) false).run Tryz.prog w=.ok (oH oO (L.count s)) w:=by have t:=WideMaps.keyOf_string_mk underlying9 (s:=str s) (by rw[Lr];unfold maxLen;omega);obtain⟨c,j,l,_⟩:=h.lookup_int IY underlying133 underlying3 (LG w) t;rw[j];have o:=p s;have i:D.atKey (Cj s) (.lit (.int oO 0))=.lit (.int oO c):=l;rw[o]at i;simp only[DataW.lit.injEq,Lit.int.injEq,true_and]at i;rw[<-i]
def Xi{w:oU}(h:w.ownsMap Tryz.prog 9 (plainElem Tryz.prog 3) mb n D)(l:n<=100000)(o:s.length<=8192){c:Nat}(j:c<=100000) :
  ∃w',(Instr.mapUpdate 133 (.map (oM mb)) (oJ (str s)) (oH oO ((c:Int)+1))).run Tryz.prog w=.ok () w'/\w'.ownsMap Tryz.prog 9 (plainElem Tryz.prog 3) mb (n+1) (D.put (Cj s) (.lit (.int oO (c+1))))/\w.grownBy w' (oM mb):=by
 have i:=WideMaps.keyOf_string_mk underlying9 (s:=str s) (by rw[Lr];unfold maxLen;omega);exact h.update IY underlying133 oB i (plainElem_int underlying3 (WalkArith.wf_i64 nX))
def J8.drew{w j:oU}{rb o:Nat}{l:List Tk}{x:Bl}{p t I:oV}{C:List Bu}{q:Bu}(h:J8 w j B rb mb o tb l x p t I rv C q D):J8 w j.drew B rb mb o tb l x p t I rv C q D:=by have i:Am (fun _=>False) j j.drew:=(Am.refl _ _).drew;exact⟨h.Bw.drew,i.own h.rules (fun _ _=>id),fun r J=>(h.Hz r J).AA i (fun _ _ _=>id),Ed h.map i id,i.Aj h.Aj id,h.AA.drew⟩
def mg(w:oU)(B rb mb:Nat)(tb:Option Nat)(x:Bl)(i j C:oV)(p:List Bu)(l:List Tk)(e:Ending)(w':oU):Prop:=
 Am (fun k=>k=rb\/B<=k\/k=mb) w w'/\match CT l with
 | .ok (r,o)=>e=oQ (.tuple #[])/\∃t q D,q.r=r/\DP w' B rb mb tb o x i j C t (p++[q]) D
 | .error f=>BY f e
def Ks(l:List Tk):(l.dropWhile Bi).length<=l.length:=(List.dropWhile_sublist Bi).length_le
def Yi{t l:Tk}(p:t.k=1)(C:l.k=3){a:List PS}{o:Tk}(J:DQ (i.length+1) [BU i] (i.dropWhile Bi)=(a,o::j))(I:o.k=5):CT (t::l::i)=.ok (⟨t,a⟩,j):=by simp[CT,p,Cz,C,J,I]
def WW{t o:Tk}(p:t.k=1)(C:o.k=3){a:List PS}{j:Tk}{l:List Tk}(J:DQ (i.length+1) [BU i] (i.dropWhile Bi)=(a,j::l))(I:j.k≠5):CT (t::o::i)=.error (DR (j::l)):=by simp[CT,p,Cz,C,J,I]
def Kw(S:List PS×List Tk)(i:List GS)(rest:List Tk):Prop:=∃f,rest.length<=f/\S=DQ f (i.map GS.s) rest
theorem Kw.step{j:List GS}{t:Tk}(h:Kw S j (t::r))(l:t.k=4)(q:GS)(o:q.s=BU r):Kw S (j++[q]) (r.dropWhile Bi):=by
 obtain⟨f,i,h⟩:=h;cases f with
 | zero=>simp at i
 | succ f=>have:=Ks r;simp at i;refine⟨f,nX,?_⟩;rw[h,DQ,if_pos (by simp[Cz,l])];simp[o]
theorem Kw.last{i:List GS}{t:Tk}(h:Kw S i (t::r))(l:t.k≠4):S=(i.map GS.s,t::r):=by
 obtain⟨f,j,h⟩:=h;cases f with
 | zero=>simp at j
 | succ f=>rw[h,DQ,if_neg (by simp[Cz,l])]
def OM{w:oU}{rb:Nat}{l:List Tk}{x:Bl}{dv kv sv:oV}{p:List Bu}(h:DP w B rb mb tb l x dv kv sv rv p D)(bi:∀u∈l,u.s.length<=8192):Calls Tryz.prog 99 #[oI (oM ⟨rb,0,oN⟩)] w (mg w B rb mb tb x dv kv sv p l):=by
 obtain⟨t,r,rfl⟩:=h.Bw.A8.ended.cons;have bj:=bi t oA;have b2:=Hd bj;clear bi bj;obtain⟨Ar,cr,rfl⟩:=BK h.rules;by_cases P:t.k=1
 ·obtain⟨ai,bd⟩:=h.Bw.A8.ended.tail nX
  obtain⟨t2,i,rfl⟩:=ai.cons;have ae:=Hd (h.Bw.A8.want 1 1 rfl P nX);have ba:=h.Bw.A8.lt;have cj:=h.lr;simp at cj;have T:=Hd h;by_cases h3:t2.k=3
  ·obtain⟨b7,cm⟩:=ai.tail nX
   obtain⟨t3,r3,cn⟩:=b7.cons;have ax:=Hd P;have ao:=Hd h3;have an:=Hd (Ks i);clear h P h3 ai bd b7 cm cn;go_enter func99,ntmps99
   go_wp2_with (first
    | (
      go_at_call 146;(with_reducible refine ae.out.mono ?_);intro e w1 o;obtain⟨rfl,a3,a9⟩:=o
      have al:=Hd a3;have cp:=a3.size;have aa:=a9.AA ((Am.refl (fun _=>False) w1).alloc (oP #[oH oO t.k,oJ (str t.s),oH oO t.p,oG oN 0 0] 177)) id (fun _ _=>id);have bl:=Hd (Ah.new w1 177 #[oH oO t.k,oJ (str t.s),oH oO t.p,oG oN 0 0]);have aq:=Hd (aa.want 3 3 rfl ao.out nX);clear a3 a9 aa)
    | (
      go_at_call 146;(with_reducible refine aq.out.mono ?_);intro e w2 o;obtain⟨rfl,au,bh⟩:=o
      have b6:=au.Aj bl.out nX;have bx:Hid (Ht w rb dv kv sv (oG Ar p.length cr) (.map (oM mb)) tb w1.heap.size t (oG oN 0 0) [] i w2):=Hd ⟨bh,b6,World.ownsRow_nil _ _ _ _,(by simp),(al.out.alloc _).next au,cp,ba.1,ba.2⟩;clear au bh b6))
   generalize w1.heap.size=bb at *;have HD:=Hd bx.out.drew;have c8:=Hd (RM HD.out.A8 nX);have b3:=HD.out.Aj.cell 3;have u3:=HD.out.Aj.frozen 3;have d2:=HD.out.AA.size;simp at b3;go_region_law (first
    | (
      refine ER TI (.tmp 9) (.tmp 12) ?_ ?_ (base:=w.heap.size) (n:=0) (m:=1) (N:=1) (v:=oG oN 0 0) (src:=oG (oM ⟨w3.heap.size,0,oN⟩) 1 1) (xs:=[]) (news:=[oG A (BU i).l.length c,oH oO (BU i).p]) ?_ ?_ ?_ ?_ ?_ ?_ ?_ ?_ ?_
      · rfl
      · rfl
      · rfl
      · rfl
      · exact World.ownsRow_nil _ _ _ _
      · exact Vq w3 _ _ _ _
      · rfl
      · unfold maxLen;omega
      · omega
      · simp;omega
      intro A4 c4 w4 r1 a2 r3;have HF:=Hd (HD.out.rel rfl bm.out bz.out bu.out r1 a2);have a0:=a2.Aj (bk.out.alloc _) (.inr nY);have z0:=a0.cell 3;have z1:=a0.frozen 3;simp at z0;clear r1 a2 r3 a0)
    | (
      go_simp;go_at_call 147;refine c8.out.mono ?_;intro e w3 o;obtain⟨A,c,rfl,af,av,be⟩:=o;have a7:=HD.out.later af av;have y0:=a7.Aj.cell 3;have y1:=a7.Aj.frozen 3;simp at y0;have bk:=Hd a7.Aj;have cs:=a7.Aj.lt;have bm:=Hd af;have bz:=Hd av;have bu:=Hd be;have d0:w2.heap.size<=w3.heap.size:=af.size;clear af av be a7))
   all_goals go_wp2
   all_goals
    have b9:([⟨BU i,oG A (BU i).l.length c⟩]:List GS).length+(i.dropWhile Bi).length<=100000:=by have:=an.out;simp;omega
    have bq:=Hd (And.intro b9 an.out);clear b9;go_loopg [] (i.dropWhile Bi).length (fun n wr=>∃(bv:oV) (j:List GS) (rest:List Tk),n=rest.length/\Hid (Ht w rb dv kv sv (oG Ar p.length cr) (.map (oM mb)) tb bb t bv j rest wr)/\Hid (Kw (DQ (i.length+1) [BU i] (i.dropWhile Bi)) j rest)/\Hid (j.length+rest.length<=100000/\rest.length<=i.length))
    case atStart=>exact⟨oG A4 1 c4,[⟨BU i,oG A (BU i).l.length c⟩],i.dropWhile Bi,rfl,Hd HF.out,Hd ⟨i.length+1,by have:=an.out;omega,rfl⟩,bq⟩
    case round=>
     obtain⟨bv,j,rest,rfl,I,b4,br⟩:=hrel;obtain⟨t4,r4,rfl⟩:=I.out.A8.ended.cons;have a4:=Hd (I.out.A8.is 4 4 rfl);obtain⟨Ab,cb,rfl⟩:=BK I.out.own;obtain⟨ck,cl⟩:=br.out;simp at ck cl;by_cases U:t4.k=4
     · have a6:(t4.k==4)=true:=by simp[U]
       rw[a6]at a4;have ca:=Hd (I.out.A8.take nX);have ay:=Hd U;clear a6 U;go_wp2_with (first
         | (go_at_call 96;(with_reducible refine a4.out.mono ?_);rintro e w' ⟨rfl,ad⟩;subst ad)
         | (
           go_at_call 98;refine ca.out.mono ?_;intro e w5 o;obtain⟨rfl,a5,ab⟩:=o
           have J:=Hd (I.out.later a5 ab);clear a5 ab))
       have C:=Hd J.out.drew;have c9:=Hd (RM C.out.A8 nX);have b5:=C.out.Aj.cell 3;have u5:=C.out.Aj.frozen 3;have d3:=C.out.AA.size;simp at b5;go_region_law (first
         | (
           refine ER TI (.tmp 20) (.tmp 23) ?_ ?_ (base:=w.heap.size) (n:=j.length) (m:=1) (N:=j.length+1) (v:=oG Ab j.length cb) (src:=oG (oM ⟨w6.heap.size,0,oN⟩) 1 1) (xs:=j.flatMap GS.cells) (news:=[oG A6 (BU r4).l.length c6,oH oO (BU r4).p]) ?_ ?_ ?_ ?_ ?_ ?_ ?_ ?_ ?_
           · rfl
           · rfl
           · rfl
           · rfl
           · exact az.out.own.alloc _
           · exact Vq w6 _ _ _ _
           · rfl
           · unfold maxLen;omega
           · omega
           · simp;omega
           intro A7 c7 w7 r1 a2 r3;have HG:=Hd (C.out.rel rfl bn.out c0.out bw.out r1 a2);have a0:=a2.Aj (az.out.Aj.alloc _) (.inr nY);have z0:=a0.cell 3;have z1:=a0.frozen 3;simp at z0;clear r1 a2 r3 a0)
         | (
           go_simp;go_at_call 147;refine c9.out.mono ?_;intro e w6 o;obtain⟨A6,c6,rfl,ag,a1,bf⟩:=o;have a8:=C.out.later ag a1;have y0:=a8.Aj.cell 3;have y1:=a8.Aj.frozen 3;simp at y0;have az:=Hd a8;have cu:=a8.Aj.lt;have bn:=Hd ag;have c0:=Hd a1;have bw:=Hd bf;have d1:w5.heap.size<=w6.heap.size:=ag.size;clear ag a1 bf a8))
       all_goals go_wp2
       all_goals have cv:=Ks r4
       all_goals go_roundg (r4.dropWhile Bi).length
       all_goals first
         | (case measure=>simp;omega)
         | (case rel=>exact⟨oG A7 (j.length+1) c7,j++[⟨BU r4,oG A6 (BU r4).l.length c6⟩],r4.dropWhile Bi,rfl,Hd HG.out,Hd (b4.out.step ay.out _ rfl),Hd ⟨oC,nX⟩⟩)
     · have a6:(t4.k==4)=false:=by simp[U]
       rw[a6]at a4;have b0:=Hd (b4.out.last U);have ay:=Hd U;clear a6 U;by_cases h5:t4.k=5
       · have ar:=Hd (I.out.A8.want 5 5 rfl h5 nX)
         have R:=Hd (Yi ax.out ao.out b0.out h5);clear h5;go_wp2_with (first
          | (go_at_call 96;(with_reducible refine a4.out.mono ?_);rintro e w' ⟨rfl,ad⟩;subst ad)
          | (
             go_at_call 146;refine ar.out.mono ?_;intro e w5 o;obtain⟨rfl,a5,ab⟩:=o
             have J:=Hd (I.out.later a5 ab);clear a5 ab))
         have C:=Hd J.out.drew;have aw:=Hd (T.out.Bw.AA C.out.AA (fun _ h=>h) C.out.A8 oC);have b1:=Hd (C.out.AA.own T.out.rules (C0 T.out.rules T.out.Bw.EA));obtain⟨_,_,_,e4,e5,cy⟩:=J.out.A8.cells;have x0:=J.out.Aj.cell 0;have x1:=J.out.Aj.cell 1;have x2:=J.out.Aj.cell 2;have x3:=J.out.Aj.cell 3;simp at x0 x1 x2 x3;have cc:B<=w5.heap.size:=aw.out.bB;have ct:=J.out.Aj.lt;go_region_law (
              refine ER gT (.tmp 32) (.tmp 34) ?_ ?_ (base:=B) (n:=p.length) (m:=1) (N:=p.length+1) (v:=oG Ar p.length cr) (src:=oG (oM ⟨w5.heap.size,0,oN⟩) 1 1) (xs:=p.flatMap Bu.cells) (news:=[oH oO t.k,oJ (str t.s),oH oO t.p,oG Ab j.length cb]) ?_ ?_ ?_ ?_ ?_ ?_ ?_ ?_ ?_
              ·rfl
              ·rfl
              ·rfl
              ·rfl
              ·exact b1.out.alloc _
              ·exact Be.Aj (c:=1) (Ah.new w5.drew 177 #[oH oO t.k,oJ (str t.s),oH oO t.p,oG Ab j.length cb]) rfl oE
              ·rfl
              ·unfold maxLen;omega
              ·omega
              ·simp at cc ⊢;omega
              intro A6 c6 w6 q1 q2 q3;have ak:=Hd (dR (o:=oP #[oH oO t.k,oJ (str t.s),oH oO t.p,oG Ab j.length cb] 177) T.out C.out oC q1 q3);have a1:=aw.out.grown (o:=oP #[oH oO t.k,oJ (str t.s),oH oO t.p,oG Ab j.length cb] 177) (B7 b1.out) q3.1;obtain⟨_,_,_,cA,_,_⟩:=a1.cells;have vA:=a1.frozen 4;clear q1 q2 q3 a1)
         all_goals go_wp2
         all_goals generalize cq:World.setCell w6 ⟨rb,4,oN⟩ (oG A6 (p.length+1) c6)=w7 at *
         all_goals clear cA vA e4 e5 x0 x1 x2 x3 cq
         all_goals have aj:=Hd ak.out.drew
         all_goals obtain⟨_,_,_,_,e5,_⟩:=ak.out.Bw.A8.cells
         all_goals have x1:=ak.out.Aj.cell 1
         all_goals simp at x1
         all_goals have cw:=On aj.out.map T.out.LS b2.out
         all_goals have ch:(p.map fun r=>r.left.s).count t.s<=(p.map fun r=>r.left.s).length:=List.count_le_length
         all_goals simp at ch
         all_goals generalize ah:(p.map fun r=>r.left.s).count t.s=n0 at *
         all_goals obtain⟨w8,cx,bc,b8⟩:=Xi aj.out.map nX b2.out (c:=n0) nX
         all_goals have cz:IntKind.i64.wrap ((n0:Int)+1)=(n0:Int)+1:=IntWalk.i64_in _ nX
         all_goals have bt:=Hd bc
         all_goals have bp:=Hd b8
         all_goals have bo:=Hd ah
         all_goals clear bc b8 ah
         all_goals go_region
         all_goals go_end0
         all_goals have ah:=bo.out
         all_goals subst ah
         all_goals obtain⟨g1,g2⟩:=J8.last T.out oC aj.out bp.out bt.out
         all_goals refine⟨g2,?_⟩
         all_goals rw[R.out]
         all_goals exact⟨rfl,_,_,_,rfl,g1⟩
       · have ar:=Hd (I.out.A8.MK 5 5 rfl h5)
         have R:=Hd (WW ax.out ao.out b0.out h5);clear h5;go_wp2_with (first
          | (go_at_call 96;(with_reducible refine a4.out.mono ?_);rintro e w' ⟨rfl,ad⟩;subst ad)
          | (go_at_call 146;refine ar.out.mono ?_;rintro e w5 ⟨rfl,cg⟩))
         refine⟨rfl,(I.out.AA.mono (fun _ h=>.inl h)).next (.AJ cg),?_⟩;rw[R.out];exact BY.of rfl rfl
  ·have R:Hid (CT (t::t2::i)=.error (DR (t2::i))):=Hd (by simp[CT,P,Cz,h3])
   clear h P ai bd;go_enter func99,ntmps99
   go_wp2_with (first
    | (
      go_at_call 146;(with_reducible refine ae.out.mono ?_);intro e w1 o;obtain⟨rfl,a3,a9⟩:=o
      have al:=Hd a3;have aa:=a9.AA ((Am.refl (fun _=>False) w1).alloc (oP #[oH oO t.k,oJ (str t.s),oH oO t.p,oG oN 0 0] 177)) id (fun _ _=>id);have aq:=Hd (aa.MK 3 3 rfl h3);clear a3 a9 aa)
    | (go_at_call 146;(with_reducible refine aq.out.mono ?_);rintro e w2 ⟨rfl,cf⟩))
   refine⟨rfl,((al.out.mono (fun _ h=>.inl h)).alloc _).next (.AJ cf),?_⟩;rw[R.out];exact BY.of rfl rfl
 ·have ae:=Hd (h.Bw.A8.MK 1 1 rfl P)
  have R:Hid (CT (t::r)=.error (DR (t::r))):=Hd (by simp[CT,P]);clear h P;go_enter func99,ntmps99
  go_wp2_with (go_at_call 146;refine ae.out.mono ?_;rintro e w1 ⟨rfl,cd⟩)
  refine⟨rfl,.AJ cd,?_⟩;rw[R.out];exact BY.of rfl rfl
end
section
open Go.RowKit Go.Proofs.Tryz Go.Maps
def PV(l:List Tk):∀u∈l.dropWhile Bi,u∈l:=fun u i=>(List.dropWhile_sublist Bi).subset i
theorem MA{x o:Bl}{l:List Tk}(h:C8 x l=.ok (o,j)):j.length<l.length/\∀u∈j,u∈l:=by
 cases l with
 | nil=>cases h
 | cons t r=>
  simp only[C8]at h;split at h
  ·split at h
   ·cases h
   ·injection h with h
    obtain⟨rfl,rfl⟩:=Prod.mk.inj h;have:=Ks r;exact⟨oC,fun u i=>List.mem_cons_of_mem _ (PV r u i)⟩
  split at h
  ·split at h
   ·injection h with h
    obtain⟨rfl,rfl⟩:=Prod.mk.inj h;exact⟨oC,fun u i=>List.mem_cons_of_mem _ (List.mem_of_mem_drop i)⟩
   ·cases h
  ·cases h
theorem kK(f:Nat):∀(a:List PS) (l:List Tk),(DQ f a l).2.length<=l.length/\∀u∈(DQ f a l).2,u∈l:=by
 induction f with
 | zero=>intro a l;exact⟨Ay _,fun u h=>h⟩
 | succ f o=>
  intro a l;unfold DQ;split
  ·obtain⟨p,i⟩:=o (a++[BU (l.drop 1)]) ((l.drop 1).dropWhile Bi)
   have:=Ks (l.drop 1);have t:(l.drop 1).length<=l.length:=by simp
   exact⟨nX,fun u j=>List.mem_of_mem_drop (PV _ u (i u j))⟩
  ·exact⟨Ay _,fun u h=>h⟩
theorem Ls{r:PR}{l:List Tk}(h:CT l=.ok (r,i)):i.length<l.length/\∀u∈i,u∈l:=by
 cases l with
 | nil=>cases h
 | cons t r=>
  simp only[CT]at h;split at h
  ·cases h
  split at h
  ·split at h
   ·injection h with h
    obtain⟨rfl,rfl⟩:=Prod.mk.inj h;obtain⟨p,j⟩:=kK r.length [BU (r.drop 1)] ((r.drop 1).dropWhile Bi);have:=Ks (r.drop 1);have C:(r.drop 1).length<=r.length:=by simp
    refine⟨by rw[List.length_drop,List.length_cons];omega,fun u o=>List.mem_cons_of_mem _ (List.mem_of_mem_drop (PV _ u (j u (List.mem_of_mem_drop o))))⟩
   ·cases h
  ·cases h
def Jc(H:Except Bp (Bl×List Tk))(x:Bl)(l:List Tk):Prop:=∃f,l.length<f/\H=FQ f x l
theorem Jc.step{x o:Bl}{l:List Tk}(h:Jc H x l)(p:Cz 6 l=false)(i:C8 x l=.ok (o,j)):Jc H o j:=by
 obtain⟨f,t,h⟩:=h;have:=(MA i).1;cases f with
 | zero=>omega
 | succ f=>exact⟨f,nX,by rw[h,FQ,if_neg (by simp[p])];simp[i]⟩
theorem Jc.fail{x:Bl}{l:List Tk}{e:Bp}(h:Jc H x l)(i:Cz 6 l=false)(j:C8 x l=.error e):H=.error e:=by
 obtain⟨f,o,h⟩:=h;cases f with
 | zero=>omega
 | succ f=>rw[h,FQ,if_neg (by simp[i])];simp[j]
theorem Jc.last{x:Bl}{l:List Tk}(h:Jc H x l)(i:Cz 6 l=true):H=.ok (x,l.drop 1):=by
 obtain⟨f,j,h⟩:=h;cases f with
 | zero=>omega
 | succ f=>rw[h,FQ,if_pos i]
def Jr(H:Except Bp (List PR))(a:List PR)(l:List Tk):Prop:=∃f,l.length<f/\H=FK f a l
theorem Jr.step{H:Except Bp (List PR)}{r:PR}{l:List Tk}(h:Jr H a l)(h0:Cz 0 l=false)(i:CT l=.ok (r,j)):Jr H (a++[r]) j:=by
 obtain⟨f,o,h⟩:=h;have:=(Ls i).1;cases f with
 | zero=>omega
 | succ f=>exact⟨f,nX,by rw[h,FK,if_neg (by simp[h0])];simp[i]⟩
theorem Jr.fail{H:Except Bp (List PR)}{l:List Tk}{e:Bp}(h:Jr H a l)(h0:Cz 0 l=false)(i:CT l=.error e):H=.error e:=by
 obtain⟨f,j,h⟩:=h;cases f with
 | zero=>omega
 | succ f=>rw[h,FK,if_neg (by simp[h0])];simp[i]
theorem Jr.last{H:Except Bp (List PR)}{l:List Tk}(h:Jr H a l)(h0:Cz 0 l=true):H=.ok a:=by
 obtain⟨f,i,h⟩:=h;cases f with
 | zero=>omega
 | succ f=>rw[h,FK,if_pos h0]
def mh(w:oU)(B rb mb:Nat)(tb:Option Nat)(l:List Tk)(e:Ending)(w':oU):Prop:=
 Am (fun k=>k=rb\/B<=k\/k=mb) w w'/\match FC l with
 | .ok y=>e=oQ (.tuple #[])/\∃p j o C t i D,i.map Bu.r=y.rules/\DP w' B rb mb tb p y j o C t i D
 | .error f=>BY f e
def DP.E0{w:oU}{rb:Nat}{l:List Tk}{x:Bl}{i j p:oV}{o:List Bu}(h:DP w B rb mb tb l x i j p rv o D)(R:List PR):DP w B rb mb tb l {x with rules:=R} i j p rv o D:=by obtain⟨⟨t,J,P,T,U,a6,a7,a8,a9,C,I⟩,b2,b3,b4,b5,b6,b7,b8⟩:=h;exact⟨⟨t,J,P,T,U,a6,a7,a8,a9,C,I⟩,b2,b3,b4,b5,b6,b7,b8⟩
def aE{w:oU}{rb:Nat}{l:List Tk}(h:C7 w B rb (oG oN 0 0) (.map (oM mb)) tb l ⟨[],[],[],[]⟩ (oG oN 0 0) (oG oN 0 0) (oG oN 0 0))(hm:w.ownsMap Tryz.prog 9 (plainElem Tryz.prog 3) mb 0 (.map []:DataW Unit))(b9:mb<B)(aq:mb≠rb)(ax:∀u∈l,u.s.length<=8192):() 65 #[(rb,0)] w (mh w B rb mb tb l):=by
 have be:l.length<=100000:=by have:=h.ld;simp at this;omega
 have HH:=Hd h;have ak:=Hd ax;have HM:=Hd hm;clear h ax hm;go_enter func65,ntmps65
 go_wp2;go_loopg [] l.length (fun n wr=>∃(x:Bl) (l':List Tk) (dv kv sv:oV),n=l'.length/\Hid (C7 wr B rb (oG oN 0 0) (.map (oM mb)) tb l' x dv kv sv)/\Hid (Am (fun k=>k=rb\/B<=k) w wr)/\Hid (Jc (FQ (l.length+1) ⟨[],[],[],[]⟩ l) x l')/\Hid ((∀u∈l',u∈l)/\l'.length<=l.length))
 case atStart=>exact⟨⟨[],[],[],[]⟩,l,_,_,_,rfl,HH,Hd (Am.refl _ _),Hd ⟨l.length+1,nX,rfl⟩,Hd ⟨fun u h=>h,Ay _⟩⟩
 case round=>
  obtain⟨x,l',dv,kv,sv,rfl,HR,HC,HT,T⟩:=hrel;obtain⟨a3,r,rfl⟩:=HR.A8.ended.cons;have U:=Hd (HR.A8.is 6 6 rfl);by_cases h6:a3.k=6
  ·have o:(a3.k==6)=true:=by simp[h6]
   rw[o]at U;have ab:=Hd (HT.last (by simpa [Cz] using o));have an:=Hd (HR.A8.take nX);clear o h6;have ai:=Hd (fun(R:oU) (J:Am (·=rb) wr R) (hs:Ct R rb dv kv sv (oG oN 0 0) (.map (oM mb)) tb r)=>(⟨HR.AA J (fun _ h=>h) hs oA,World.ownsRow_nil _ _ _ _,oA,Ed (Ed HM HC nX) J aq,Jm.start,b9,aq,by have:=T.2;simp at this ⊢;omega⟩:DP R B rb mb tb r x dv kv sv (oG oN 0 0) [] (.map [])));have al:=Hd (fun u (t:u∈r)=>ak u (T.1 u (List.mem_cons_of_mem _ t)));cases ho:CT r with
   | error f=>
    have j:=Hd ho;clear ho;go_wp2_with (first
     | (go_at_call 96;(with_reducible refine U.out.mono ?_);rintro e w' ⟨rfl,p⟩;subst p)
     | (go_at_call 98;refine an.mono ?_;intro e R i;obtain⟨rfl,P,a1⟩:=i;have a8:=Hd P;have ad:=Hd (OM (ai _ P a1) al);clear P a1)
     | (go_at_call 99;refine ad.mono ?_;intro e w2 i;obtain⟨a5,i⟩:=i;rw[j.out]at i;have i:e=_:=i;subst i))
    refine⟨rfl,(((HC.next (a8.mono (fun _ h=>.inl h))).mono (fun ay hi=>hi.imp id .inl)).next a5),?_⟩;unfold FC;rw[ab.out];simp only[List.drop_succ_cons,List.drop_zero];rw[j.out];exact BY.of rfl rfl
   | ok a2=>
    obtain⟨r1,C⟩:=a2;have j:=Hd ho;clear ho;go_wp2_with (first
     | (go_at_call 96;(with_reducible refine U.out.mono ?_);rintro e w' ⟨rfl,p⟩;subst p)
     | (go_at_call 98;refine an.mono ?_;intro e R i;obtain⟨rfl,P,a1⟩:=i;have a8:=Hd P;have ad:=Hd (OM (ai _ P a1) al);clear P a1)
     | (
       go_at_call 99;refine ad.mono ?_;intro e w2 i;obtain⟨a5,i⟩:=i;rw[j.out]at i;obtain⟨rfl,bb,q2,D2,ar,av⟩:=i
       have a9:=Hd ((((HC.next (a8.mono (fun _ h=>.inl h))).mono (fun ay hi=>hi.imp id .inl)).next a5:Am (fun k=>k=rb\/B<=k\/k=mb) w w2));have b4:=Hd ar;have b6:=Hd av;clear a5 ar av))
    go_loopg [] C.length (fun n wx=>∃(rv:oV) (rs:List Bu) (D:DataW Unit) (l3:List Tk),n=l3.length/\Hid (DP wx B rb mb tb l3 x dv kv sv rv rs D)/\Hid (Am (fun k=>k=rb\/B<=k\/k=mb) w wx)/\Hid (Jr (FK (l.length+1) [r1] C) (rs.map Bu.r) l3)/\Hid (∀u∈l3,u∈l))
    case atStart=>exact⟨bb,[q2],D2,C,rfl,b6,a9,Hd ⟨l.length+1,by have:=(Ls j).1;have:=T.2;simp at this;omega,by rw[<-b4.out];rfl⟩,Hd (fun u t=>T.1 u (List.mem_cons_of_mem _ ((Ls j).2 u t)))⟩
    case round=>
     obtain⟨rv,rs,D,l3,rfl,a4,aa,ae,ah⟩:=hrel;obtain⟨t3,r3,rfl⟩:=a4.Bw.A8.ended.cons;have a0:=Hd (a4.Bw.A8.is 0 0 rfl);have aj:=Hd (OM a4 (fun u t=>ak u (ah u t)));have b0:Hid (∀a,FK (l.length+1) [r1] C=.ok a->FC l=.ok {x with rules:=a}):=Hd (fun a ha=>by unfold FC;rw[ab.out];simp only[List.drop_succ_cons,List.drop_zero];rw[j.out];simp only;rw[ha])
     have b1:Hid (∀f,FK (l.length+1) [r1] C=.error f->FC l=.error f):=Hd (fun f ha=>by unfold FC;rw[ab.out];simp only[List.drop_succ_cons,List.drop_zero];rw[j.out];simp only;rw[ha])
     by_cases h0:t3.k=0
     ·have o:(t3.k==0)=true:=by simp[h0]
      rw[o]at a0;have b3:=Hd (ae.last (by simpa [Cz] using o));clear o h0;go_wp2_with (go_at_call 96;(with_reducible refine a0.out.mono ?_);rintro e w' ⟨rfl,p⟩;subst p)
      go_end0
      refine⟨aa,?_⟩;rw[b0.out _ b3.out];exact⟨rfl,_,_,_,_,_,_,_,rfl,a4.E0 _⟩
     ·have o:(t3.k==0)=false:=by simp[h0]
      rw[o]at a0;have HK:=Hd (show Cz 0 (t3::r3)=false by simpa [Cz] using o);clear o h0;cases a7:CT (t3::r3) with
      | error f=>
        have I:=Hd a7;clear a7;go_wp2_with (first
         | (go_at_call 96;(with_reducible refine a0.out.mono ?_);rintro e w' ⟨rfl,p⟩;subst p)
         | (go_at_call 99;refine aj.mono ?_;intro e w4 i;obtain⟨a6,i⟩:=i;rw[I.out]at i;have i:e=_:=i;subst i))
        refine⟨rfl,aa.next a6,?_⟩;rw[b1.out _ (ae.fail HK.out I.out)];exact BY.of rfl rfl
      | ok a2=>
        obtain⟨r4,l4⟩:=a2;have I:=Hd a7;clear a7;go_wp2_with (first
         | (go_at_call 96;(with_reducible refine a0.out.mono ?_);rintro e w' ⟨rfl,p⟩;subst p)
         | (go_at_call 99;refine aj.mono ?_;intro e w4 i;obtain⟨a6,i⟩:=i;rw[I.out]at i;obtain⟨rfl,bc,q4,D4,au,aw⟩:=i;have az:=Hd a6;have b5:=Hd au;have b7:=Hd aw;clear a6 au aw))
        have af:=(Ls I).1
        go_roundg l4.length
        case measure=>exact af
        case rel=>exact⟨bc,rs++[q4],D4,l4,rfl,b7,Hd (aa.next az),Hd (by have h:=ae.step HK I;rw[<-b5.out]at h;rw[BB];exact h),Hd (fun u t=>ah u ((Ls I).2 u t))⟩
  ·have o:(a3.k==6)=false:=by simp[h6]
   rw[o]at U;have HK:=Hd (show Cz 6 (a3::r)=false by simpa [Cz] using o);have ag:=Hd (fK HR);clear o h6;cases he:C8 x (a3::r) with
   | error f=>
    have j:=Hd he;clear he;go_wp2_with (first
     | (go_at_call 96;refine U.mono ?_;rintro e w' ⟨rfl,p⟩;subst p)
     | (go_at_call 97;refine ag.mono ?_;intro e R i;obtain⟨J,i⟩:=i;rw[j.out]at i;have i:e=_:=i;subst i))
    refine⟨rfl,(HC.next J).mono (fun ay hi=>hi.imp id .inl),?_⟩;unfold FC;rw[HT.fail HK.out j.out];exact BY.of rfl rfl
   | ok a2=>
    obtain⟨x2,C⟩:=a2;have j:=Hd he;clear he;go_wp2_with (first
     | (go_at_call 96;refine U.mono ?_;rintro e w' ⟨rfl,p⟩;subst p)
     | (go_at_call 97;refine ag.mono ?_;intro e R i;obtain⟨J,i⟩:=i;rw[j.out]at i;obtain⟨rfl,b8,ba,bd,ao⟩:=i;have a9:=Hd J;have b2:=Hd ao;clear J ao))
    have af:=(MA j).1
    go_roundg C.length
    case measure=>exact af
    case rel=>exact⟨x2,C,b8,ba,bd,rfl,b2,Hd (HC.next a9),Hd (HT.step HK j),Hd ⟨fun u t=>T.1 u ((MA j).2 u t),by have:=T.2;omega⟩⟩
end
section
open Go.RowKit Go.Proofs.Tryz Go.Maps
def Nv(s:List UInt8):oV:=oJ (str s)
structure BM where
 v:oV
 l:List AP
def Ic(D:DataW Unit)(L:List AP):Prop:=∀s,D.atKey (Cj s) (.lit (.int oO 0))=.lit (.int oO (if s∈L then L.idxOf s+1 else 0:Nat))
def Ic.start:Ic (.map []) []:=fun s=>rfl
def Ic.next{D:DataW Unit}{L:List AP}(h:Ic D L)(o:Maps.Tidy D){s:AP}(l:s ∉ L):Ic (D.put (Cj s) (.lit (.int oO (L.length+1:Nat)))) (L++[s]):=by
 intro u;by_cases e:u=s
 ·subst e
  rw[Maps.atKey_put_same o.isMap (Nr _),if_pos oA];rw[List.idxOf_append,if_neg l];simp
 ·rw[Maps.atKey_put_other (fun j=>e (OH j)),h u]
  by_cases i:u∈L
  ·rw[if_pos i,if_pos (by simp[i]),List.idxOf_append,if_pos i]
  ·rw[if_neg i,if_neg (by simp[i,e])]
structure BS(w0 w:oU)(bb tm nm rb:Nat)(tv nv gv:oV)(b:Bd)(gs:List BM)(DT DN:DataW Unit):Prop where
 below:Below w0 w0 w
 Aj:Ah w bb 140 #[(rb,0),.map (oM tm),.map (oM nm),tv,nv,oG oN 0 0,oH oO 0,gv]
 ft:w.ownsRow w0 9 1 tv b.T.length (b.T.map Nv)
 fn:w.ownsRow w0 9 1 nv b.N.length (b.N.map Nv)
 fg:w.ownsRow w0 44 1 gv gs.length (gs.map BM.v)
 names:gs.map BM.l=b.R
 rows:∀q∈gs,w.ownsRow w0 9 1 q.v q.l.length (q.l.map Nv)
 tn:∀k,tv.ownBlock=oM k->¬nv.ownBlock=oM k
 tr:∀q∈gs,∀k,tv.ownBlock=oM k->¬q.v.ownBlock=oM k
 nr:∀q∈gs,∀k,nv.ownBlock=oM k->¬q.v.ownBlock=oM k
 mt:w.ownsMap Tryz.prog 9 (plainElem Tryz.prog 3) tm b.T.length DT
 mn:w.ownsMap Tryz.prog 9 (plainElem Tryz.prog 3) nm b.N.length DN
 pt:Ic DT b.T
 pn:Ic DN b.N
 b0:w0.heap.size<=bb/\w0.heap.size<=tm/\w0.heap.size<=nm
 b1:tm≠nm
 lt:b.T.length<=120
 ln:b.N.length<=120
 lr:b.R.length<=300
def Kl{w:oU}(h:w.ownsMap Tryz.prog 9 (plainElem Tryz.prog 3) mb n D)(p:Ic D L)(C:s.length<=8192):(Instr.lookup 133 (.map (oM mb)) (oJ (str s)) false).run Tryz.prog w=.ok (oH oO (if s∈L then L.idxOf s+1 else 0:Nat)) w:=by have t:=WideMaps.keyOf_string_mk underlying9 (s:=str s) (by rw[Lr];unfold maxLen;omega);obtain⟨c,j,l,_⟩:=h.lookup_int IY underlying133 underlying3 (LG w) t;rw[j];have o:=p s;have i:D.atKey (Cj s) (.lit (.int oO 0))=.lit (.int oO c):=l;rw[o]at i;simp only[DataW.lit.injEq,Lit.int.injEq,true_and]at i;rw[<-i]
def SR{w:oU}(h:w.ownsMap Tryz.prog 9 (plainElem Tryz.prog 3) mb n D)(l:n<=100000)(o:s.length<=8192){c:Nat}(j:c<=100000) :
  ∃w',(Instr.mapUpdate 133 (.map (oM mb)) (oJ (str s)) (oH oO (c:Int))).run Tryz.prog w=.ok () w'/\w'.ownsMap Tryz.prog 9 (plainElem Tryz.prog 3) mb (n+1) (D.put (Cj s) (.lit (.int oO (c:Int))))/\w.grownBy w' (oM mb):=by
 have i:=WideMaps.keyOf_string_mk underlying9 (s:=str s) (by rw[Lr];unfold maxLen;omega);exact h.update IY underlying133 oB i (plainElem_int underlying3 (WalkArith.wf_i64 nX))
def Gg{w:oU}{p:Nat}{s:Nat}{v:oV}(h:w.ownsMap Tryz.prog 9 (plainElem Tryz.prog 3) mb n D)(o:w.ownsRow B e s v p xs):¬v.ownBlock=oM mb:=by
 intro j;obtain⟨C,clock,l,_⟩:=h;rcases Bj o with⟨rfl,_⟩|⟨b,c,rfl,_,_,_,_,t,i⟩
 ·cases j
 ·cases j
  unfold Ah at i;rw[l]at i;cases i
def GV{w:oU}{g:Nat}(h:w.ownsMap Tryz.prog 9 (plainElem Tryz.prog 3) mb n D)(i:Ah w g e cs):mb≠g:=by rintro rfl;obtain⟨l,clock,j,_⟩:=h;unfold Ah at i;rw[j]at i;cases i
def CI{w:oU}{g:Nat}{i:TypeId}{s:Nat}{v:oV}(p:w.ownsRow B e s v n xs)(h:Ah w g i cs)(o:e≠i):¬v.ownBlock=oM g:=by
 intro j;rcases Bj p with⟨rfl,_⟩|⟨b,c,rfl,_,_,_,_,t,l⟩
 ·cases j
 ·cases j
  exact Ah.Bb (t:=e) l h o rfl
def BS.AA{X:Nat->Prop}{U w w':oU}{C T R rb:Nat}{tv nv J:oV}{b:Bd}{I:List BM}{t p:DataW Unit}(h:BS U w C T R rb tv nv J b I t p)(i:Am X w w')(j:∀k,k<w.heap.size->¬X k):BS U w' C T R rb tv nv J b I t p where
 below:=h.below.trans (i.below h.below.size (fun k hk=>j k (A0 hk h.below.size)))
 Aj:=i.Aj h.Aj (j _ h.Aj.lt)
 ft:=i.own h.ft (fun g l=>j g (B7 h.ft g l).2)
 fn:=i.own h.fn (fun g l=>j g (B7 h.fn g l).2)
 fg:=i.own h.fg (fun g l=>j g (B7 h.fg g l).2)
 names:=h.names
 rows q P:=i.own (h.rows q P) (fun g l=>j g (B7 (h.rows q P) g l).2)
 tn:=h.tn
 tr:=h.tr
 nr:=h.nr
 mt:=Ed h.mt i (j _ (by obtain⟨es,c,o,_⟩:=h.mt;exact(aG.1 o).1))
 mn:=Ed h.mn i (j _ (by obtain⟨es,c,o,_⟩:=h.mn;exact(aG.1 o).1))
 pt:=h.pt
 pn:=h.pn
 b0:=h.b0
 b1:=h.b1
 lt:=h.lt
 ln:=h.ln
 lr:=h.lr
end
variable{w w0:oU}{rb:Nat}{gv nv tv v:oV}{b:Bd}{gs:List BM}{DN DT:DataW Unit}
section
open Go.RowKit Go.Proofs.Tryz Go.Maps
def OW:El Tryz.prog 44 9 1 16:=El.of (z:=oJ ⟨#[]⟩) underlying44 nZ rfl nY
def PT(y:oU)(s:ByteArray):Be (y.alloc (oP #[oJ s] 9)) (oG (y,0) 1 1) 1 1 [oJ s]:=
 Be.Aj (c:=1) (Ah.new y 9 #[oJ s]) rfl oE
def Tq(h:w.ownsMap Tryz.prog 9 (plainElem Tryz.prog 3) mb n D):mb<w.heap.size:=by obtain⟨j,c,i,_⟩:=h;exact(aG.1 i).1
def Dy(i l j:Nat)(tv nv:oV)(k:Nat):Prop:=k=i\/k=l\/k=j\/tv.ownBlock=oM k\/nv.ownBlock=oM k
def BO(w:oU)(v v':oV):Prop:=∀k,v'.ownBlock=oM k->v.ownBlock=oM k\/w.heap.size<=k
def BO.refl(w:oU)(v:oV):BO w v v:=fun k h=>.inl h
def dJ{U w2 w4:oU}{o:Obj}{j t C:Nat}{s:AP}{l:Option Addr}
  (h:BS U w j t C rb tv nv gv b gs DT DN) (hs:s ∉ b.T) (a8:b.T.length<120)
  (ho:w2.ownsRow U 9 1 (oG l (b.T.length+1) c2) (b.T.length+1) (b.T.map Nv++[Nv s]))
  (hg:(w.alloc o).grownBy w2 tv.ownBlock/\((Value.slice l (b.T.length+1) c2).ownBlock=tv.ownBlock\/(Value.slice l (b.T.length+1) c2).ownBlock=oM (w.alloc o).heap.size))
  (hm:w4.ownsMap Tryz.prog 9 (plainElem Tryz.prog 3) t (b.T.length+1) (DT.put (Cj s) (.lit (.int oO (b.T.length+1:Nat)))))
  (a5:(w2.setCell (j,3) (oG l (b.T.length+1) c2)).drew.grownBy w4 (oM t)) :
  BS U w4 j t C rb (oG l (b.T.length+1) c2) nv gv {b with T:=b.T++[s]} gs (DT.put (Cj s) (.lit (.int oO (b.T.length+1:Nat)))) DN/\Am (Dy j t C tv nv) w w4/\BO w tv (oG l (b.T.length+1) c2):=by
 have hX:Am (fun k=>tv.ownBlock=oM k) w w2:=((Am.refl _ w).alloc o).next (.CM hg.1);have a4:Am (fun k=>tv.ownBlock=oM k\/k=j) w (w2.setCell (j,3) (oG l (b.T.length+1) c2)).drew:=((hX.mono (fun a3 P=>.inl P)).set (p:=⟨j,3,oN⟩) (.inr (.inr rfl)) _).drew;have h4:=Am.of_map a5;have hY:Am (fun k=>(tv.ownBlock=oM k\/k=j)\/k=t) w w4:=(a4.mono (fun a3 P=>.inl P)).next (h4.mono (fun a3 P=>.inr P));have a7:=h.Aj.lt;have a9:=Tq h.mt;have e1:¬tv.ownBlock=oM j:=CI h.ft h.Aj nY;have e2:¬tv.ownBlock=oM t:=Gg h.mt h.ft;have e3:t≠j:=GV h.mt h.Aj
 have e4:C≠j:=GV h.mn h.Aj;have e5:¬tv.ownBlock=oM C:=Gg h.mn h.ft;have a2:∀k,(Value.slice l (b.T.length+1) c2).ownBlock=oM k->k≠j/\k≠t:=by
  intro k i;rcases hg.2 with e|e
  ·rw[e]at i
   exact⟨by rintro rfl;exact e1 i,by rintro rfl;exact e2 i⟩
  ·rw[e]at i
   cases i
   exact⟨oC,oC⟩
 have a0:∀{e:TypeId} {I n:Nat} {v:oV} {J:List oV},w.ownsRow U e I v n J->e≠140->(∀k,tv.ownBlock=oM k->¬v.ownBlock=oM k)->w4.ownsRow U e I v n J:=by
  intro e I n v J T he hd;refine hY.own T ?_;rintro k i ((p|rfl)|rfl)
  ·exact hd k p i
  ·exact CI T h.Aj he i
  ·exact Gg h.mt T i
 have a1:∀{v:oV} {B n I:Nat} {e:TypeId} {J:List oV},w.ownsRow B e I v n J->(∀k,tv.ownBlock=oM k->¬v.ownBlock=oM k)->∀k,(Value.slice l (b.T.length+1) c2).ownBlock=oM k->¬v.ownBlock=oM k:=by
  intro v B n I e J T hd k i hv;rcases hg.2 with e|e
  ·rw[e]at i;exact hd k i hv
  ·rw[e]at i
   cases i
   have:=(B7 T _ hv).2;simp at this;omega
 refine⟨?_,hY.mono ?_,?_⟩
 rotate_left
 ·rintro k ((p|rfl)|rfl)
  ·exact .inr (.inr (.inr (.inl p)))
  ·exact .inl rfl
  ·exact .inr (.inl rfl)
 ·intro k i
  rcases hg.2 with e|e
  ·exact .inl (e▸i)
  ·rw[e]at i
   cases i
   exact .inr oA
 refine⟨?_,?_,?_,a0 h.fn nY h.tn,a0 h.fg nY (fun k i a6=>Gs h.ft h.fg nY k i a6),h.names,fun q R=>a0 (h.rows q R) nY (h.tr q R),a1 h.fn h.tn,fun q R=>a1 (h.rows q R) (h.tr q R),h.nr,by simpa using hm,?_,?_,h.pn,h.b0,h.b1,oC,h.ln,h.lr⟩
 ·refine h.below.trans (hY.below h.below.size ?_)
  rintro k i ((p|rfl)|rfl)
  ·have:=(B7 h.ft k p).1;omega
  ·have:=h.b0.1;omega
  ·have:=h.b0.2.1;omega
 ·refine h4.Aj (cs:=#[(rb,0),.map (oM t),.map (oM C),oG l (b.T.length+1) c2,nv,oG oN 0 0,oH oO 0,gv]) ?_ (fun e=>e3 e.symm)
  have:=(hX.Aj h.Aj e1).Ba 3 (oG l (b.T.length+1) c2);exact(Am.refl (fun _=>False) _).drew.Aj (by simpa using this) id
 ·rw[BB,show (b.T++[s]).length=b.T.length+1 by simp]
  exact h4.own ((Am.refl (fun _=>False) _).drew.own (EB (by simpa using ho) (fun e=>(a2 _ e).1 rfl) _) (fun _ _=>id)) (fun k i e=>(a2 k i).2 e)
 ·refine Ed h.mn hY ?_
  rintro((p|p)|p)
  ·exact e5 p
  ·exact e4 p
  ·exact h.b1 p.symm
 ·exact h.pt.next (h.mt.tidy IY) hs
def BS.cells{I:oU}{i o l:Nat}{j:oV}{C:List BM}{t p:DataW Unit}(h:BS I w i o l rb tv nv j b C t p) :
  oT w (i,0)=oM (oI (rb,0))/\oT w (i,1)=oM (.map (oM o))/\oT w (i,2)=oM (.map (oM l))/\oT w (i,3)=oM tv/\oT w (i,4)=oM nv/\oT w (i,7)=oM j/\i<w.heap.size:=
 ⟨h.Aj.cell 0,h.Aj.cell 1,h.Aj.cell 2,h.Aj.cell 3,h.Aj.cell 4,h.Aj.cell 7,h.Aj.lt⟩
def BS.drew{I:oU}{l C t:Nat}{p:oV}{o:List BM}{j i:DataW Unit}(h:BS I w l C t rb tv nv p b o j i):BS I w.drew l C t rb tv nv p b o j i:=h.AA ((Am.refl (fun _=>False) w).drew) (fun _ _=>id)
def BS.alloc{J:oU}{l I C:Nat}{t:oV}{p:List BM}{j i:DataW Unit}(h:BS J w l I C rb tv nv t b p j i)(o:Obj):BS J (w.alloc o) l I C rb tv nv t b p j i:=h.AA ((Am.refl (fun _=>False) w).alloc o) (fun _ _=>id)
def O5(i w:oU)(j p l rb:Nat)(tv nv P:oV)(J:List BM)(r:Except Bp Bd)(e:Ending)(w':oU):Prop:=
 Below i i w'/\match r with
 | .ok b=>e=oQ (.tuple #[])/\∃t o I C,BS i w' j p l rb t o P b J I C/\Am (Dy j p l tv nv) w w'/\BO w tv t/\BO w nv o
 | .error f=>BY f e
def Hy(b:Bd)(t:Tk):Except Bp Bd:=if 120<=b.T.length then .error (7,t.p) else .ok {b with T:=b.T++[t.s]}
def MR{j tm nm:Nat}(h:BS w0 w j tm nm rb tv nv gv b gs DT DN)(t:Tk)(ht:t.s.length<=8192)(hs:t.s ∉ b.T) :
  () 195 #[(j,0),.agg #[t.k,oJ (str t.s),t.p]] w (O5 w0 w j tm nm rb tv nv gv gs (Hy b t)):=by
 obtain⟨A,c,rfl⟩:=BK h.ft;have o:=Hd (h.alloc (oP #[t.k,oJ (str t.s),t.p] 170));obtain⟨c0,c1,c2,c3,c4,c7,a5⟩:=h.cells;have a8:=h.below.size;have HS:=Hd hs;have HT:=Hd ht;have aq:=h.lt;by_cases P:120<=b.T.length
 ·have T:(120:Int)<=(b.T.length:Int):=by omega
  have HE:Hid (Hy b t=.error (7,t.p)):=Hd (by simp[Hy,P]);clear h hs ht P;generalize b.T.length=n at *;go_enter func195,ntmps195
  go_wp2_with (go_at_call 150;refine(Eg _ _ _).mono ?_;rintro e w' ⟨rfl,an⟩;subst an)
  refine⟨rfl,o.below,?_⟩;rw[HE.out];exact BY.of rfl rfl
 ·have T:¬(120:Int)<=(b.T.length:Int):=by omega
  have ai:b.T.length<120:=by omega
  have HE:Hid (Hy b t=.ok {b with T:=b.T++[t.s]}):=Hd (by simp[Hy,P]);clear h hs ht P;go_enter func195,ntmps195
  go_wp2;have a0:=Hd (Ah.new w 170 #[t.k,oJ (str t.s),t.p]);have ar:w.heap.size<(w.alloc (oP #[t.k,oJ (str t.s),t.p] 170)).heap.size:=by simp
  have ab:=Hd (((Am.refl (Dy j tm nm (oG A b.T.length c) nv) w).alloc (oP #[t.k,oJ (str t.s),t.p] 170)).drew);have af:Hid (∀v',BO ((w.alloc (oP #[t.k,oJ (str t.s),t.p] 170)).drew) (oG A b.T.length c) v'->BO w (oG A b.T.length c) v'):=Hd (fun v' h k hk=>(h k hk).imp id (fun h=>AW oA h));clear c0 c1 c2 c3 c4 c7 a5 a8;generalize (w.alloc (oP #[t.k,oJ (str t.s),t.p] 170))=l at *;generalize w.heap.size=xb at *;obtain⟨c0,c1,c2,c3,c4,c7,a5⟩:=o.cells;have x1:=a0.cell 1
  simp at x1;have a8:=o.below.size;have i:=Hd o.drew;have a4:=Hd (((Am.refl (fun _=>False) l).drew).Aj a0 id);go_region_law (
   refine ER OW (.tmp 19) (.tmp 22) ?_ ?_ (base:=w0.heap.size) (n:=b.T.length) (m:=1) (N:=b.T.length+1) (v:=oG A b.T.length c) (src:=oG (l,0) 1 1) (xs:=b.T.map Nv) (news:=[oJ (str t.s)]) ?_ ?_ ?_ ?_ ?_ ?_ ?_ ?_ ?_
   ·rfl
   ·rfl
   ·rfl
   ·rfl
   ·exact i.ft.alloc _
   ·exact PT l.drew _
   ·rfl
   ·unfold maxLen;omega
   ·omega
   ·simp;omega
   intro p R U T q2 q3;have a2:=Hd T;have a3:=Hd (show ((l.drew.alloc (oP #[oJ (str t.s)] 9)).grownBy U (Value.slice A b.T.length c).ownBlock/\_) from q3);have I:Am (fun k=>(Value.slice A b.T.length c).ownBlock=oM k) l.drew U:=((Am.refl _ l.drew).alloc (oP #[oJ (str t.s)] 9)).next (.CM q3.1);have J:=I.Aj i.Aj (CI i.ft i.Aj nY);have a9:=I.Aj a4 (CI i.ft a4 nY);have z3:=J.cell 3;have zf:=J.frozen 3;simp at z3;have aa:=Hd J;have ag:=Hd a9;have ad:=Hd (Ed i.mt I (Gg i.mt i.ft))
   clear T q2 q3 I J a9)
  all_goals go_wp2
  all_goals have aj:xb≠j:=fun e=>Ah.Bb (t:=170) a0 o.Aj nY e
  all_goals have a1:=Hd ((Am.refl (fun _=>False) _).drew.Aj (aa.Ba 3 (oG p (b.T.length+1) R)) id)
  all_goals have ah:=Hd ((Am.refl (fun _=>False) _).drew.Aj (ag.Bz (p:=⟨j,3,oN⟩) (by simpa using aj) (oG p (b.T.length+1) R)) id)
  all_goals have ae:=Hd (Ed ad ((Am.refl (·=j) U).set (p:=⟨j,3,oN⟩) (.inr rfl) (oG p (b.T.length+1) R)).drew (GV i.mt i.Aj))
  all_goals obtain⟨w4,ak,a7,a6⟩:=SR ae nX HT (c:=b.T.length+1) nX
  all_goals have C:=Hd (dJ i HS ai a2 a3 a7 a6)
  all_goals clear a7 a6 c0 c1 c2 c3 c4 c7 x1 z3 zf a2 a3
  all_goals generalize ao:World.setCell U (j,3) (oG p (b.T.length+1) R)=w3 at *
  all_goals clear ao
  all_goals have y1:=a1.cell 1
  all_goals have y3:=a1.cell 3
  all_goals have x3:=ah.cell 1
  all_goals simp at y1 y3 x3
  all_goals have al:=ak
  all_goals push_cast at al
  all_goals go_region
  all_goals go_end0
  all_goals refine⟨C.1.below,?_⟩
  all_goals rw[HE.out]
  all_goals exact⟨rfl,_,_,_,_,C.1,ab.next C.2.1,af _ C.2.2,BO.refl _ _⟩
end
section
open Go.RowKit Go.Proofs.Tryz Go.Maps
def DP.later{w':oU}{l:List Tk}{x:Bl}{o p C:oV}{t:List Bu}(h:DP w B rb mb tb l x o p C rv t D)(I:Below w w w'):DP w' B rb mb tb l x o p C rv t D:=by have j:Am (fun _=>False) w w':=.AJ I;have i:=h.Bw;exact⟨⟨i.A8.AA j id (fun _ _=>id),j.own i.decl (fun _ _=>id),j.own i.marks (fun _ _=>id),j.own i.starts (fun _ _=>id),i.apart,i.EA,i.GA,AW i.bB j.size,i.ld,i.lm,i.ls⟩,j.own h.rules (fun _ _=>id),fun r J=>(h.Hz r J).AA j (fun _ _ _=>id),Ed h.map j id,h.LS,h.Pz,h.mr,h.lr⟩
def IC(w:oU):Below w w w.drew:=⟨rfl,rfl,rfl,Ay _,fun _ _=>rfl⟩
def Lz{s:Nat}(h:w.ownsRow B e s v n xs)(p:0<n):∃g c,v=oG (oM ⟨g,0,oN⟩) n c/\∀j u,xs[j]?=oM u->oT w ⟨g,j,oN⟩=oM u:=by
 rcases h.2 with⟨rfl,rfl⟩|⟨g,cap,o,rfl,_⟩
 ·omega
 ·refine⟨g,cap,rfl,fun j u l=>?_⟩
  have:=h.cells rfl j u l;by_cases i:j=0
  ·subst i;simpa [Addr.add] using this
  ·simpa [Addr.add,i] using this
def Rp(i:List Bu)(y:Bl)(h:i.map Bu.r=y.rules)(s:AP):leftOf y s=decide ((i.map fun r=>r.left.s).count s≠0):=by unfold leftOf;rw[<-h,List.any_map,Bool.eq_iff_iff,List.any_eq_true,decide_eq_true_eq,<-Nat.pos_iff_ne_zero,List.count_pos_iff];simp[Bu.r]
def Sb(w:oU)(r:Except Bp Unit)(e:Ending)(w':oU):Prop:=
 Below w w w'/\match r with
 | .ok _=>e=oQ (.tuple #[])
 | .error f=>BY f e
def mW{I:Nat}{l:List Tk}{x:Bl}{P U sv:oV}{j:List Bu}(h:DP w B rb mb tb l x P U sv rv j D)(hb:oT w (I,0)=oM (oI (rb,0)))(J:j.map Bu.r=x.rules){st:Tk}{sr:List Tk}(i:x.starts=st::sr)(R:st.s.length<=8192):() 194 #[(I,0)] w (Sb w (Ex (leftOf x) st)):=by
 obtain⟨_,_,c3,_,c5,_⟩:=h.Bw.A8.cells;obtain⟨g,c,rfl,p⟩:=Lz h.Bw.starts (by rw[i];simp);have g1:=p 1 (oJ (str st.s)) (by rw[i];rfl);have g2:=p 2 st.p (by rw[i];rfl);have a0:=On (Ed h.map ((Am.refl (fun _=>False) w).drew) id) h.LS R;have hn:(0:Int)<(x.starts.length:Int):=by rw[i,List.length_cons];omega
 have C:=Hd (Rp j x J st.s);clear p i h J;generalize x.starts.length=n at *;generalize (j.map fun r=>r.left.s).count st.s=t at *;by_cases h0:t=0
 ·have o:Hid (Ex (leftOf x) st=.error (9,st.p)):=Hd (by simp[Ex,C.out,h0])
  have q1:((t:Int)==0)=true:=by simp[h0]
  clear h0;go_enter func194,ntmps194
  go_wp2_with fail
  go_region
  go_wp2_with (go_at_call 150;refine(Eg _ _ _).mono ?_;rintro e w' ⟨rfl,T⟩;subst T)
  refine⟨rfl,IC w,?_⟩;rw[o.out];exact BY.of rfl rfl
 ·have o:Hid (Ex (leftOf x) st=.ok ()):=Hd (by simp[Ex,C.out,h0])
  have q1:((t:Int)==0)=false:=by simp;omega
  clear h0;go_enter func194,ntmps194
  go_wp2_with fail
  go_region
  go_wp2
  go_end0
  refine⟨IC w,?_⟩;rw[o.out]
theorem nJ{p:Nat}{l:List Tk}{x:Bl}{C J T:oV}{R:List Bu}(h:DP w B rb mb tb l x C J T rv R D)(hb:oT w (p,0)=oM (oI (rb,0))):() 149 #[(p,0)] w fun e w'=>e=oQ (oH oO (DI x.marks))/\w'=w:=by
 obtain⟨_,c2,_,_,_,_⟩:=h.Bw.A8.cells;by_cases i:x.marks.length<2
 ·obtain⟨A,c,rfl⟩:=BK h.Bw.marks
  have j:Hid (DI x.marks=8193):=Hd (by
   match I:x.marks,i with
   | [],_=>rfl
   | [a],_=>rfl
   | a::b::r,i=>simp at i;omega)
  have P:(x.marks.length:Int)<2:=by omega
  clear h i;generalize x.marks.length=n at *;go_enter func149,ntmps149
  go_wp2;go_ret;exact⟨by rw[j.out];rfl,rfl⟩
 ·obtain⟨g,c,rfl,t⟩:=Lz h.Bw.marks nX
  obtain⟨a,m,r,o⟩:∃a m r,x.marks=a::m::r:=by
   match I:x.marks,i with
   | [],i=>simp at i
   | [a],i=>simp at i
   | a::b::r,_=>exact⟨a,b,r,rfl⟩
  have U:=t 1 (oH oO m) (by rw[o];rfl);have j:Hid (DI x.marks=m):=Hd (by rw[o];rfl);have P:¬(x.marks.length:Int)<2:=by omega
  have q2:(1:Int)<(x.marks.length:Int):=by omega
  clear h i t o;generalize x.marks.length=n at *;go_enter func149,ntmps149
  go_wp2;go_ret;exact⟨by rw[j.out];rfl,rfl⟩
end
section
open Go.RowKit Go.Proofs.Tryz Go.Maps
def mx{R tm nm:Nat}(h:BS w0 w R tm nm rb tv nv gv b gs DT DN){l:List Tk}{x:Bl}{dv kv sv:oV}{rs:List Bu}(hr:DP w0 B rb mb tb l x dv kv sv rv rs D)(a4:rs.map Bu.r=x.rules)(t:Tk)(C:t.s.length<=8192)(k:Nat)(K:Int)(hK:K=(k:Int)) :
  () 152 #[(R,0),.agg #[t.k,oJ (str t.s),t.p],K] w (O5 w0 w R tm nm rb tv nv gv gs (DZ (leftOf x) b t k)):=by
 have o:=Hd (h.alloc (oP #[t.k,oJ (str t.s),t.p] 170));have a1:=Hd (((Am.refl (Dy R tm nm tv nv) w).alloc (oP #[t.k,oJ (str t.s),t.p] 170)).drew);have a6:Hid (∀v v',BO ((w.alloc (oP #[t.k,oJ (str t.s),t.p] 170)).drew) v v'->BO w v v'):=Hd (fun v v' h k hk=>(h k hk).imp id (fun h=>AW oA h));have a3:=Hd (Ah.new w 170 #[t.k,oJ (str t.s),t.p]);have HT:=Hd C;have HL:=Hd (Rp rs x a4 t.s);by_cases T:8<=k
 ·have q1:(8:Int)<=K:=by omega
  have p:Hid (DZ (leftOf x) b t k=.error (7,t.p)):=Hd (by simp[DZ,T]);clear h hr a4 C hK T;go_enter func152,ntmps152
  go_wp2_with (go_at_call 150;refine(Eg _ _ _).mono ?_;rintro e w' ⟨rfl,a5⟩;subst a5)
  refine⟨rfl,o.below,?_⟩;rw[p.out];exact BY.of rfl rfl
 ·have q1:¬(8:Int)<=K:=by omega
  have P:Hid (DZ (leftOf x) b t k=if b.T.contains t.s then .ok b else if t.k=2 then Hy b t else if leftOf x t.s then .ok b else .error (9,t.p)):=Hd (by simp[DZ,T,Hy]);clear T hK h;have a2:=Hd (hr.later o.below);clear hr a4;generalize ah:(w.alloc (oP #[t.k,oJ (str t.s),t.p] 170))=w1 at *;have a8:=Kl o.drew.mt o.pt C;obtain⟨c0,c1,c2,c3,c4,c7,af⟩:=o.cells;have x0:=a3.cell 0;have x1:=a3.cell 1;have x2:=a3.cell 2;simp at x0 x1 x2;by_cases j:t.s∈b.T
  ·have p:Hid (DZ (leftOf x) b t k=.ok b):=Hd (by rw[P.out,if_pos (by simpa using j)])
   rw[if_pos j]at a8;generalize hn:b.T.idxOf t.s+1=n1 at *;have q2:(0:Int)<(n1:Int):=by omega
   clear j hn C;go_enter func152,ntmps152
   go_wp2
   go_region
   go_wp2
   go_end0
   refine⟨o.drew.below,?_⟩;rw[p.out];exact⟨rfl,_,_,_,_,o.drew,a1,BO.refl _ _,BO.refl _ _⟩
  ·rw[if_neg j,show ((0:Nat):Int)=0 from rfl]at a8
   have HC:=Hd j;by_cases I:t.k=2
   ·have p:Hid (DZ (leftOf x) b t k=Hy b t):=Hd (by rw[P.out,if_neg (by simpa using j),if_pos I])
    have a7:=Hd (MR o.drew t HT j);have q2:((t.k:Int)==2)=true:=by simp[I]
    clear j C I;cases a0:Hy b t with
    | error f=>
     have J:=Hd a0;clear a0;go_enter func152,ntmps152
     go_wp2
     go_region
     go_wp2_with (go_at_call 195;refine a7.mono ?_;intro e w2 i;obtain⟨U,i⟩:=i;rw[J.out]at i;have i:e=_:=i;subst i)
     refine⟨rfl,U,?_⟩;rw[p.out,J.out];exact BY.of rfl rfl
    | ok b2=>
     have J:=Hd a0;clear a0;go_enter func152,ntmps152
     go_wp2
     go_region
     go_wp2_with (go_at_call 195;refine a7.mono ?_;intro e w2 i;obtain⟨U,i⟩:=i;rw[J.out]at i;obtain⟨rfl,i⟩:=i;have ab:=Hd U;have HX:=Hd i;clear U i)
     go_end0
     refine⟨ab,?_⟩;rw[p.out,J.out];obtain⟨ae,ad,aa,a9,z1,z2,z3,z4⟩:=HX.out;exact⟨rfl,ae,ad,aa,a9,z1,a1.next z2,a6 _ _ z3,a6 _ _ z4⟩
   ·have q2:((t.k:Int)==2)=false:=by simp;omega
    have ag:=On (Ed a2.map ((Am.refl (fun _=>False) w1).drew.drew) id) a2.LS C;obtain⟨_,_,_,_,c5,_⟩:=a2.Bw.A8.cells;generalize (rs.map fun r=>r.left.s).count t.s=n0 at *;by_cases h0:n0=0
    ·have p:Hid (DZ (leftOf x) b t k=.error (9,t.p)):=Hd (by rw[P.out,if_neg (by simpa using j),if_neg I,HL.out];simp[h0])
     have q3:((n0:Int)==0)=true:=by simp[h0]
     clear j C I h0;go_enter func152,ntmps152
     go_wp2
     go_region
     go_wp2
     go_region
     go_wp2_with (go_at_call 150;refine(Eg _ _ _).mono ?_;rintro e w' ⟨rfl,a5⟩;subst a5)
     refine⟨rfl,o.drew.drew.below,?_⟩;rw[p.out];exact BY.of rfl rfl
    ·have p:Hid (DZ (leftOf x) b t k=.ok b):=Hd (by rw[P.out,if_neg (by simpa using j),if_neg I,HL.out];simp[h0])
     have q3:((n0:Int)==0)=false:=by simp;omega
     clear j C I h0;go_enter func152,ntmps152
     go_wp2
     go_region
     go_wp2
     go_region
     go_wp2
     go_end0
     refine⟨o.drew.drew.below,?_⟩;rw[p.out];exact⟨rfl,_,_,_,_,o.drew.drew,a1.drew,BO.refl _ _,BO.refl _ _⟩
end
section
open Go.RowKit Go.Proofs.Tryz Go.Maps
def XY{w2 w4:oU}{o:Obj}{j J t:Nat}{s:AP}{l:Option Addr}
  (h:BS w0 w j J t rb tv nv gv b gs DT DN) (hs:s ∉ b.N) (a7:b.N.length<120)
  (ho:w2.ownsRow w0 9 1 (oG l (b.N.length+1) c2) (b.N.length+1) (b.N.map Nv++[Nv s]))
  (hg:(w.alloc o).grownBy w2 nv.ownBlock/\((Value.slice l (b.N.length+1) c2).ownBlock=nv.ownBlock\/(Value.slice l (b.N.length+1) c2).ownBlock=oM (w.alloc o).heap.size))
  (hm:w4.ownsMap Tryz.prog 9 (plainElem Tryz.prog 3) t (b.N.length+1) (DN.put (Cj s) (.lit (.int oO (b.N.length+1:Nat)))))
  (a5:(w2.setCell (j,4) (oG l (b.N.length+1) c2)).drew.grownBy w4 (oM t)) :
  BS w0 w4 j J t rb tv (oG l (b.N.length+1) c2) gv {b with N:=b.N++[s]} gs DT (DN.put (Cj s) (.lit (.int oO (b.N.length+1:Nat))))/\Am (Dy j J t tv nv) w w4/\BO w nv (oG l (b.N.length+1) c2):=by
 have hX:Am (fun k=>nv.ownBlock=oM k) w w2:=((Am.refl _ w).alloc o).next (.CM hg.1);have a4:Am (fun k=>nv.ownBlock=oM k\/k=j) w (w2.setCell (j,4) (oG l (b.N.length+1) c2)).drew:=((hX.mono (fun a3 R=>.inl R)).set (p:=⟨j,4,oN⟩) (.inr (.inr rfl)) _).drew;have h4:=Am.of_map a5;have hY:Am (fun k=>(nv.ownBlock=oM k\/k=j)\/k=t) w w4:=(a4.mono (fun a3 R=>.inl R)).next (h4.mono (fun a3 R=>.inr R));have a6:=h.Aj.lt;have a8:=Tq h.mn;have e1:¬nv.ownBlock=oM j:=CI h.fn h.Aj nY;have e2:¬nv.ownBlock=oM t:=Gg h.mn h.fn;have e3:t≠j:=GV h.mn h.Aj
 have e4:J≠j:=GV h.mt h.Aj;have e5:¬nv.ownBlock=oM J:=Gg h.mt h.fn;have a2:∀k,(Value.slice l (b.N.length+1) c2).ownBlock=oM k->k≠j/\k≠t:=by
  intro k i;rcases hg.2 with e|e
  ·rw[e]at i
   exact⟨by rintro rfl;exact e1 i,by rintro rfl;exact e2 i⟩
  ·rw[e]at i
   cases i
   exact⟨oC,oC⟩
 have a0:∀{e:TypeId} {I n:Nat} {v:oV} {P:List oV},w.ownsRow w0 e I v n P->e≠140->(∀k,nv.ownBlock=oM k->¬v.ownBlock=oM k)->w4.ownsRow w0 e I v n P:=by
  intro e I n v P U he hd;refine hY.own U ?_;rintro k i ((p|rfl)|rfl)
  ·exact hd k p i
  ·exact CI U h.Aj he i
  ·exact Gg h.mn U i
 have a1:∀{v:oV} {B n I:Nat} {e:TypeId} {P:List oV},w.ownsRow B e I v n P->(∀k,nv.ownBlock=oM k->¬v.ownBlock=oM k)->∀k,(Value.slice l (b.N.length+1) c2).ownBlock=oM k->¬v.ownBlock=oM k:=by
  intro v B n I e P U hd k i hv;rcases hg.2 with e|e
  ·rw[e]at i;exact hd k i hv
  ·rw[e]at i
   cases i
   have:=(B7 U _ hv).2;simp at this;omega
 refine⟨?_,hY.mono ?_,?_⟩
 rotate_left
 ·rintro k ((p|rfl)|rfl)
  ·exact .inr (.inr (.inr (.inr p)))
  ·exact .inl rfl
  ·exact .inr (.inr (.inl rfl))
 ·intro k i
  rcases hg.2 with e|e
  ·exact .inl (e▸i)
  ·rw[e]at i
   cases i
   exact .inr oA
 refine⟨?_,?_,a0 h.ft nY (fun k i C=>h.tn k C i),?_,a0 h.fg nY (fun k i C=>Gs h.fn h.fg nY k i C),h.names,fun q T=>a0 (h.rows q T) nY (h.nr q T),fun k i C=>a1 h.ft (fun k i C=>h.tn k C i) k C i,h.tr,fun q T=>a1 (h.rows q T) (h.nr q T),?_,by simpa using hm,h.pt,?_,h.b0,h.b1,h.lt,oC,h.lr⟩
 ·refine h.below.trans (hY.below h.below.size ?_)
  rintro k i ((p|rfl)|rfl)
  ·have:=(B7 h.fn k p).1;omega
  ·have:=h.b0.1;omega
  ·have:=h.b0.2.2;omega
 ·refine h4.Aj (cs:=#[(rb,0),.map (oM J),.map (oM t),tv,oG l (b.N.length+1) c2,oG oN 0 0,oH oO 0,gv]) ?_ (fun e=>e3 e.symm)
  have:=(hX.Aj h.Aj e1).Ba 4 (oG l (b.N.length+1) c2);exact(Am.refl (fun _=>False) _).drew.Aj (by simpa using this) id
 ·rw[BB,show (b.N++[s]).length=b.N.length+1 by simp]
  exact h4.own ((Am.refl (fun _=>False) _).drew.own (EB (by simpa using ho) (fun e=>(a2 _ e).1 rfl) _) (fun _ _=>id)) (fun k i e=>(a2 k i).2 e)
 ·refine Ed h.mt hY ?_
  rintro((p|p)|p)
  ·exact e5 p
  ·exact e4 p
  ·exact h.b1 p
 ·exact h.pn.next (h.mn.tidy IY) hs
theorem UH(s:AP):∀(L:List AP) (D:Nat),s∈L.take D<->s∈L/\L.idxOf s<D:=by
 intro L;induction L with
 | nil=>intro D;simp
 | cons a L l=>
  intro D;cases D with
  | zero=>simp
  | succ D=>
   rw[List.take_succ_cons,List.mem_cons,List.mem_cons,l D,List.idxOf_cons];by_cases e:a=s
   ·subst e;simp
   ·have i:(a==s)=false:=by simpa using e
    have j:¬s=a:=fun h=>e h.symm
    simp[i,j]
end
section
open Go.RowKit Go.Proofs.Tryz Go.Maps
def mO{l tm nm:Nat}(h:BS w0 w l tm nm rb tv nv gv b gs DT DN)(t:Tk)(P:t.s.length<=8192)(d:Nat)(K:Int)(hK:K=(d:Int)) :
  () 101 #[(l,0),.agg #[t.k,oJ (str t.s),t.p],K] w (O5 w0 w l tm nm rb tv nv gv gs (EP d b t)):=by
 obtain⟨A,c,rfl⟩:=BK h.fn;have j:=Hd (h.alloc (oP #[t.k,oJ (str t.s),t.p] 170));have a9:=Hd ((((Am.refl (Dy l tm nm tv (oG A b.N.length c)) w).alloc (oP #[t.k,oJ (str t.s),t.p] 170)).drew).drew);have an:Hid (∀v',BO ((w.alloc (oP #[t.k,oJ (str t.s),t.p] 170)).drew.drew.drew) (oG A b.N.length c) v'->BO w (oG A b.N.length c) v'):=Hd (fun v' h k hk=>(h k hk).imp id (fun h=>AW oA h));have a2:=Hd (Ah.new w 170 #[t.k,oJ (str t.s),t.p])
 have b2:w.heap.size<(w.alloc (oP #[t.k,oJ (str t.s),t.p] 170)).heap.size:=by simp
 have HT:=Hd P;have az:=h.ln;clear h;generalize b1:(w.alloc (oP #[t.k,oJ (str t.s),t.p] 170))=w1 at *;have a0:=Kl j.drew.mt j.pt P;obtain⟨c0,c1,c2,c3,c4,c7,ae⟩:=j.cells;have x0:=a2.cell 0;have x1:=a2.cell 1;have x2:=a2.cell 2;simp at x0 x1 x2;by_cases C:t.s∈b.T.take d
 ·have J:Hid (EP d b t=.error (8,t.p)):=Hd (by simp only[EP];rw[if_pos (by simpa using C)])
  obtain⟨af,ar⟩:=(UH _ _ _).1 C;rw[if_pos af]at a0;have p:(0:Int)<((b.T.idxOf t.s+1:Nat):Int):=by omega
  have q2:((b.T.idxOf t.s+1:Nat):Int)<=K:=by omega
  generalize b.T.idxOf t.s+1=T at *;clear C af ar P hK;go_enter func101,ntmps101
  go_wp2
  go_region
  go_wp2_with (go_at_call 150;refine(Eg _ _ _).mono ?_;rintro e w' ⟨rfl,a7⟩;subst a7)
  refine⟨rfl,j.drew.below,?_⟩;rw[J.out];exact BY.of rfl rfl
 ·have R:∃T:Nat,(Instr.lookup 133 (.map (oM tm)) (oJ (str t.s)) false).run Tryz.prog w1.drew=.ok (oH oO (T:Int)) w1.drew/\(decide ((0:Int)<(T:Int))=false\/decide ((0:Int)<(T:Int))=true/\decide ((T:Int)<=K)=false):=by
   refine⟨_,a0,?_⟩;by_cases I:t.s∈b.T
   ·rw[if_pos I]
    have:¬b.T.idxOf t.s<d:=fun e=>C ((UH _ _ _).2 ⟨I,e⟩)
    exact .inr ⟨by rw[decide_eq_true_eq];omega,by rw[decide_eq_false_iff_not];omega⟩
   ·rw[if_neg I]
    exact .inl rfl
  clear a0;obtain⟨T,a0,R⟩:=R;simp only[decide_eq_false_iff_not,decide_eq_true_eq]at R;have a5:Hid (EP d b t=if b.N.contains t.s then .ok b else if 120<=b.N.length then .error (7,t.p) else .ok {b with N:=b.N++[t.s]}):=Hd (by simp only[EP];rw[if_neg (by simpa using C)]);have a6:=Kl j.drew.drew.mn j.pn P;by_cases o:t.s∈b.N
  ·have J:Hid (EP d b t=.ok b):=Hd (by rw[a5.out,if_pos (by simpa using o)])
   rw[if_pos o]at a6;have U:(0:Int)<((b.N.idxOf t.s+1:Nat):Int):=by omega
   generalize b.N.idxOf t.s+1=n2 at *;clear C o P hK;rcases R with p|⟨p,q2⟩
   all_goals
    go_enter func101,ntmps101
    go_wp2
    go_region
    go_wp2
    go_region
    go_wp2
   all_goals refine bodyPost_ret (results_none rfl _ _ _) rfl ⟨j.drew.drew.below,?_⟩
   all_goals rw[J.out]
   all_goals exact⟨rfl,_,_,_,_,j.drew.drew,a9,BO.refl _ _,BO.refl _ _⟩
  ·rw[if_neg o,show ((0:Nat):Int)=0 from rfl]at a6
   have HC:=Hd o;by_cases I:120<=b.N.length
   ·have J:Hid (EP d b t=.error (7,t.p)):=Hd (by rw[a5.out,if_neg (by simpa using o),if_pos I])
    have U:(120:Int)<=(b.N.length:Int):=by omega
    clear C o P hK I;generalize b.N.length=n at *;rcases R with p|⟨p,q2⟩
    all_goals
     go_enter func101,ntmps101
     go_wp2
     go_region
     go_wp2
     go_region
     go_wp2_with (go_at_call 150;refine(Eg _ _ _).mono ?_;rintro e w' ⟨rfl,a7⟩;subst a7)
    all_goals refine⟨rfl,j.drew.drew.below,?_⟩
    all_goals rw[J.out]
    all_goals exact BY.of rfl rfl
   ·have J:Hid (EP d b t=.ok {b with N:=b.N++[t.s]}):=Hd (by rw[a5.out,if_neg (by simpa using o),if_neg I])
    have U:¬(120:Int)<=(b.N.length:Int):=by omega
    have au:b.N.length<120:=by omega
    clear C o P hK I;rcases R with p|⟨p,q2⟩
    all_goals
     go_enter func101,ntmps101
     go_wp2
     go_region
     go_wp2
     go_region
     go_wp2
    all_goals have a1:=Hd j.drew.drew
    all_goals have a3:=Hd (((Am.refl (fun _=>False) w1).drew.drew).Aj a2 id)
    all_goals clear a0 a6 c0 c1 c2 c3 c4 c7 ae x0 x1 x2
    all_goals generalize w1.drew.drew=wy at *
    all_goals obtain⟨c0,c1,c2,c3,c4,c7,ae⟩:=a1.cells
    all_goals have x1:=a3.cell 1
    all_goals simp at x1
    all_goals have b0:=a1.below.size
    all_goals have b3:=a3.lt
    all_goals have i:=Hd a1.drew
    all_goals have ad:=Hd (((Am.refl (fun _=>False) wy).drew).Aj a3 id)
    all_goals generalize w.heap.size=xb at *
    all_goals go_region_law (
     refine ER OW (.tmp 47) (.tmp 50) ?_ ?_ (base:=w0.heap.size) (n:=b.N.length) (m:=1) (N:=b.N.length+1) (v:=oG A b.N.length c) (src:=oG (wy,0) 1 1) (xs:=b.N.map Nv) (news:=[oJ (str t.s)]) ?_ ?_ ?_ ?_ ?_ ?_ ?_ ?_ ?_
     ·rfl
     ·rfl
     ·rfl
     ·rfl
     ·exact i.fn.alloc _
     ·exact PT wy.drew _
     ·rfl
     ·unfold maxLen;omega
     ·omega
     ·simp;omega
     intro A2 k2 w2 p q2 U;have aa:=Hd p;have ab:=Hd (show ((wy.drew.alloc (oP #[oJ (str t.s)] 9)).grownBy w2 (Value.slice A b.N.length c).ownBlock/\_) from U);have hX:Am (fun k=>(Value.slice A b.N.length c).ownBlock=oM k) wy.drew w2:=((Am.refl _ wy.drew).alloc (oP #[oJ (str t.s)] 9)).next (.CM U.1);have a4:=hX.Aj i.Aj (CI i.fn i.Aj nY);have ai:=hX.Aj ad (CI i.fn ad nY);have z3:=a4.cell 4;have zf:=a4.frozen 4;simp at z3;have aj:=Hd a4;have ao:=Hd ai;have ak:=Hd (Ed i.mn hX (Gg i.mn i.fn))
     clear p q2 U hX a4 ai)
    all_goals go_wp2
    all_goals have av:xb≠l:=fun e=>Ah.Bb (t:=170) a3 a1.Aj nY e
    all_goals have a8:=Hd ((Am.refl (fun _=>False) _).drew.Aj (aj.Ba 4 (oG A2 (b.N.length+1) k2)) id)
    all_goals have aq:=Hd ((Am.refl (fun _=>False) _).drew.Aj (ao.Bz (p:=⟨l,4,oN⟩) (by simpa using av) (oG A2 (b.N.length+1) k2)) id)
    all_goals have al:=Hd (Ed ak ((Am.refl (·=l) w2).set (p:=⟨l,4,oN⟩) (.inr rfl) (oG A2 (b.N.length+1) k2)).drew (GV i.mn i.Aj))
    all_goals obtain⟨w4,aw,ah,ag⟩:=SR al nX HT (c:=b.N.length+1) nX
    all_goals have HF:=Hd (XY i HC au aa ab ah ag)
    all_goals clear ah ag c0 c1 c2 c3 c4 c7 x1 z3 zf aa ab
    all_goals generalize ay:World.setCell w2 (l,4) (oG A2 (b.N.length+1) k2)=w3 at *
    all_goals clear ay
    all_goals have y2:=a8.cell 2
    all_goals have y4:=a8.cell 4
    all_goals have x3:=aq.cell 1
    all_goals simp at y2 y4 x3
    all_goals have ax:=aw
    all_goals push_cast at ax
    all_goals go_region
    all_goals go_end0
    all_goals refine⟨HF.1.below,?_⟩
    all_goals rw[J.out]
    all_goals exact⟨rfl,_,_,_,_,HF.1,a9.drew.next HF.2.1,BO.refl _ _,an _ HF.2.2⟩
end
section
open Go.RowKit Go.Proofs.Tryz Go.Maps
def KG(a b:List AP)(k:Nat):Prop:=∀j x y,j<k->a[j]?=oM x->b[j]?=oM y->x=y
def KG.next{a b:List AP}{k:Nat}{x y:AP}(h:KG a b k)(p:a[k]?=oM x)(t:b[k]?=oM y)(o:x=y):KG a b (k+1):=by
 intro j C I J i l;by_cases e:j=k
 ·subst e
  rw[p]at i;rw[t]at l;cases i;cases l;exact o
 ·exact h j C I nX i l
def KG.all{a b:List AP}(l:a.length=b.length)(h:KG a b a.length):(a==b)=true:=by
 rw[beq_iff_eq];apply List.ext_getElem?;intro j;by_cases i:j<a.length
 ·rw[eG i,eG nX]
  rw[h j _ _ i (eG i) (eG nX)]
 ·rw[nG nX,nG nX]
def nM{a b:List AP}{x y:AP}(l:a[k]?=oM x)(i:b[k]?=oM y)(j:¬x=y):(a==b)=false:=by
 rw[bN];rintro rfl;rw[l]at i;cases i
 exact j rfl
def str_inj{a b:List UInt8}(h:str a=str b):a=b:=by have:=congrArg (fun x:ByteArray=>x.data.toList) h;simpa [str] using this
def UX{a b:ByteArray}(h:a.toList=b.toList):a=b:=by rw[ByteArray.toList_eq,ByteArray.toList_eq]at h;exact ByteArray.ext (Array.ext' h)
def fM{B1 B2:Nat}{u:oV}{a b:List AP}(ha:w.ownsRow B1 9 1 u a.length (a.map Nv))(t:w.ownsRow B2 9 1 v b.length (b.map Nv)):() 155 #[u,v] w fun e w'=>e=oQ (.bool (a==b))/\∃q,w'=w.drewN q:=by
 obtain⟨A,c,hu⟩:=BK ha;obtain⟨A2,c2,hv⟩:=BK t;have a2:=Hd (fun(h:0<a.length)=>Lz ha h);have P:=Hd (fun(h:0<b.length)=>Lz t h);have a5:a.length<=9223372036854775807:=by
  rcases Bj ha with⟨_,h0⟩|⟨_,c3,_,_,_,h1,h2,_⟩
  ·omega
  ·unfold maxLen at h2;omega
 subst hu;subst hv;clear ha t;by_cases l:a.length=b.length
 ·rw[<-l]
  have J:=Hd l;rw[<-l]at P;clear l;go_enter func155,ntmps155
  go_wp2;go_loopw [5,13] (fun _ i wr=>∃k:Nat,k<=a.length/\i=oH oO k/\Hid (KG a b k)/\Hid (∃q,wr=w.drewN q)) (fun _ i _=>a.length-(intOf i).toNat)
  case atStart=>exact⟨0,AX _,rfl,Hd (fun a6 x y hj=>absurd hj (Nat.not_lt_zero _)),Hd ⟨0,rfl⟩⟩
  case round=>
   obtain⟨k,hk,rfl,R,p⟩:=hrel;by_cases a4:k<a.length
   ·have C:=eG a4
    have I:=eG (show k<b.length by have:=J.out;omega);generalize a[k]=x at C;generalize b[k]'(by have:=J.out;omega)=y at I;obtain⟨g1,d1,e1,a0⟩:=a2 nX;obtain⟨g2,d2,e2,a1⟩:=P nX;cases e1
    cases e2
    have T:=Hd C;have U:=Hd I;have e1:oT wr (g1,k)=oM (oJ (str x)):=by obtain⟨q,rfl⟩:=p.out;exact a0 k _ (by rw[pG,C];rfl)
    have e2:oT wr (g2,k)=oM (oJ (str y)):=by obtain⟨q,rfl⟩:=p.out;exact a1 k _ (by rw[pG,I];rfl)
    clear C I a0 a1;by_cases o:x=y
    ·have j:=Hd (R.next T U o)
     have t:((str x).toList==(str y).toList)=true:=by subst o;exact beq_self_eq_true _
     generalize str x=sx at *;generalize str y=sy at *;clear o;go_wp2;go_quiet (fail)
     have a3:Hid (∃q,wr.drewN nq=w.drewN q):=Hd (by obtain⟨q,hq⟩:=p.out;exact⟨q+nq,by rw[hq,World.drewN_drewN]⟩)
     go_wp2;go_roundw
     case rel=>exact⟨k+1,nX,oD,j,a3⟩
     case measure=>simp[intOf];omega
    ·have j:=Hd (nM T U o)
     have t:((str x).toList==(str y).toList)=false:=bN.2 (fun h=>o (str_inj (UX h)));generalize str x=sx at *;generalize str y=sy at *;clear o;go_wp2;go_quiet (fail)
     go_wp2;go_ret;obtain⟨q,rfl⟩:=p.out;exact⟨Cr j.symm,_,World.drewN_drewN _ _ _⟩
   ·obtain rfl:k=a.length:=by omega
    have j:=Hd (R.all J);go_wp2;go_ret;exact⟨Cr j.symm,p⟩
 ·have q1:((a.length:Int) != (b.length:Int))=true:=bne_iff_ne.2 nX
  have j:Hid ((a==b)=false):=Hd (by rw[bN];rintro rfl;exact l rfl);clear l;generalize a.length=n1 at *;generalize b.length=n2 at *;go_enter func155,ntmps155
  go_wp2;go_ret;exact⟨Cr j.symm,0,rfl⟩
end
section
open Go.RowKit Go.Proofs.Tryz Go.Maps
theorem idxOf_hit{s x:AP}(i:L[k]?=oM x)(I:s=x)(C:∀j y,j<k->L[j]?=oM y->s≠y):s∈L/\L.idxOf s=k:=by
 subst I;have o:=mG i;refine⟨o,?_⟩;obtain⟨R,e⟩:=sG.1 i;have l:=List.idxOf_lt_length_of_mem o;have p:=List.getElem_idxOf l;have P:¬L.idxOf s<k:=fun h=>C _ _ h (eG l) p.symm
 have t:∀(L:List AP) (k:Nat),L[k]?=oM s->L.idxOf s<=k:=by
  intro L;induction L with
  | nil=>intro k h;simp at h
  | cons a r J=>
   intro k h;rw[List.idxOf_cons];cases k with
   | zero=>simp at h;simp[h]
   | succ k=>
    have:=J k (by simpa using h);cases a==s
    ·simp only[cond_false];omega
    ·simp only[cond_true];omega
 have:=t L k i;omega
def KC(L:List AP)(s:AP):Int:=if s∈L then(L.idxOf s:Nat) else -1
def RS(H:w.ownsRow B 9 1 v L.length (L.map Nv))(s:AP):() 156 #[v,oJ (str s)] w fun e w'=>e=oQ (oH oO (KC L s))/\w'=w:=by
 obtain⟨A,c,rfl⟩:=BK H;have a2:L.length<=9223372036854775807:=by
  rcases Bj H with⟨_,h0⟩|⟨_,c3,_,_,_,R,I,_⟩
  ·omega
  ·unfold maxLen at I;omega
 have T:=Hd (fun(h:0<L.length)=>Lz H h);clear H;go_enter func156,ntmps156
 go_wp2
 go_loop [5,8] (fun _ i=>∃k:Nat,k<=L.length/\i=oH oO k/\Hid (∀j y,j<k->L[j]?=oM y->s≠y)) (fun _ i=>L.length-(intOf i).toNat)
 case atStart=>exact⟨0,AX _,rfl,Hd (fun j y p=>absurd p (Nat.not_lt_zero _))⟩
 case round=>
  obtain⟨k,hk,rfl,t⟩:=hrel;by_cases a1:k<L.length
  ·have o:=eG a1
   generalize L[k]=x at o;obtain⟨b,c2,e1,J⟩:=T nX;cases e1
   have a0:=J k (Nv x) (by rw[pG,o];rfl);unfold Nv at a0;by_cases l:s=x
   ·have C:Hid (KC L s=(k:Int)):=Hd (by obtain⟨R,I⟩:=idxOf_hit o l t;unfold KC;rw[if_pos R,I])
    have hb:((str s).toList==(str x).toList)=true:=by subst l;exact beq_self_eq_true _
    generalize str s=ss at *;generalize str x=sx at *;clear o J l;go_wp2;go_ret;rw[C.out];exact⟨rfl,rfl⟩
   ·have U:Hid (∀j y,j<k+1->L[j]?=oM y->s≠y):=Hd (fun j y p P=>by
     by_cases e:j=k
     ·subst e;rw[o]at P;cases P;exact l
     ·exact t j y nX P)
    have hb:((str s).toList==(str x).toList)=false:=bN.2 (fun h=>l (str_inj (UX h)));generalize str s=ss at *;generalize str x=sx at *;clear o J l;go_wp2
    go_round
    case rel=>exact⟨k+1,nX,oD,U⟩
    case measure=>simp[intOf];omega
  ·obtain rfl:k=L.length:=by omega
   have C:Hid (KC L s = -1):=Hd (by unfold KC;rw[if_neg];intro hm;obtain⟨j,p⟩:=List.mem_iff_getElem?.1 hm;exact t j s (sG.1 p).1 p rfl)
   go_wp2;go_ret;rw[C.out];exact⟨rfl,rfl⟩
def Ze{T N:List AP}{P:Int}(I:w.ownsRow B 9 1 tv T.length (T.map Nv))(C:w.ownsRow B 9 1 nv N.length (N.map Nv))(a1:T.length<=120)(a0:N.length<=120)(s:AP) :
  () 103 #[.agg #[tv,nv,rv,P],oJ (str s)] w fun e w'=>e=oQ (oH oO (B9 T N s))/\Below w w w':=by
 obtain⟨A,c,rfl⟩:=BK I;obtain⟨R,c2,rfl⟩:=BK C;have J:Am (fun _=>False) w (w.alloc (oP #[oG A T.length c,oG R N.length c2,rv,P] 47)):=(Am.refl _ w).alloc _;have j:=Hd (RS (J.own I (fun _ _=>id)) s);have o:=Hd (RS (J.own C (fun _ _=>id)) s);have U:=AG w (oP #[oG A T.length c,oG R N.length c2,rv,P] 47);have t:=Hd U;have hT:T.idxOf s<=T.length:=List.idxOf_le_length;have hN:N.idxOf s<=N.length:=List.idxOf_le_length;unfold KC at j o;clear I C J U;by_cases i:s∈T
 ·have p:Hid (B9 T N s=T.idxOf s+1):=Hd (by unfold B9;rw[if_pos (by simpa using i)])
  rw[if_pos i]at j;clear i;generalize T.idxOf s=n1 at *;generalize N.length=nN at *;generalize T.length=nT at *;go_enter func103,ntmps103
  go_wp2_with (go_at_call 156;refine j.mono ?_;rintro e w' ⟨rfl,rfl⟩)
  go_ret;rw[p.out];exact⟨by first|rfl|(push_cast;rfl),t⟩
 ·rw[if_neg i]at j
  by_cases l:s∈N
  ·have p:Hid (B9 T N s=T.length+N.idxOf s+1):=Hd (by unfold B9;rw[if_neg (by simpa using i),if_pos (by simpa using l)])
   rw[if_pos l]at o;clear i l;generalize N.idxOf s=n1 at *;generalize N.length=nN at *;generalize T.length=nT at *;go_enter func103,ntmps103
   go_wp2_with (first
    | (go_at_call 156;(with_reducible refine j.out.mono ?_);rintro e w' ⟨rfl,rfl⟩)
    | (go_at_call 156;(with_reducible refine o.out.mono ?_);rintro e w' ⟨rfl,rfl⟩))
   go_ret;rw[p.out];exact⟨by first|rfl|(push_cast;rfl),t⟩
  ·have p:Hid (B9 T N s=0):=Hd (by unfold B9;rw[if_neg (by simpa using i),if_neg (by simpa using l)])
   rw[if_neg l]at o;clear i l;generalize N.length=nN at *;generalize T.length=nT at *;go_enter func103,ntmps103
   go_wp2_with (first
    | (go_at_call 156;(with_reducible refine j.out.mono ?_);rintro e w' ⟨rfl,rfl⟩)
    | (go_at_call 156;(with_reducible refine o.out.mono ?_);rintro e w' ⟨rfl,rfl⟩))
   go_ret;rw[p.out];exact⟨rfl,t⟩
end
def TQ(t:Tk):Prop:=t.s.length<=8192/\t.p<=8192
def SQ(s:PS):Prop:=(∀t∈s.l,TQ t)/\s.l.length<=100000
def RQ(r:PR):Prop:=TQ r.left/\∀s∈r.GQ,SQ s
structure Ql(l:List Tk):Prop where
 ended:Iq l
 all:∀t∈l,TQ t
 len:l.length<=100000
variable{l:List Tk}
structure Bl.q(x:Bl):Prop where
 decl:∀t∈x.decl,TQ t
 marks:∀m∈x.marks,m<=8192
 starts:∀t∈x.starts,TQ t
 same:x.marks.length=x.starts.length
variable{x:Bl}
def Ql.tail{t:Tk}(h:Ql (t::r))(i:t.k≠0):Ql r:=
 ⟨(h.ended.tail i).1,fun u j=>h.all u (by simp[j]),by have:=h.len;simp at this;omega⟩
theorem Ql.I3:∀{l:List Tk},Ql l->Ql (l.dropWhile Bi)
 | [],h=>h.ended.elim
 | t::r,h=>by
  rw[List.dropWhile_cons];split
  ·rename_i i;exact Ql.I3 (h.tail (O6 i))
  ·exact h
def Ql.bad(h:Ql l):(DR l).1≠0:=by obtain⟨t,r,rfl⟩:=h.ended.cons;unfold DR;simp only;split<;>simp
def Ql.take(h:Ql l):(∀t∈l.takeWhile Bi,TQ t)/\(l.takeWhile Bi).length<=100000:=
 ⟨fun t i=>h.all t ((List.takeWhile_sublist Bi).mem i),AW (List.takeWhile_sublist Bi).length_le h.len⟩
theorem JU(h:Cz k l=true):∃t r,l=t::r/\t.k=k:=by
 cases l with
 | nil=>cases h
 | cons t r=>exact⟨t,r,rfl,by simpa [Cz] using h⟩
theorem YB(o:x.q)(j:Ql l):match C8 x l with | .error f=>f.1≠0 | .ok (x',T)=>x'.q/\Ql T/\T.length<l.length:=by
 cases i:C8 x l with
 | error f=>
  simp only;unfold C8 at i;obtain⟨t,r,rfl⟩:=j.ended.cons;simp only at i;split at i
  ·rename_i P
   split at i
   ·injection i with i;rw[<-i];exact(j.tail nX).bad
   ·cases i
  split at i
  ·rename_i U
   split at i
   ·cases i
   ·injection i with i;rw[<-i];exact(j.tail nX).bad
  ·injection i with i;rw[<-i];exact j.bad
 | ok q=>
  obtain⟨x',T⟩:=q;simp only;refine⟨?_,?_,(MA i).1⟩;all_goals
   unfold C8 at i;obtain⟨t,r,rfl⟩:=j.ended.cons;simp only at i;split at i
  ·rename_i P
   split at i
   ·cases i
   ·injection i with i
    obtain⟨rfl,rfl⟩:=Prod.mk.inj i;have I:=j.tail nX;refine⟨fun u J=>?_,o.marks,o.starts,o.same⟩;rcases mA.1 J with J|J
    ·exact o.decl u J
    ·exact I.take.1 u J
  ·rename_i P
   split at i
   ·rename_i U
    split at i
    ·rename_i R
     injection i with i;obtain⟨rfl,rfl⟩:=Prod.mk.inj i;have I:=j.tail nX;obtain⟨u,r2,rfl,a0⟩:=JU R;refine⟨o.decl,fun m C=>?_,fun v p=>?_,by simp[o.same]⟩
     ·rcases mA.1 C with C|C
      ·exact o.marks m C
      ·rw[mS.1 C];exact(j.all t oA).2
     ·rcases mA.1 p with p|p
      ·exact o.starts v p
      ·simp at p;rw[p];exact I.all u oA
    ·cases i
   ·cases i
  ·rename_i P
   split at i
   ·cases i
   ·injection i with i
    obtain⟨rfl,rfl⟩:=Prod.mk.inj i;exact(j.tail nX).I3
  ·rename_i P
   split at i
   ·rename_i U
    split at i
    ·rename_i R
     injection i with i;obtain⟨rfl,rfl⟩:=Prod.mk.inj i;have I:=j.tail nX;obtain⟨u,r2,rfl,a0⟩:=JU R;exact I.tail nX
    ·cases i
   ·cases i
theorem S4:∀(f:Nat) {x:Bl} {l:List Tk},x.q->Ql l->l.length<f->match FQ f x l with | .error f=>f.1≠0 | .ok (t,o)=>t.q/\Ql o/\o.length<=l.length
 | 0,x,l,_,_,U=>by omega
 | f+1,x,l,P,I,U=>by
  have j:=YB P I;unfold FQ;by_cases p:Cz 6 l=true
  ·rw[if_pos p]
   obtain⟨a1,r,rfl,ht⟩:=JU p;exact⟨P,I.tail nX,oA⟩
  ·rw[if_neg p]
   cases C:C8 x l with
   | error e=>rw[C]at j;exact j
   | ok q=>
    obtain⟨t,o⟩:=q;rw[C]at j;obtain⟨R,T,g3⟩:=j;have i:=S4 f R T nX;simp only;cases J:FQ f t o with
    | error e=>rw[J]at i;exact i
    | ok a0=>obtain⟨x2,l2⟩:=a0;rw[J]at i;exact⟨i.1,i.2.1,by have:=i.2.2;omega⟩
def N9(h:Ql l):SQ (BU l):=by unfold SQ;rw[Oe];exact h.take
theorem NX:∀(f:Nat) {a:List PS} {l:List Tk},(∀s∈a,SQ s)->Ql l->(∀s∈(DQ f a l).1,SQ s)/\Ql (DQ f a l).2
 | 0,a,l,j,o=>⟨j,o⟩
 | f+1,a,l,j,o=>by
  unfold DQ;by_cases p:Cz 4 l=true
  ·rw[if_pos p]
   obtain⟨t,r,rfl,I⟩:=JU p;have C:=o.tail nX;refine NX f ?_ C.I3;intro s i;rcases mA.1 i with i|i
   ·exact j s i
   ·rw[mS.1 i];exact N9 C
  ·rw[if_neg p];exact⟨j,o⟩
theorem UR(p:Ql l):match CT l with | .error f=>f.1≠0 | .ok (r,R)=>RQ r/\Ql R/\R.length<l.length:=by
 cases i:CT l with
 | error f=>
  simp only;obtain⟨t,r,rfl⟩:=p.ended.cons;unfold CT at i;simp only at i;split at i
  ·injection i with i;rw[<-i];exact p.bad
  rename_i U;have I:=p.tail nX;split at i
  ·rename_i J
   obtain⟨u,o,rfl,hu⟩:=JU J;have C:=I.tail nX;have j:=NX (u::o).length (a:=[BU o]) (l:=o.dropWhile Bi) (fun s j=>by rw[mS.1 j];exact N9 C) C.I3;split at i
   ·cases i
   ·injection i with i;rw[<-i];exact j.2.bad
  ·injection i with i;rw[<-i];exact I.bad
 | ok q=>
  obtain⟨r1,R⟩:=q;simp only;have a0:=(Ls i).1;obtain⟨t,r,rfl⟩:=p.ended.cons;unfold CT at i;simp only at i;split at i
  ·cases i
  rename_i U;have I:=p.tail nX;split at i
  ·rename_i J
   obtain⟨u,o,rfl,hu⟩:=JU J;have C:=I.tail nX;have j:=NX (u::o).length (a:=[BU o]) (l:=o.dropWhile Bi) (fun s j=>by rw[mS.1 j];exact N9 C) C.I3;split at i
   ·rename_i T
    injection i with i;obtain⟨rfl,rfl⟩:=Prod.mk.inj i;refine⟨⟨p.all t oA,j.1⟩,?_,a0⟩;obtain⟨v,r3,P,a1⟩:=JU T;simp only[List.drop_succ_cons,List.drop_zero]at P T ⊢;rw[P];have:=j.2;rw[P]at this;exact this.tail nX
   ·cases i
  ·cases i
theorem Vs:∀(f:Nat) {a:List PR} {l:List Tk},(∀r∈a,RQ r)->Ql l->l.length<f->match FK f a l with | .error f=>f.1≠0 | .ok J=>∀r∈J,RQ r
 | 0,a,l,_,_,C=>by omega
 | f+1,a,l,ha,I,C=>by
  have j:=UR I;unfold FK;by_cases h0:Cz 0 l=true
  ·rw[if_pos h0];exact ha
  ·rw[if_neg h0]
   cases o:CT l with
   | error e=>rw[o]at j;exact j
   | ok q=>
    obtain⟨r,R⟩:=q;rw[o]at j;obtain⟨p,t,P⟩:=j;refine Vs f ?_ t nX;intro u i;rcases mA.1 i with i|i
    ·exact ha u i
    ·rw[mS.1 i];exact p
theorem Zv(P:Ql l):match FC l with | .error f=>f.1≠0 | .ok x=>x.q/\∀r∈x.rules,RQ r:=by
 have j:=S4 (l.length+1) (x:=⟨[],[],[],[]⟩) ⟨oA,oA,oA,rfl⟩ P nX;unfold FC;cases t:FQ (l.length+1) ⟨[],[],[],[]⟩ l with
 | error e=>rw[t]at j;exact j
 | ok q=>
  obtain⟨x,l1⟩:=q;rw[t]at j;obtain⟨i,J,g3⟩:=j;have o:=UR J;simp only;cases I:CT l1 with
  | error e=>rw[I]at o;exact o
  | ok q=>
   obtain⟨r,l2⟩:=q;rw[I]at o;obtain⟨T,U,k3⟩:=o;have p:=Vs (l.length+1) (a:=[r]) (fun u R=>by rw[mS.1 R];exact T) U nX;simp only;cases C:FK (l.length+1) [r] l2 with
   | error e=>rw[C]at p;exact p
   | ok rs=>rw[C]at p;exact⟨⟨i.decl,i.marks,i.starts,i.same⟩,p⟩
theorem Vj{sz:Nat}(R:sz<=8192):∀(f p:Nat) (l:List UInt8) {o:List Tk},p+l.length=sz->Fb sz f p l=.ok o->Iq o/\(∀t∈o,TQ t)/\o.length<=l.length+1
 | 0,_,_,_,_,i=>by cases i
 | f+1,p,l,o,hp,i=>by
  simp only[Fb]at i;split at i
  ·injection i with i;subst i
   exact⟨rfl,fun t j=>by rw[mS.1 j];exact⟨oA,R⟩,oA⟩
  ·rename_i a1
   have a0:0<l.length:=by cases l with|nil=>simp at a1|cons _ _=>simp
   cases I:GJ sz p l with
   | error e=>rw[I]at i;cases i
   | ok q=>
    obtain⟨k,n⟩:=q;have hn:=(PF I).2 a0;have a2:=Ry I nX;rw[I]at i;simp only at i;cases J:Fb sz f (p+n) (l.drop n) with
    | error e=>rw[J]at i;cases i
    | ok a3=>
     rw[J]at i;injection i with i;obtain⟨C,P,T⟩:=Vj R f (p+n) (l.drop n) (by rw[List.length_drop];omega) J;rw[List.length_drop]at T;subst i;split
     ·exact⟨C,P,nX⟩
     ·rename_i U
      refine⟨?_,fun t j=>?_,oC⟩
      ·obtain⟨u,r,hu⟩:=C.cons
       rw[hu]at C ⊢;exact⟨U,C⟩
      ·rcases List.mem_cons.1 j with rfl|j
       ·exact⟨oC,by show p<=8192;omega⟩
       ·exact P t j
def ZU{l:List UInt8}(h:tokens l=.ok i):Ql i:=by
 unfold tokens at h;split at h
 ·cases h
 ·rename_i t
  obtain⟨j,o,p⟩:=Vj nX _ 0 l nX h;exact⟨j,o,nX⟩
theorem PX{C:AP->Bool}:∀(l:List Tk) (m:Option (Nat×Tk)) (T:List AP) {f:Bp},BN C m l T=.error f->f.1≠0
 | [],oN,T,f,h=>by cases h
 | [],oM (m,I),T,f,h=>by
  unfold BN Ex at h;by_cases p:C I.s=true
  ·rw[if_pos p]at h;cases h
  ·rw[if_neg p]at h;injection h with h;rw[<-h];simp
 | t::l,oN,T,f,h=>by
  unfold BN at h;cases i:Cy T t with
  | error e=>
   rw[i]at h;injection h with h;rw[<-h];unfold Cy at i;split at i
   ·injection i with i;rw[<-i];simp
   split at i
   ·injection i with i;rw[<-i];simp
   ·cases i
  | ok j=>rw[i]at h;exact PX l oN j h
 | t::l,oM (m,I),T,f,h=>by
  have J:∀(o:Option (Nat×Tk)),(match Cy T t with | .error e=>Except.error e | .ok j=>BN C o l j)=.error f->f.1≠0:=by
   intro o h;cases i:Cy T t with
   | error e=>
    rw[i]at h;injection h with h;rw[<-h];unfold Cy at i;split at i
    ·injection i with i;rw[<-i];simp
    split at i
    ·injection i with i;rw[<-i];simp
    ·cases i
   | ok j=>rw[i]at h;exact PX l o j h
  unfold BN at h;split at h
  ·unfold Ex at h
   by_cases p:C I.s=true
   ·rw[if_pos p]at h;exact J oN h
   ·rw[if_neg p]at h;injection h with h;rw[<-h];simp
  ·exact J (oM (m,I)) h
theorem Zc(h:GF x=.error f):f.1≠0:=by
 unfold GF at h;cases i:BN (leftOf x) (B5 x) x.decl [] with
 | error e=>
  rw[i]at h;simp only at h;split at h
  ·injection h with h;rw[<-h];simp
  ·injection h with h;rw[<-h];exact PX _ _ _ i
 | ok T=>
  rw[i]at h;simp only at h;split at h
  ·injection h with h;rw[<-h];simp
  ·cases h
theorem Tm{j:AP->Bool}:∀(l:List Tk) (b:Bd) (k:Nat) {f:Bp},D5 j b k l=.error f->f.1≠0
 | [],b,k,f,h=>by cases h
 | t::l,b,k,f,h=>by
  unfold D5 at h;cases i:DZ j b t k with
  | error e=>
   rw[i]at h;injection h with h;rw[<-h];unfold DZ at i;split at i
   ·injection i with i;rw[<-i];simp
   split at i
   ·cases i
   split at i
   ·split at i
    ·injection i with i;rw[<-i];simp
    ·cases i
   split at i
   ·cases i
   ·injection i with i;rw[<-i];simp
  | ok o=>rw[i]at h;exact Tm l o (k+1) h
theorem iO{j:AP->Bool}{left:AP}{s:PS}(h:DS j b left s=.error f):f.1≠0:=by
 unfold DS at h;split at h
 ·injection h with h;rw[<-h];simp
 cases i:D5 j b 0 s.l with
 | error e=>rw[i]at h;injection h with h;rw[<-h];exact Tm _ _ _ i
 | ok l=>
  rw[i]at h;simp only at h;split at h
  ·injection h with h;rw[<-h];simp
  ·cases h
theorem Sj{j:AP->Bool}{left:AP}:∀(l:List PS) (b:Bd) {f:Bp},FD j left b l=.error f->f.1≠0
 | [],b,f,h=>by cases h
 | s::l,b,f,h=>by
  unfold FD at h;cases i:DS j b left s with
  | error e=>rw[i]at h;injection h with h;rw[<-h];exact iO i
  | ok o=>rw[i]at h;exact Sj l o h
theorem Rm{o:AP->Bool}{D:Nat}:∀(l:List PR) (b:Bd) {f:Bp},Df o D b l=.error f->f.1≠0
 | [],b,f,h=>by cases h
 | r::l,b,f,h=>by
  unfold Df J2 at h;cases i:EP D b r.left with
  | error e=>
   rw[i]at h;injection h with h;rw[<-h];unfold EP at i;split at i
   ·injection i with i;rw[<-i];simp
   split at i
   ·cases i
   split at i
   ·injection i with i;rw[<-i];simp
   ·cases i
  | ok p=>
   rw[i]at h;simp only at h;cases j:FD o r.left.s p r.GQ with
   | error e=>rw[j]at h;injection h with h;rw[<-h];exact Sj _ _ j
   | ok t=>rw[j]at h;exact Rm l t h
theorem lh(h:GH x=.error f):f.1≠0:=by
 unfold GH at h;cases i:GF x with
 | error e=>rw[i]at h;injection h with h;rw[<-h];exact Zc i
 | ok T=>
  rw[i]at h;simp only at h;cases j:Df (leftOf x) T.length ⟨T,[],[]⟩ x.rules with
  | error e=>rw[j]at h;injection h with h;rw[<-h];exact Rm _ _ j
  | ok b=>rw[j]at h;cases h
def gS(h:x.q):DI x.marks<=100000:=by
 have i:=h.marks;unfold DI;split
 ·rename_i a m r e
  have:=i m (by rw[e];simp);omega
 ·omega
