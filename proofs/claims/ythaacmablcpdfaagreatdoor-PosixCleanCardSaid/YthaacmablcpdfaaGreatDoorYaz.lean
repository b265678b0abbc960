/- The reader. The reader. The builder. The builder. The builder. The builder. The builder. The builder. slices. The first symbol of a name. What is read is short. -/
import Derived.Test.YthaacmablcpdfaaGreatDoorYaj
import Derived.BigRegion
import Derived.BigQuiet
import Derived.Test.YthaacmablcpdfaaGreatDoorYn
set_option linter.unusedVariables false
set_option maxRecDepth 100000
set_option maxHeartbeats 16000000
namespace Go.Proofs.YthaacmablcpdfaaGreatDoor
open Go.RowKit
section
open Go.RowKit Go.Maps
theorem OA{w:World}{mb n:Nat}{D:DataW Unit}{L:List (List UInt8)}(h:w.ownsMap Tryz.prog 9 (plainElem Tryz.prog 3) mb n D)(p:IQ D L){s:List UInt8}(C:s.length<=8192):(Instr.lookup 137 (.map (some mb)) (.string (str s)) false).run Tryz.prog w=.ok (.int .i64 (L.count s)) w:=by have t:=WideMaps.keyOf_string_mk Tryz.underlying9 (s:=str s) (by rw[Km];unfold maxLen;omega);obtain⟨c,j,l,_⟩:=h.lookup_int IB Tryz.underlying137 Tryz.underlying3 (Lq w) t;rw[j];have o:=p s;have i:D.atKey (B6 s) (.lit (.int .i64 0))=.lit (.int .i64 c):=l;rw[o]at i;simp only[DataW.lit.injEq,Lit.int.injEq,true_and]at i;rw[<-i]
theorem ZM{w:World}{mb n:Nat}{D:DataW Unit}(h:w.ownsMap Tryz.prog 9 (plainElem Tryz.prog 3) mb n D)(l:n<=100000){s:List UInt8}(o:s.length<=8192){c:Nat}(j:c<=100000) :
  ∃w',(Instr.mapUpdate 137 (.map (some mb)) (.string (str s)) (.int .i64 ((c:Int)+1))).run Tryz.prog w=.ok () w'/\w'.ownsMap Tryz.prog 9 (plainElem Tryz.prog 3) mb (n+1) (D.put (B6 s) (.lit (.int .i64 (c+1))))/\w.grownBy w' (some mb):=by
 have i:=WideMaps.keyOf_string_mk Tryz.underlying9 (s:=str s) (by rw[Km];unfold maxLen;omega);exact h.update IB Tryz.underlying137 (by unfold maxLen;omega) i (plainElem_int Tryz.underlying3 (WalkArith.wf_i64 (by omega)))
theorem JK.drew{w j:World}{B rb mb o:Nat}{tb:Option Nat}{l:List Tk}{x:Bh}{p t I rv:Value}{C:List Bm}{q:Bm}{D:DataW Unit}(h:JK w j B rb mb o tb l x p t I rv C q D):JK w j.drew B rb mb o tb l x p t I rv C q D:=by have i:Aj (fun _=>False) j j.drew:=(Aj.refl _ _).drew;exact⟨h.Bp.drew,i.own h.rules (fun _ _=>id),fun r J=>(h.Hg r J).Aw i (fun _ _ _=>id),D6 h.map i id,i.An h.An id,h.Aw.drew⟩
def Xb(w:World)(B rb mb:Nat)(tb:Option Nat)(x:Bh)(i j C:Value)(p:List Bm)(l:List Tk)(e:Ending)(w':World):Prop:=
 Aj (fun k=>k=rb\/B<=k\/k=mb) w w'/\match CQ l with
 | .ok (r,o)=>e=.returned (.tuple #[])/\∃t q D,q.r=r/\DL w' B rb mb tb o x i j C t (p++[q]) D
 | .error f=>BS f e
theorem Kh(l:List Tk):(l.dropWhile Ba).length<=l.length:=(List.dropWhile_sublist Ba).length_le
theorem Ya{t l:Tk}{i:List Tk}(p:t.k=1)(C:l.k=3){a:List PS}{o:Tk}{j:List Tk}(J:DK (i.length+1) [BR i] (i.dropWhile Ba)=(a,o::j))(I:o.k=5):CQ (t::l::i)=.ok (⟨t,a⟩,j):=by simp[CQ,p,Cm,C,J,I]
theorem Zc{t o:Tk}{i:List Tk}(p:t.k=1)(C:o.k=3){a:List PS}{j:Tk}{l:List Tk}(J:DK (i.length+1) [BR i] (i.dropWhile Ba)=(a,j::l))(I:j.k≠5):CQ (t::o::i)=.error (DG (j::l)):=by simp[CQ,p,Cm,C,J,I]
def Ka(S:List PS×List Tk)(i:List GS)(rest:List Tk):Prop:=∃f,rest.length<=f/\S=DK f (i.map GS.s) rest
theorem Ka.step{S:List PS×List Tk}{j:List GS}{t:Tk}{r:List Tk}(h:Ka S j (t::r))(l:t.k=4)(q:GS)(o:q.s=BR r):Ka S (j++[q]) (r.dropWhile Ba):=by
 obtain⟨f,i,h⟩:=h;cases f with
 | zero=>simp at i
 | succ f=>have:=Kh r;simp at i;refine⟨f,by omega,?_⟩;rw[h,DK,if_pos (by simp[Cm,l])];simp[o]
theorem Ka.last{S:List PS×List Tk}{i:List GS}{t:Tk}{r:List Tk}(h:Ka S i (t::r))(l:t.k≠4):S=(i.map GS.s,t::r):=by
 obtain⟨f,j,h⟩:=h;cases f with
 | zero=>simp at j
 | succ f=>rw[h,DK,if_neg (by simp[Cm,l])]
theorem M6{w:World}{B rb mb:Nat}{tb:Option Nat}{l:List Tk}{x:Bh}{dv kv sv rv:Value}{p:List Bm}{D:DataW Unit}(h:DL w B rb mb tb l x dv kv sv rv p D)(bi:∀u∈l,u.s.length<=8192):Calls Tryz.prog 121 #[.pointer (some ⟨rb,0,none⟩)] w (Xb w B rb mb tb x dv kv sv p l):=by
 obtain⟨t,r,rfl⟩:=h.Bp.AW.ended.cons;have bj:=bi t (by simp);have b2:=Hd bj;clear bi bj;obtain⟨Ar,cr,rfl⟩:=Bw h.rules;by_cases P:t.k=1
 ·obtain⟨ai,bd⟩:=h.Bp.AW.ended.tail (by omega)
  obtain⟨t2,i,rfl⟩:=ai.cons;have ae:=Hd (h.Bp.AW.want 1 1 rfl P (by omega));have ba:=h.Bp.AW.lt;have cj:=h.lr;simp at cj;have T:=Hd h;by_cases h3:t2.k=3
  ·obtain⟨b7,cm⟩:=ai.tail (by omega)
   obtain⟨t3,r3,cn⟩:=b7.cons;have ax:=Hd P;have ao:=Hd h3;have an:=Hd (Kh i);clear h P h3 ai bd b7 cm cn;go_enter Tryz.func121,Tryz.ntmps121
   go_wp2_with (first
    | (
      go_at_call 169;(with_reducible refine ae.out.mono ?_);intro e w1 o;obtain⟨rfl,a3,a9⟩:=o
      have al:=Hd a3;have cp:=a3.size;have aa:=a9.Aw ((Aj.refl (fun _=>False) w1).alloc (.cells #[.int .i64 t.k,.string (str t.s),.int .i64 t.p,.slice none 0 0] 208)) id (fun _ _=>id);have bl:=Hd (Ah.new w1 208 #[.int .i64 t.k,.string (str t.s),.int .i64 t.p,.slice none 0 0]);have aq:=Hd (aa.want 3 3 rfl ao.out (by omega));clear a3 a9 aa)
    | (
      go_at_call 169;(with_reducible refine aq.out.mono ?_);intro e w2 o;obtain⟨rfl,au,bh⟩:=o
      have b6:=au.An bl.out (by omega);have bx:Hid (Hc w rb dv kv sv (.slice Ar p.length cr) (.map (some mb)) tb w1.heap.size t (.slice none 0 0) [] i w2):=Hd ⟨bh,b6,World.ownsRow_nil _ _ _ _,(by simp),(al.out.alloc _).next au,cp,ba.1,ba.2⟩;clear au bh b6))
   generalize w1.heap.size=bb at *;have HD:=Hd bx.out.drew;have c8:=Hd (R6 HD.out.AW (by omega));have b3:=HD.out.An.cell 3;have u3:=HD.out.An.frozen 3;have d2:=HD.out.Aw.size;simp at b3;go_region_law (first
    | (
      refine Ep SM (.tmp 9) (.tmp 12) ?_ ?_ (base:=w.heap.size) (n:=0) (m:=1) (N:=1) (v:=.slice none 0 0) (src:=.slice (some ⟨w3.heap.size,0,none⟩) 1 1) (xs:=[]) (news:=[.slice A (BR i).l.length c,.int .i64 (BR i).p]) ?_ ?_ ?_ ?_ ?_ ?_ ?_ ?_ ?_
      · rfl
      · rfl
      · rfl
      · rfl
      · exact World.ownsRow_nil _ _ _ _
      · exact TZ w3 _ _ _ _
      · rfl
      · unfold maxLen;omega
      · omega
      · simp;omega
      intro A4 c4 w4 r1 a2 r3;have HF:=Hd (HD.out.rel rfl bm.out bz.out bu.out r1 a2);have a0:=a2.An (bk.out.alloc _) (.inr (by decide));have z0:=a0.cell 3;have z1:=a0.frozen 3;simp at z0;clear r1 a2 r3 a0)
    | (
      go_simp;go_at_call 170;refine c8.out.mono ?_;intro e w3 o;obtain⟨A,c,rfl,af,av,be⟩:=o;have a7:=HD.out.later af av;have y0:=a7.An.cell 3;have y1:=a7.An.frozen 3;simp at y0;have bk:=Hd a7.An;have cs:=a7.An.lt;have bm:=Hd af;have bz:=Hd av;have bu:=Hd be;have d0:w2.heap.size<=w3.heap.size:=af.size;clear af av be a7))
   all_goals go_wp2
   all_goals
    have b9:([⟨BR i,.slice A (BR i).l.length c⟩]:List GS).length+(i.dropWhile Ba).length<=100000:=by have:=an.out;simp;omega
    have bq:=Hd (And.intro b9 an.out);clear b9;go_loopg [] (i.dropWhile Ba).length (fun n wr=>∃(bv:Value) (j:List GS) (rest:List Tk),n=rest.length/\Hid (Hc w rb dv kv sv (.slice Ar p.length cr) (.map (some mb)) tb bb t bv j rest wr)/\Hid (Ka (DK (i.length+1) [BR i] (i.dropWhile Ba)) j rest)/\Hid (j.length+rest.length<=100000/\rest.length<=i.length))
    case atStart=>exact⟨.slice A4 1 c4,[⟨BR i,.slice A (BR i).l.length c⟩],i.dropWhile Ba,rfl,Hd HF.out,Hd ⟨i.length+1,by have:=an.out;omega,rfl⟩,bq⟩
    case round=>
     obtain⟨bv,j,rest,rfl,I,b4,br⟩:=hrel;obtain⟨t4,r4,rfl⟩:=I.out.AW.ended.cons;have a4:=Hd (I.out.AW.is 4 4 rfl);obtain⟨Ab,cb,rfl⟩:=Bw I.out.own;obtain⟨ck,cl⟩:=br.out;simp at ck cl;by_cases U:t4.k=4
     · have a6:(t4.k==4)=true:=by simp[U]
       rw[a6]at a4;have ca:=Hd (I.out.AW.take (by omega));have ay:=Hd U;clear a6 U;go_wp2_with (first
         | (go_at_call 118;(with_reducible refine a4.out.mono ?_);rintro e w' ⟨rfl,ad⟩;subst ad)
         | (
           go_at_call 120;refine ca.out.mono ?_;intro e w5 o;obtain⟨rfl,a5,ab⟩:=o
           have J:=Hd (I.out.later a5 ab);clear a5 ab))
       have C:=Hd J.out.drew;have c9:=Hd (R6 C.out.AW (by omega));have b5:=C.out.An.cell 3;have u5:=C.out.An.frozen 3;have d3:=C.out.Aw.size;simp at b5;go_region_law (first
         | (
           refine Ep SM (.tmp 20) (.tmp 23) ?_ ?_ (base:=w.heap.size) (n:=j.length) (m:=1) (N:=j.length+1) (v:=.slice Ab j.length cb) (src:=.slice (some ⟨w6.heap.size,0,none⟩) 1 1) (xs:=j.flatMap GS.cells) (news:=[.slice A6 (BR r4).l.length c6,.int .i64 (BR r4).p]) ?_ ?_ ?_ ?_ ?_ ?_ ?_ ?_ ?_
           · rfl
           · rfl
           · rfl
           · rfl
           · exact az.out.own.alloc _
           · exact TZ w6 _ _ _ _
           · rfl
           · unfold maxLen;omega
           · omega
           · simp;omega
           intro A7 c7 w7 r1 a2 r3;have HG:=Hd (C.out.rel rfl bn.out c0.out bw.out r1 a2);have a0:=a2.An (az.out.An.alloc _) (.inr (by decide));have z0:=a0.cell 3;have z1:=a0.frozen 3;simp at z0;clear r1 a2 r3 a0)
         | (
           go_simp;go_at_call 170;refine c9.out.mono ?_;intro e w6 o;obtain⟨A6,c6,rfl,ag,a1,bf⟩:=o;have a8:=C.out.later ag a1;have y0:=a8.An.cell 3;have y1:=a8.An.frozen 3;simp at y0;have az:=Hd a8;have cu:=a8.An.lt;have bn:=Hd ag;have c0:=Hd a1;have bw:=Hd bf;have d1:w5.heap.size<=w6.heap.size:=ag.size;clear ag a1 bf a8))
       all_goals go_wp2
       all_goals have cv:=Kh r4
       all_goals go_roundg (r4.dropWhile Ba).length
       all_goals first
         | (case measure=>simp;omega)
         | (case rel=>exact⟨.slice A7 (j.length+1) c7,j++[⟨BR r4,.slice A6 (BR r4).l.length c6⟩],r4.dropWhile Ba,rfl,Hd HG.out,Hd (b4.out.step ay.out _ rfl),Hd ⟨by simp;omega,by omega⟩⟩)
     · have a6:(t4.k==4)=false:=by simp[U]
       rw[a6]at a4;have b0:=Hd (b4.out.last U);have ay:=Hd U;clear a6 U;by_cases h5:t4.k=5
       · have ar:=Hd (I.out.AW.want 5 5 rfl h5 (by omega))
         have R:=Hd (Ya ax.out ao.out b0.out h5);clear h5;go_wp2_with (first
          | (go_at_call 118;(with_reducible refine a4.out.mono ?_);rintro e w' ⟨rfl,ad⟩;subst ad)
          | (
             go_at_call 169;refine ar.out.mono ?_;intro e w5 o;obtain⟨rfl,a5,ab⟩:=o
             have J:=Hd (I.out.later a5 ab);clear a5 ab))
         have C:=Hd J.out.drew;have aw:=Hd (T.out.Bp.Aw C.out.Aw (fun _ h=>h) C.out.AW (by simp;omega));have b1:=Hd (C.out.Aw.own T.out.rules (Cu T.out.rules T.out.Bp.Ey));obtain⟨_,_,_,e4,e5,cy⟩:=J.out.AW.cells;have x0:=J.out.An.cell 0;have x1:=J.out.An.cell 1;have x2:=J.out.An.cell 2;have x3:=J.out.An.cell 3;simp at x0 x1 x2 x3;have cc:B<=w5.heap.size:=aw.out.bB;have ct:=J.out.An.lt;go_region_law (
              refine Ep VP (.tmp 32) (.tmp 34) ?_ ?_ (base:=B) (n:=p.length) (m:=1) (N:=p.length+1) (v:=.slice Ar p.length cr) (src:=.slice (some ⟨w5.heap.size,0,none⟩) 1 1) (xs:=p.flatMap Bm.cells) (news:=[.int .i64 t.k,.string (str t.s),.int .i64 t.p,.slice Ab j.length cb]) ?_ ?_ ?_ ?_ ?_ ?_ ?_ ?_ ?_
              ·rfl
              ·rfl
              ·rfl
              ·rfl
              ·exact b1.out.alloc _
              ·exact Bc.An (c:=1) (Ah.new w5.drew 208 #[.int .i64 t.k,.string (str t.s),.int .i64 t.p,.slice Ab j.length cb]) rfl (by simp[Value.oneCell'])
              ·rfl
              ·unfold maxLen;omega
              ·omega
              ·simp at cc ⊢;omega
              intro A6 c6 w6 q1 q2 q3;have ak:=Hd (VZ (o:=.cells #[.int .i64 t.k,.string (str t.s),.int .i64 t.p,.slice Ab j.length cb] 208) T.out C.out (by simp;omega) q1 q3);have a1:=aw.out.grown (o:=.cells #[.int .i64 t.k,.string (str t.s),.int .i64 t.p,.slice Ab j.length cb] 208) (BU b1.out) q3.1;obtain⟨_,_,_,cA,_,_⟩:=a1.cells;have vA:=a1.frozen 4;clear q1 q2 q3 a1)
         all_goals go_wp2
         all_goals generalize cq:World.setCell w6 ⟨rb,4,none⟩ (.slice A6 (p.length+1) c6)=w7 at *
         all_goals clear cA vA e4 e5 x0 x1 x2 x3 cq
         all_goals have aj:=Hd ak.out.drew
         all_goals obtain⟨_,_,_,_,e5,_⟩:=ak.out.Bp.AW.cells
         all_goals have x1:=ak.out.An.cell 1
         all_goals simp at x1
         all_goals have cw:=OA aj.out.map T.out.Lb b2.out
         all_goals have ch:(p.map fun r=>r.left.s).count t.s<=(p.map fun r=>r.left.s).length:=List.count_le_length
         all_goals simp at ch
         all_goals generalize ah:(p.map fun r=>r.left.s).count t.s=n0 at *
         all_goals obtain⟨w8,cx,bc,b8⟩:=ZM aj.out.map (by omega) b2.out (c:=n0) (by omega)
         all_goals have cz:IntKind.i64.wrap ((n0:Int)+1)=(n0:Int)+1:=IntWalk.i64_in _ (by omega)
         all_goals have bt:=Hd bc
         all_goals have bp:=Hd b8
         all_goals have bo:=Hd ah
         all_goals clear bc b8 ah
         all_goals go_region
         all_goals go_end0
         all_goals have ah:=bo.out
         all_goals subst ah
         all_goals obtain⟨g1,g2⟩:=JK.last T.out (by simp;omega) aj.out bp.out bt.out
         all_goals refine⟨g2,?_⟩
         all_goals rw[R.out]
         all_goals exact⟨rfl,_,_,_,rfl,g1⟩
       · have ar:=Hd (I.out.AW.Mx 5 5 rfl h5)
         have R:=Hd (Zc ax.out ao.out b0.out h5);clear h5;go_wp2_with (first
          | (go_at_call 118;(with_reducible refine a4.out.mono ?_);rintro e w' ⟨rfl,ad⟩;subst ad)
          | (go_at_call 169;refine ar.out.mono ?_;rintro e w5 ⟨rfl,cg⟩))
         refine⟨rfl,(I.out.Aw.mono (fun _ h=>.inl h)).next (.AH cg),?_⟩;rw[R.out];exact BS.of rfl rfl
  ·have R:Hid (CQ (t::t2::i)=.error (DG (t2::i))):=Hd (by simp[CQ,P,Cm,h3])
   clear h P ai bd;go_enter Tryz.func121,Tryz.ntmps121
   go_wp2_with (first
    | (
      go_at_call 169;(with_reducible refine ae.out.mono ?_);intro e w1 o;obtain⟨rfl,a3,a9⟩:=o
      have al:=Hd a3;have aa:=a9.Aw ((Aj.refl (fun _=>False) w1).alloc (.cells #[.int .i64 t.k,.string (str t.s),.int .i64 t.p,.slice none 0 0] 208)) id (fun _ _=>id);have aq:=Hd (aa.Mx 3 3 rfl h3);clear a3 a9 aa)
    | (go_at_call 169;(with_reducible refine aq.out.mono ?_);rintro e w2 ⟨rfl,cf⟩))
   refine⟨rfl,((al.out.mono (fun _ h=>.inl h)).alloc _).next (.AH cf),?_⟩;rw[R.out];exact BS.of rfl rfl
 ·have ae:=Hd (h.Bp.AW.Mx 1 1 rfl P)
  have R:Hid (CQ (t::r)=.error (DG (t::r))):=Hd (by simp[CQ,P]);clear h P;go_enter Tryz.func121,Tryz.ntmps121
  go_wp2_with (go_at_call 169;refine ae.out.mono ?_;rintro e w1 ⟨rfl,cd⟩)
  refine⟨rfl,.AH cd,?_⟩;rw[R.out];exact BS.of rfl rfl
end
section
open Go.RowKit Go.Maps
theorem NK(l:List Tk):∀u∈l.dropWhile Ba,u∈l:=fun u i=>(List.dropWhile_sublist Ba).subset i
theorem ML{x o:Bh}{l j:List Tk}(h:Da x l=.ok (o,j)):j.length<l.length/\∀u∈j,u∈l:=by
 cases l with
 | nil=>cases h
 | cons t r=>
  simp only[Da]at h;split at h
  ·split at h
   ·cases h
   ·injection h with h
    obtain⟨rfl,rfl⟩:=Prod.mk.inj h;have:=Kh r;exact⟨by simp;omega,fun u i=>List.mem_cons_of_mem _ (NK r u i)⟩
  split at h
  ·split at h
   ·injection h with h
    obtain⟨rfl,rfl⟩:=Prod.mk.inj h;exact⟨by simp;omega,fun u i=>List.mem_cons_of_mem _ (List.mem_of_mem_drop i)⟩
   ·cases h
  ·cases h
theorem VH(f:Nat):∀(a:List PS) (l:List Tk),(DK f a l).2.length<=l.length/\∀u∈(DK f a l).2,u∈l:=by
 induction f with
 | zero=>intro a l;exact⟨AG _,fun u h=>h⟩
 | succ f o=>
  intro a l;unfold DK;split
  ·obtain⟨p,i⟩:=o (a++[BR (l.drop 1)]) ((l.drop 1).dropWhile Ba)
   have:=Kh (l.drop 1);have t:(l.drop 1).length<=l.length:=by simp
   exact⟨by omega,fun u j=>List.mem_of_mem_drop (NK _ u (i u j))⟩
  ·exact⟨AG _,fun u h=>h⟩
theorem JW{r:PR}{l i:List Tk}(h:CQ l=.ok (r,i)):i.length<l.length/\∀u∈i,u∈l:=by
 cases l with
 | nil=>cases h
 | cons t r=>
  simp only[CQ]at h;split at h
  ·cases h
  split at h
  ·split at h
   ·injection h with h
    obtain⟨rfl,rfl⟩:=Prod.mk.inj h;obtain⟨p,j⟩:=VH r.length [BR (r.drop 1)] ((r.drop 1).dropWhile Ba);have:=Kh (r.drop 1);have C:(r.drop 1).length<=r.length:=by simp
    refine⟨by rw[List.length_drop,List.length_cons];omega,fun u o=>List.mem_cons_of_mem _ (List.mem_of_mem_drop (NK _ u (j u (List.mem_of_mem_drop o))))⟩
   ·cases h
  ·cases h
def I5(H:Except Bi (Bh×List Tk))(x:Bh)(l:List Tk):Prop:=∃f,l.length<f/\H=FO f x l
theorem I5.step{H:Except Bi (Bh×List Tk)}{x o:Bh}{l j:List Tk}(h:I5 H x l)(p:Cm 6 l=false)(i:Da x l=.ok (o,j)):I5 H o j:=by
 obtain⟨f,t,h⟩:=h;have:=(ML i).1;cases f with
 | zero=>omega
 | succ f=>exact⟨f,by omega,by rw[h,FO,if_neg (by simp[p])];simp[i]⟩
theorem I5.fail{H:Except Bi (Bh×List Tk)}{x:Bh}{l:List Tk}{e:Bi}(h:I5 H x l)(i:Cm 6 l=false)(j:Da x l=.error e):H=.error e:=by
 obtain⟨f,o,h⟩:=h;cases f with
 | zero=>omega
 | succ f=>rw[h,FO,if_neg (by simp[i])];simp[j]
theorem I5.last{H:Except Bi (Bh×List Tk)}{x:Bh}{l:List Tk}(h:I5 H x l)(i:Cm 6 l=true):H=.ok (x,l.drop 1):=by
 obtain⟨f,j,h⟩:=h;cases f with
 | zero=>omega
 | succ f=>rw[h,FO,if_pos i]
def Jb(H:Except Bi (List PR))(a:List PR)(l:List Tk):Prop:=∃f,l.length<f/\H=Fi f a l
theorem Jb.step{H:Except Bi (List PR)}{a:List PR}{r:PR}{l j:List Tk}(h:Jb H a l)(h0:Cm 0 l=false)(i:CQ l=.ok (r,j)):Jb H (a++[r]) j:=by
 obtain⟨f,o,h⟩:=h;have:=(JW i).1;cases f with
 | zero=>omega
 | succ f=>exact⟨f,by omega,by rw[h,Fi,if_neg (by simp[h0])];simp[i]⟩
theorem Jb.fail{H:Except Bi (List PR)}{a:List PR}{l:List Tk}{e:Bi}(h:Jb H a l)(h0:Cm 0 l=false)(i:CQ l=.error e):H=.error e:=by
 obtain⟨f,j,h⟩:=h;cases f with
 | zero=>omega
 | succ f=>rw[h,Fi,if_neg (by simp[h0])];simp[i]
theorem Jb.last{H:Except Bi (List PR)}{a:List PR}{l:List Tk}(h:Jb H a l)(h0:Cm 0 l=true):H=.ok a:=by
 obtain⟨f,i,h⟩:=h;cases f with
 | zero=>omega
 | succ f=>rw[h,Fi,if_pos h0]
def Ul(w:World)(B rb mb:Nat)(tb:Option Nat)(l:List Tk)(e:Ending)(w':World):Prop:=
 Aj (fun k=>k=rb\/B<=k\/k=mb) w w'/\match Fz l with
 | .ok y=>e=.returned (.tuple #[])/\∃p j o C t i D,i.map Bm.r=y.rules/\DL w' B rb mb tb p y j o C t i D
 | .error f=>BS f e
theorem DL.EG{w:World}{B rb mb:Nat}{tb:Option Nat}{l:List Tk}{x:Bh}{i j p rv:Value}{o:List Bm}{D:DataW Unit}(h:DL w B rb mb tb l x i j p rv o D)(R:List PR):DL w B rb mb tb l {x with rules:=R} i j p rv o D:=by obtain⟨⟨t,J,P,T,U,a6,a7,a8,a9,C,I⟩,b2,b3,b4,b5,b6,b7,b8⟩:=h;exact⟨⟨t,J,P,T,U,a6,a7,a8,a9,C,I⟩,b2,b3,b4,b5,b6,b7,b8⟩
theorem XB{w:World}{B rb mb:Nat}{tb:Option Nat}{l:List Tk}(h:Dd w B rb (.slice none 0 0) (.map (some mb)) tb l ⟨[],[],[],[]⟩ (.slice none 0 0) (.slice none 0 0) (.slice none 0 0))(hm:w.ownsMap Tryz.prog 9 (plainElem Tryz.prog 3) mb 0 (.map []:DataW Unit))(b9:mb<B)(aq:mb≠rb)(ax:∀u∈l,u.s.length<=8192):Calls Tryz.prog 68 #[.pointer (some ⟨rb,0,none⟩)] w (Ul w B rb mb tb l):=by
 have be:l.length<=100000:=by have:=h.ld;simp at this;omega
 have HH:=Hd h;have ak:=Hd ax;have HM:=Hd hm;clear h ax hm;go_enter Tryz.func68,Tryz.ntmps68
 go_wp2;go_loopg [] l.length (fun n wr=>∃(x:Bh) (l':List Tk) (dv kv sv:Value),n=l'.length/\Hid (Dd wr B rb (.slice none 0 0) (.map (some mb)) tb l' x dv kv sv)/\Hid (Aj (fun k=>k=rb\/B<=k) w wr)/\Hid (I5 (FO (l.length+1) ⟨[],[],[],[]⟩ l) x l')/\Hid ((∀u∈l',u∈l)/\l'.length<=l.length))
 case atStart=>exact⟨⟨[],[],[],[]⟩,l,_,_,_,rfl,HH,Hd (Aj.refl _ _),Hd ⟨l.length+1,by omega,rfl⟩,Hd ⟨fun u h=>h,AG _⟩⟩
 case round=>
  obtain⟨x,l',dv,kv,sv,rfl,HR,HC,HT,T⟩:=hrel;obtain⟨a3,r,rfl⟩:=HR.out.AW.ended.cons;have U:=Hd (HR.out.AW.is 6 6 rfl);by_cases h6:a3.k=6
  ·have o:(a3.k==6)=true:=by simp[h6]
   rw[o]at U;have ab:=Hd (HT.out.last (by simpa [Cm] using o));have an:=Hd (HR.out.AW.take (by omega));clear o h6;have ai:=Hd (fun(R:World) (J:Aj (·=rb) wr R) (hs:Cj R rb dv kv sv (.slice none 0 0) (.map (some mb)) tb r)=>(⟨HR.out.Aw J (fun _ h=>h) hs (by simp),World.ownsRow_nil _ _ _ _,by simp,D6 (D6 HM.out HC.out (by omega)) J aq,IQ.start,b9,aq,by have:=T.out.2;simp at this ⊢;omega⟩:DL R B rb mb tb r x dv kv sv (.slice none 0 0) [] (.map [])));have al:=Hd (fun u (t:u∈r)=>ak.out u (T.out.1 u (List.mem_cons_of_mem _ t)));cases ho:CQ r with
   | error f=>
    have j:=Hd ho;clear ho;go_wp2_with (first
     | (go_at_call 118;(with_reducible refine U.out.mono ?_);rintro e w' ⟨rfl,p⟩;subst p)
     | (go_at_call 120;refine an.out.mono ?_;intro e R i;obtain⟨rfl,P,a1⟩:=i;have a8:=Hd P;have ad:=Hd (M6 (ai.out _ P a1) al.out);clear P a1)
     | (go_at_call 121;refine ad.out.mono ?_;intro e w2 i;obtain⟨a5,i⟩:=i;rw[j.out]at i;have i:e=_:=i;subst i))
    refine⟨rfl,(((HC.out.next (a8.out.mono (fun _ h=>.inl h))).mono (fun ay hi=>hi.imp id .inl)).next a5),?_⟩;unfold Fz;rw[ab.out];simp only[List.drop_succ_cons,List.drop_zero];rw[j.out];exact BS.of rfl rfl
   | ok a2=>
    obtain⟨r1,C⟩:=a2;have j:=Hd ho;clear ho;go_wp2_with (first
     | (go_at_call 118;(with_reducible refine U.out.mono ?_);rintro e w' ⟨rfl,p⟩;subst p)
     | (go_at_call 120;refine an.out.mono ?_;intro e R i;obtain⟨rfl,P,a1⟩:=i;have a8:=Hd P;have ad:=Hd (M6 (ai.out _ P a1) al.out);clear P a1)
     | (
       go_at_call 121;refine ad.out.mono ?_;intro e w2 i;obtain⟨a5,i⟩:=i;rw[j.out]at i;obtain⟨rfl,bb,q2,D2,ar,av⟩:=i
       have a9:=Hd ((((HC.out.next (a8.out.mono (fun _ h=>.inl h))).mono (fun ay hi=>hi.imp id .inl)).next a5:Aj (fun k=>k=rb\/B<=k\/k=mb) w w2));have b4:=Hd ar;have b6:=Hd av;clear a5 ar av))
    go_loopg [] C.length (fun n wx=>∃(rv:Value) (rs:List Bm) (D:DataW Unit) (l3:List Tk),n=l3.length/\Hid (DL wx B rb mb tb l3 x dv kv sv rv rs D)/\Hid (Aj (fun k=>k=rb\/B<=k\/k=mb) w wx)/\Hid (Jb (Fi (l.length+1) [r1] C) (rs.map Bm.r) l3)/\Hid (∀u∈l3,u∈l))
    case atStart=>exact⟨bb,[q2],D2,C,rfl,b6,a9,Hd ⟨l.length+1,by have:=(JW j.out).1;have:=T.out.2;simp at this;omega,by rw[<-b4.out];rfl⟩,Hd (fun u t=>T.out.1 u (List.mem_cons_of_mem _ ((JW j.out).2 u t)))⟩
    case round=>
     obtain⟨rv,rs,D,l3,rfl,a4,aa,ae,ah⟩:=hrel;obtain⟨t3,r3,rfl⟩:=a4.out.Bp.AW.ended.cons;have a0:=Hd (a4.out.Bp.AW.is 0 0 rfl);have aj:=Hd (M6 a4.out (fun u t=>ak.out u (ah.out u t)));have b0:Hid (∀a,Fi (l.length+1) [r1] C=.ok a->Fz l=.ok {x with rules:=a}):=Hd (fun a ha=>by unfold Fz;rw[ab.out];simp only[List.drop_succ_cons,List.drop_zero];rw[j.out];simp only;rw[ha])
     have b1:Hid (∀f,Fi (l.length+1) [r1] C=.error f->Fz l=.error f):=Hd (fun f ha=>by unfold Fz;rw[ab.out];simp only[List.drop_succ_cons,List.drop_zero];rw[j.out];simp only;rw[ha])
     by_cases h0:t3.k=0
     ·have o:(t3.k==0)=true:=by simp[h0]
      rw[o]at a0;have b3:=Hd (ae.out.last (by simpa [Cm] using o));clear o h0;go_wp2_with (go_at_call 118;(with_reducible refine a0.out.mono ?_);rintro e w' ⟨rfl,p⟩;subst p)
      go_end0
      refine⟨aa.out,?_⟩;rw[b0.out _ b3.out];exact⟨rfl,_,_,_,_,_,_,_,rfl,a4.out.EG _⟩
     ·have o:(t3.k==0)=false:=by simp[h0]
      rw[o]at a0;have HK:=Hd (show Cm 0 (t3::r3)=false by simpa [Cm] using o);clear o h0;cases a7:CQ (t3::r3) with
      | error f=>
        have I:=Hd a7;clear a7;go_wp2_with (first
         | (go_at_call 118;(with_reducible refine a0.out.mono ?_);rintro e w' ⟨rfl,p⟩;subst p)
         | (go_at_call 121;refine aj.out.mono ?_;intro e w4 i;obtain⟨a6,i⟩:=i;rw[I.out]at i;have i:e=_:=i;subst i))
        refine⟨rfl,aa.out.next a6,?_⟩;rw[b1.out _ (ae.out.fail HK.out I.out)];exact BS.of rfl rfl
      | ok a2=>
        obtain⟨r4,l4⟩:=a2;have I:=Hd a7;clear a7;go_wp2_with (first
         | (go_at_call 118;(with_reducible refine a0.out.mono ?_);rintro e w' ⟨rfl,p⟩;subst p)
         | (go_at_call 121;refine aj.out.mono ?_;intro e w4 i;obtain⟨a6,i⟩:=i;rw[I.out]at i;obtain⟨rfl,bc,q4,D4,au,aw⟩:=i;have az:=Hd a6;have b5:=Hd au;have b7:=Hd aw;clear a6 au aw))
        have af:=(JW I.out).1
        go_roundg l4.length
        case measure=>exact af
        case rel=>exact⟨bc,rs++[q4],D4,l4,rfl,b7,Hd (aa.out.next az.out),Hd (by have h:=ae.out.step HK.out I.out;rw[<-b5.out]at h;rw[By];exact h),Hd (fun u t=>ah.out u ((JW I.out).2 u t))⟩
  ·have o:(a3.k==6)=false:=by simp[h6]
   rw[o]at U;have HK:=Hd (show Cm 6 (a3::r)=false by simpa [Cm] using o);have ag:=Hd (eD HR.out);clear o h6;cases he:Da x (a3::r) with
   | error f=>
    have j:=Hd he;clear he;go_wp2_with (first
     | (go_at_call 118;refine U.out.mono ?_;rintro e w' ⟨rfl,p⟩;subst p)
     | (go_at_call 119;refine ag.out.mono ?_;intro e R i;obtain⟨J,i⟩:=i;rw[j.out]at i;have i:e=_:=i;subst i))
    refine⟨rfl,(HC.out.next J).mono (fun ay hi=>hi.imp id .inl),?_⟩;unfold Fz;rw[HT.out.fail HK.out j.out];exact BS.of rfl rfl
   | ok a2=>
    obtain⟨x2,C⟩:=a2;have j:=Hd he;clear he;go_wp2_with (first
     | (go_at_call 118;refine U.out.mono ?_;rintro e w' ⟨rfl,p⟩;subst p)
     | (go_at_call 119;refine ag.out.mono ?_;intro e R i;obtain⟨J,i⟩:=i;rw[j.out]at i;obtain⟨rfl,b8,ba,bd,ao⟩:=i;have a9:=Hd J;have b2:=Hd ao;clear J ao))
    have af:=(ML j.out).1
    go_roundg C.length
    case measure=>exact af
    case rel=>exact⟨x2,C,b8,ba,bd,rfl,b2,Hd (HC.out.next a9.out),Hd (HT.out.step HK.out j.out),Hd ⟨fun u t=>T.out.1 u ((ML j.out).2 u t),by have:=T.out.2;omega⟩⟩
end
section
open Go.RowKit Go.Maps
def Nv(s:List UInt8):Value:=.string (str s)
structure BC where
 v:Value
 l:List AO
def Hj(D:DataW Unit)(L:List AO):Prop:=∀s,D.atKey (B6 s) (.lit (.int .i64 0))=.lit (.int .i64 (if s∈L then L.idxOf s+1 else 0:Nat))
theorem Hj.start:Hj (.map []) []:=fun s=>rfl
theorem Hj.next{D:DataW Unit}{L:List AO}(h:Hj D L)(o:Maps.Tidy D){s:AO}(l:s ∉ L):Hj (D.put (B6 s) (.lit (.int .i64 (L.length+1:Nat)))) (L++[s]):=by
 intro u;by_cases e:u=s
 ·subst e
  rw[Maps.atKey_put_same o.isMap (LR _),if_pos (by simp)];rw[List.idxOf_append,if_neg l];simp
 ·rw[Maps.atKey_put_other (fun j=>e (NL j)),h u]
  by_cases i:u∈L
  ·rw[if_pos i,if_pos (by simp[i]),List.idxOf_append,if_pos i]
  ·rw[if_neg i,if_neg (by simp[i,e])]
structure BO(w0 w:World)(bb tm nm rb:Nat)(tv nv gv:Value)(b:Bd)(gs:List BC)(DT DN:DataW Unit):Prop where
 below:Below w0.heap.size w0 w
 An:Ah w bb 144 #[.pointer (some ⟨rb,0,none⟩),.map (some tm),.map (some nm),tv,nv,.slice none 0 0,.int .i64 0,gv]
 ft:w.ownsRow w0.heap.size 9 1 tv b.T.length (b.T.map Nv)
 fn:w.ownsRow w0.heap.size 9 1 nv b.N.length (b.N.map Nv)
 fg:w.ownsRow w0.heap.size 30 1 gv gs.length (gs.map BC.v)
 names:gs.map BC.l=b.R
 rows:∀q∈gs,w.ownsRow w0.heap.size 9 1 q.v q.l.length (q.l.map Nv)
 tn:∀k,tv.ownBlock=some k->¬nv.ownBlock=some k
 tr:∀q∈gs,∀k,tv.ownBlock=some k->¬q.v.ownBlock=some k
 nr:∀q∈gs,∀k,nv.ownBlock=some k->¬q.v.ownBlock=some k
 mt:w.ownsMap Tryz.prog 9 (plainElem Tryz.prog 3) tm b.T.length DT
 mn:w.ownsMap Tryz.prog 9 (plainElem Tryz.prog 3) nm b.N.length DN
 pt:Hj DT b.T
 pn:Hj DN b.N
 b0:w0.heap.size<=bb/\w0.heap.size<=tm/\w0.heap.size<=nm
 b1:tm≠nm
 lt:b.T.length<=120
 ln:b.N.length<=120
 lr:b.R.length<=300
theorem Ko{w:World}{mb n:Nat}{D:DataW Unit}{L:List AO}(h:w.ownsMap Tryz.prog 9 (plainElem Tryz.prog 3) mb n D)(p:Hj D L){s:List UInt8}(C:s.length<=8192):(Instr.lookup 137 (.map (some mb)) (.string (str s)) false).run Tryz.prog w=.ok (.int .i64 (if s∈L then L.idxOf s+1 else 0:Nat)) w:=by have t:=WideMaps.keyOf_string_mk Tryz.underlying9 (s:=str s) (by rw[Km];unfold maxLen;omega);obtain⟨c,j,l,_⟩:=h.lookup_int IB Tryz.underlying137 Tryz.underlying3 (Lq w) t;rw[j];have o:=p s;have i:D.atKey (B6 s) (.lit (.int .i64 0))=.lit (.int .i64 c):=l;rw[o]at i;simp only[DataW.lit.injEq,Lit.int.injEq,true_and]at i;rw[<-i]
theorem Rn{w:World}{mb n:Nat}{D:DataW Unit}(h:w.ownsMap Tryz.prog 9 (plainElem Tryz.prog 3) mb n D)(l:n<=100000){s:List UInt8}(o:s.length<=8192){c:Nat}(j:c<=100000) :
  ∃w',(Instr.mapUpdate 137 (.map (some mb)) (.string (str s)) (.int .i64 (c:Int))).run Tryz.prog w=.ok () w'/\w'.ownsMap Tryz.prog 9 (plainElem Tryz.prog 3) mb (n+1) (D.put (B6 s) (.lit (.int .i64 (c:Int))))/\w.grownBy w' (some mb):=by
 have i:=WideMaps.keyOf_string_mk Tryz.underlying9 (s:=str s) (by rw[Km];unfold maxLen;omega);exact h.update IB Tryz.underlying137 (by unfold maxLen;omega) i (plainElem_int Tryz.underlying3 (WalkArith.wf_i64 (by omega)))
theorem FQ{w:World}{mb n p B:Nat}{D:DataW Unit}{e:TypeId}{s:Nat}{v:Value}{xs:List Value}(h:w.ownsMap Tryz.prog 9 (plainElem Tryz.prog 3) mb n D)(o:w.ownsRow B e s v p xs):¬v.ownBlock=some mb:=by
 intro j;obtain⟨C,clock,l,_⟩:=h;rcases Bv o with⟨rfl,_⟩|⟨b,c,rfl,_,_,_,_,t,i⟩
 ·cases j
 ·cases j
  unfold Ah at i;rw[l]at i;cases i
theorem GJ{w:World}{mb n g:Nat}{D:DataW Unit}{e:TypeId}{cs:Array Value}(h:w.ownsMap Tryz.prog 9 (plainElem Tryz.prog 3) mb n D)(i:Ah w g e cs):mb≠g:=by rintro rfl;obtain⟨l,clock,j,_⟩:=h;unfold Ah at i;rw[j]at i;cases i
theorem CD{w:World}{g B n:Nat}{e i:TypeId}{s:Nat}{cs:Array Value}{v:Value}{xs:List Value}(p:w.ownsRow B e s v n xs)(h:Ah w g i cs)(o:e≠i):¬v.ownBlock=some g:=by
 intro j;rcases Bv p with⟨rfl,_⟩|⟨b,c,rfl,_,_,_,_,t,l⟩
 ·cases j
 ·cases j
  exact Ah.A8 (t:=e) l h o rfl
theorem BO.Aw{X:Nat->Prop}{U w w':World}{C T R rb:Nat}{tv nv J:Value}{b:Bd}{I:List BC}{t p:DataW Unit}(h:BO U w C T R rb tv nv J b I t p)(i:Aj X w w')(j:∀k,k<w.heap.size->¬X k):BO U w' C T R rb tv nv J b I t p where
 below:=h.below.trans (i.below h.below.size (fun k hk=>j k (A0 hk h.below.size)))
 An:=i.An h.An (j _ h.An.lt)
 ft:=i.own h.ft (fun g l=>j g (BU h.ft g l).2)
 fn:=i.own h.fn (fun g l=>j g (BU h.fn g l).2)
 fg:=i.own h.fg (fun g l=>j g (BU h.fg g l).2)
 names:=h.names
 rows q P:=i.own (h.rows q P) (fun g l=>j g (BU (h.rows q P) g l).2)
 tn:=h.tn
 tr:=h.tr
 nr:=h.nr
 mt:=D6 h.mt i (j _ (by obtain⟨es,c,o,_⟩:=h.mt;exact(aG.1 o).1))
 mn:=D6 h.mn i (j _ (by obtain⟨es,c,o,_⟩:=h.mn;exact(aG.1 o).1))
 pt:=h.pt
 pn:=h.pn
 b0:=h.b0
 b1:=h.b1
 lt:=h.lt
 ln:=h.ln
 lr:=h.lr
end
section
open Go.RowKit Go.Maps
theorem Nc:El Tryz.prog 30 9 1 16:=El.of (z:=.string ⟨#[]⟩) Tryz.underlying30 (by kernel_rfl) rfl (by decide)
theorem N8(y:World)(s:ByteArray):Bc (y.alloc (.cells #[.string s] 9)) (.slice (some ⟨y.heap.size,0,none⟩) 1 1) 1 1 [.string s]:=
 Bc.An (c:=1) (Ah.new y 9 #[.string s]) rfl (by simp[Value.oneCell'])
theorem QD{w:World}{mb n:Nat}{D:DataW Unit}(h:w.ownsMap Tryz.prog 9 (plainElem Tryz.prog 3) mb n D):mb<w.heap.size:=by obtain⟨j,c,i,_⟩:=h;exact(aG.1 i).1
def DE(i l j:Nat)(tv nv:Value)(k:Nat):Prop:=k=i\/k=l\/k=j\/tv.ownBlock=some k\/nv.ownBlock=some k
def BH(w:World)(v i:Value):Prop:=∀k,i.ownBlock=some k->v.ownBlock=some k\/w.heap.size<=k
theorem BH.refl(w:World)(v:Value):BH w v v:=fun k h=>.inl h
theorem Zw{w0 w w2 J:World}{o:Obj}{j t C rb:Nat}{tv nv gv:Value}{b:Bd}{gs:List BC}{DT DN:DataW Unit}{s:AO}{l:Option Addr}{c2:Nat}
  (h:BO w0 w j t C rb tv nv gv b gs DT DN) (hs:s ∉ b.T) (a8:b.T.length<120)
  (ho:w2.ownsRow w0.heap.size 9 1 (.slice l (b.T.length+1) c2) (b.T.length+1) (b.T.map Nv++[Nv s]))
  (hg:(w.alloc o).grownBy w2 tv.ownBlock/\((Value.slice l (b.T.length+1) c2).ownBlock=tv.ownBlock\/(Value.slice l (b.T.length+1) c2).ownBlock=some (w.alloc o).heap.size))
  (hm:J.ownsMap Tryz.prog 9 (plainElem Tryz.prog 3) t (b.T.length+1) (DT.put (B6 s) (.lit (.int .i64 (b.T.length+1:Nat)))))
  (a5:(w2.setCell ⟨j,3,none⟩ (.slice l (b.T.length+1) c2)).drew.grownBy J (some t)) :
  BO w0 J j t C rb (.slice l (b.T.length+1) c2) nv gv {b with T:=b.T++[s]} gs (DT.put (B6 s) (.lit (.int .i64 (b.T.length+1:Nat)))) DN/\Aj (DE j t C tv nv) w J/\BH w tv (.slice l (b.T.length+1) c2):=by
 have hX:Aj (fun k=>tv.ownBlock=some k) w w2:=((Aj.refl _ w).alloc o).next (.Cw hg.1);have a4:Aj (fun k=>tv.ownBlock=some k\/k=j) w (w2.setCell ⟨j,3,none⟩ (.slice l (b.T.length+1) c2)).drew:=((hX.mono (fun a3 R=>.inl R)).set (p:=⟨j,3,none⟩) (.inr (.inr rfl)) _).drew;have h4:=Aj.of_map a5;have hY:Aj (fun k=>(tv.ownBlock=some k\/k=j)\/k=t) w J:=(a4.mono (fun a3 R=>.inl R)).next (h4.mono (fun a3 R=>.inr R));have a7:=h.An.lt;have a9:=QD h.mt;have e1:¬tv.ownBlock=some j:=CD h.ft h.An (by decide);have e2:¬tv.ownBlock=some t:=FQ h.mt h.ft;have e3:t≠j:=GJ h.mt h.An
 have e4:C≠j:=GJ h.mn h.An;have e5:¬tv.ownBlock=some C:=FQ h.mn h.ft;have a2:∀k,(Value.slice l (b.T.length+1) c2).ownBlock=some k->k≠j/\k≠t:=by
  intro k i;rcases hg.2 with e|e
  ·rw[e]at i
   exact⟨by rintro rfl;exact e1 i,by rintro rfl;exact e2 i⟩
  ·rw[e]at i
   cases i
   exact⟨by simp;omega,by simp;omega⟩
 have a0:∀{e:TypeId} {I n:Nat} {v:Value} {P:List Value},w.ownsRow w0.heap.size e I v n P->e≠144->(∀k,tv.ownBlock=some k->¬v.ownBlock=some k)->J.ownsRow w0.heap.size e I v n P:=by
  intro e I n v P U he hd;refine hY.own U ?_;rintro k i ((p|rfl)|rfl)
  ·exact hd k p i
  ·exact CD U h.An he i
  ·exact FQ h.mt U i
 have a1:∀{v:Value} {B n I:Nat} {e:TypeId} {P:List Value},w.ownsRow B e I v n P->(∀k,tv.ownBlock=some k->¬v.ownBlock=some k)->∀k,(Value.slice l (b.T.length+1) c2).ownBlock=some k->¬v.ownBlock=some k:=by
  intro v B n I e P U hd k i hv;rcases hg.2 with e|e
  ·rw[e]at i;exact hd k i hv
  ·rw[e]at i
   cases i
   have:=(BU U _ hv).2;simp at this;omega
 refine⟨?_,hY.mono ?_,?_⟩
 rotate_left
 ·rintro k ((p|rfl)|rfl)
  ·exact .inr (.inr (.inr (.inl p)))
  ·exact .inl rfl
  ·exact .inr (.inl rfl)
 ·intro k i
  rcases hg.2 with e|e
  ·exact .inl (e▸i)
  ·rw[e]at i
   cases i
   exact .inr (by simp)
 refine⟨?_,?_,?_,a0 h.fn (by decide) h.tn,a0 h.fg (by decide) (fun k i a6=>Gd h.ft h.fg (by decide) k i a6),h.names,fun q T=>a0 (h.rows q T) (by decide) (h.tr q T),a1 h.fn h.tn,fun q T=>a1 (h.rows q T) (h.tr q T),h.nr,by simpa using hm,?_,?_,h.pn,h.b0,h.b1,by simp;omega,h.ln,h.lr⟩
 ·refine h.below.trans (hY.below h.below.size ?_)
  rintro k i ((p|rfl)|rfl)
  ·have:=(BU h.ft k p).1;omega
  ·have:=h.b0.1;omega
  ·have:=h.b0.2.1;omega
 ·refine h4.An (cs:=#[.pointer (some ⟨rb,0,none⟩),.map (some t),.map (some C),.slice l (b.T.length+1) c2,nv,.slice none 0 0,.int .i64 0,gv]) ?_ (fun e=>e3 e.symm)
  have:=(hX.An h.An e1).Bn 3 (.slice l (b.T.length+1) c2);exact(Aj.refl (fun _=>False) _).drew.An (by simpa using this) id
 ·rw[By,show (b.T++[s]).length=b.T.length+1 by simp]
  exact h4.own ((Aj.refl (fun _=>False) _).drew.own (EB (by simpa using ho) (fun e=>(a2 _ e).1 rfl) _) (fun _ _=>id)) (fun k i e=>(a2 k i).2 e)
 ·refine D6 h.mn hY ?_
  rintro((p|p)|p)
  ·exact e5 p
  ·exact e4 p
  ·exact h.b1 p.symm
 ·exact h.pt.next (h.mt.tidy IB) hs
theorem BO.cells{I w:World}{i o l rb:Nat}{tv nv j:Value}{b:Bd}{C:List BC}{t p:DataW Unit}(h:BO I w i o l rb tv nv j b C t p) :
  w.cell? ⟨i,0,none⟩=some (.pointer (some ⟨rb,0,none⟩))/\w.cell? ⟨i,1,none⟩=some (.map (some o))/\w.cell? ⟨i,2,none⟩=some (.map (some l))/\w.cell? ⟨i,3,none⟩=some tv/\w.cell? ⟨i,4,none⟩=some nv/\w.cell? ⟨i,7,none⟩=some j/\i<w.heap.size:=
 ⟨h.An.cell 0,h.An.cell 1,h.An.cell 2,h.An.cell 3,h.An.cell 4,h.An.cell 7,h.An.lt⟩
theorem BO.drew{I w:World}{l C t rb:Nat}{tv nv p:Value}{b:Bd}{o:List BC}{j i:DataW Unit}(h:BO I w l C t rb tv nv p b o j i):BO I w.drew l C t rb tv nv p b o j i:=h.Aw ((Aj.refl (fun _=>False) w).drew) (fun _ _=>id)
theorem BO.alloc{J w:World}{l I C rb:Nat}{tv nv t:Value}{b:Bd}{p:List BC}{j i:DataW Unit}(h:BO J w l I C rb tv nv t b p j i)(o:Obj):BO J (w.alloc o) l I C rb tv nv t b p j i:=h.Aw ((Aj.refl (fun _=>False) w).alloc o) (fun _ _=>id)
def N6(i w:World)(j p l rb:Nat)(tv nv P:Value)(J:List BC)(r:Except Bi Bd)(e:Ending)(w':World):Prop:=
 Below i.heap.size i w'/\match r with
 | .ok b=>e=.returned (.tuple #[])/\∃t o I C,BO i w' j p l rb t o P b J I C/\Aj (DE j p l tv nv) w w'/\BH w tv t/\BH w nv o
 | .error f=>BS f e
def GY(b:Bd)(t:Tk):Except Bi Bd:=if 120<=b.T.length then .error (7,t.p) else .ok {b with T:=b.T++[t.s]}
theorem MF{w0 w:World}{j tm nm rb:Nat}{tv nv gv:Value}{b:Bd}{gs:List BC}{DT DN:DataW Unit}(h:BO w0 w j tm nm rb tv nv gv b gs DT DN)(t:Tk)(ht:t.s.length<=8192)(hs:t.s ∉ b.T) :
  Calls Tryz.prog 207 #[.pointer (some ⟨j,0,none⟩),.agg #[.int .i64 t.k,.string (str t.s),.int .i64 t.p]] w (N6 w0 w j tm nm rb tv nv gv gs (GY b t)):=by
 obtain⟨A,c,rfl⟩:=Bw h.ft;have o:=Hd (h.alloc (.cells #[.int .i64 t.k,.string (str t.s),.int .i64 t.p] 201));obtain⟨c0,c1,c2,c3,c4,c7,a5⟩:=h.cells;have a8:=h.below.size;have HS:=Hd hs;have HT:=Hd ht;have aq:=h.lt;by_cases P:120<=b.T.length
 ·have T:(120:Int)<=(b.T.length:Int):=by omega
  have HE:Hid (GY b t=.error (7,t.p)):=Hd (by simp[GY,P]);clear h hs ht P;generalize b.T.length=n at *;go_enter Tryz.func207,Tryz.ntmps207
  go_wp2_with (go_at_call 173;refine(Eg _ _ _).mono ?_;rintro e w' ⟨rfl,an⟩;subst an)
  refine⟨rfl,o.out.below,?_⟩;rw[HE.out];exact BS.of rfl rfl
 ·have T:¬(120:Int)<=(b.T.length:Int):=by omega
  have ai:b.T.length<120:=by omega
  have HE:Hid (GY b t=.ok {b with T:=b.T++[t.s]}):=Hd (by simp[GY,P]);clear h hs ht P;go_enter Tryz.func207,Tryz.ntmps207
  go_wp2;have a0:=Hd (Ah.new w 201 #[.int .i64 t.k,.string (str t.s),.int .i64 t.p]);have ar:w.heap.size<(w.alloc (.cells #[.int .i64 t.k,.string (str t.s),.int .i64 t.p] 201)).heap.size:=by simp
  have ab:=Hd (((Aj.refl (DE j tm nm (.slice A b.T.length c) nv) w).alloc (.cells #[.int .i64 t.k,.string (str t.s),.int .i64 t.p] 201)).drew);have af:Hid (∀v',BH ((w.alloc (.cells #[.int .i64 t.k,.string (str t.s),.int .i64 t.p] 201)).drew) (.slice A b.T.length c) v'->BH w (.slice A b.T.length c) v'):=Hd (fun v' h k hk=>(h k hk).imp id (fun h=>AX (by simp) h));clear c0 c1 c2 c3 c4 c7 a5 a8;generalize (w.alloc (.cells #[.int .i64 t.k,.string (str t.s),.int .i64 t.p] 201))=l at *;generalize w.heap.size=xb at *;obtain⟨c0,c1,c2,c3,c4,c7,a5⟩:=o.out.cells;have x1:=a0.out.cell 1
  simp at x1;have a8:=o.out.below.size;have i:=Hd o.out.drew;have a4:=Hd (((Aj.refl (fun _=>False) l).drew).An a0.out id);go_region_law (
   refine Ep Nc (.tmp 19) (.tmp 22) ?_ ?_ (base:=w0.heap.size) (n:=b.T.length) (m:=1) (N:=b.T.length+1) (v:=.slice A b.T.length c) (src:=.slice (some ⟨l.heap.size,0,none⟩) 1 1) (xs:=b.T.map Nv) (news:=[.string (str t.s)]) ?_ ?_ ?_ ?_ ?_ ?_ ?_ ?_ ?_
   ·rfl
   ·rfl
   ·rfl
   ·rfl
   ·exact i.out.ft.alloc _
   ·exact N8 l.drew _
   ·rfl
   ·unfold maxLen;omega
   ·omega
   ·simp;omega
   intro p R U T q2 q3;have a2:=Hd T;have a3:=Hd (show ((l.drew.alloc (.cells #[.string (str t.s)] 9)).grownBy U (Value.slice A b.T.length c).ownBlock/\_) from q3);have I:Aj (fun k=>(Value.slice A b.T.length c).ownBlock=some k) l.drew U:=((Aj.refl _ l.drew).alloc (.cells #[.string (str t.s)] 9)).next (.Cw q3.1);have J:=I.An i.out.An (CD i.out.ft i.out.An (by decide));have a9:=I.An a4.out (CD i.out.ft a4.out (by decide));have z3:=J.cell 3;have zf:=J.frozen 3;simp at z3;have aa:=Hd J;have ag:=Hd a9;have ad:=Hd (D6 i.out.mt I (FQ i.out.mt i.out.ft))
   clear T q2 q3 I J a9)
  all_goals go_wp2
  all_goals have aj:xb≠j:=fun e=>Ah.A8 (t:=201) a0.out o.out.An (by decide) e
  all_goals have a1:=Hd ((Aj.refl (fun _=>False) _).drew.An (aa.out.Bn 3 (.slice p (b.T.length+1) R)) id)
  all_goals have ah:=Hd ((Aj.refl (fun _=>False) _).drew.An (ag.out.BE (p:=⟨j,3,none⟩) (by simpa using aj) (.slice p (b.T.length+1) R)) id)
  all_goals have ae:=Hd (D6 ad.out ((Aj.refl (·=j) U).set (p:=⟨j,3,none⟩) (.inr rfl) (.slice p (b.T.length+1) R)).drew (GJ i.out.mt i.out.An))
  all_goals obtain⟨w4,ak,a7,a6⟩:=Rn ae.out (by omega) HT.out (c:=b.T.length+1) (by omega)
  all_goals have C:=Hd (Zw i.out HS.out ai a2.out a3.out a7 a6)
  all_goals clear a7 a6 c0 c1 c2 c3 c4 c7 x1 z3 zf a2 a3
  all_goals generalize ao:World.setCell U ⟨j,3,none⟩ (.slice p (b.T.length+1) R)=w3 at *
  all_goals clear ao
  all_goals have y1:=a1.out.cell 1
  all_goals have y3:=a1.out.cell 3
  all_goals have x3:=ah.out.cell 1
  all_goals simp at y1 y3 x3
  all_goals have al:=ak
  all_goals push_cast at al
  all_goals go_region
  all_goals go_end0
  all_goals refine⟨C.out.1.below,?_⟩
  all_goals rw[HE.out]
  all_goals exact⟨rfl,_,_,_,_,C.out.1,ab.out.next C.out.2.1,af.out _ C.out.2.2,BH.refl _ _⟩
end
section
open Go.RowKit Go.Maps
theorem DL.later{w w':World}{B rb mb:Nat}{tb:Option Nat}{l:List Tk}{x:Bh}{o p C rv:Value}{t:List Bm}{D:DataW Unit}(h:DL w B rb mb tb l x o p C rv t D)(I:Below w.heap.size w w'):DL w' B rb mb tb l x o p C rv t D:=by have j:Aj (fun _=>False) w w':=.AH I;have i:=h.Bp;exact⟨⟨i.AW.Aw j id (fun _ _=>id),j.own i.decl (fun _ _=>id),j.own i.marks (fun _ _=>id),j.own i.starts (fun _ _=>id),i.apart,i.Ey,i.Gg,AX i.bB j.size,i.ld,i.lm,i.ls⟩,j.own h.rules (fun _ _=>id),fun r J=>(h.Hg r J).Aw j (fun _ _ _=>id),D6 h.map j id,h.Lb,h.Ow,h.mr,h.lr⟩
theorem Iv(w:World):Below w.heap.size w w.drew:=⟨rfl,rfl,rfl,AG _,fun _ _=>rfl⟩
theorem JV{w:World}{B:Nat}{e:TypeId}{s n:Nat}{v:Value}{xs:List Value}(h:w.ownsRow B e s v n xs)(p:0<n):∃g c,v=.slice (some ⟨g,0,none⟩) n c/\∀j u,xs[j]?=some u->w.cell? ⟨g,j,none⟩=some u:=by
 rcases h.2 with⟨rfl,rfl⟩|⟨g,cap,o,rfl,_⟩
 ·omega
 ·refine⟨g,cap,rfl,fun j u l=>?_⟩
  have:=h.cells rfl j u l;by_cases i:j=0
  ·subst i;simpa [Addr.add] using this
  ·simpa [Addr.add,i] using this
theorem Sh(i:List Bm)(y:Bh)(h:i.map Bm.r=y.rules)(s:AO):leftOf y s=decide ((i.map fun r=>r.left.s).count s≠0):=by unfold leftOf;rw[<-h,List.any_map,Bool.eq_iff_iff,List.any_eq_true,decide_eq_true_eq,<-Nat.pos_iff_ne_zero,List.count_pos_iff];simp[Bm.r]
def Tz(w:World)(r:Except Bi Unit)(e:Ending)(w':World):Prop:=
 Below w.heap.size w w'/\match r with
 | .ok _=>e=.returned (.tuple #[])
 | .error f=>BS f e
theorem Zo{w:World}{B rb mb I:Nat}{tb:Option Nat}{l:List Tk}{x:Bh}{P U sv rv:Value}{j:List Bm}{D:DataW Unit}(h:DL w B rb mb tb l x P U sv rv j D)(hb:w.cell? ⟨I,0,none⟩=some (.pointer (some ⟨rb,0,none⟩)))(J:j.map Bm.r=x.rules){st:Tk}{sr:List Tk}(i:x.starts=st::sr)(R:st.s.length<=8192):Calls Tryz.prog 206 #[.pointer (some ⟨I,0,none⟩)] w (Tz w (Es (leftOf x) st)):=by
 obtain⟨_,_,c3,_,c5,_⟩:=h.Bp.AW.cells;obtain⟨g,c,rfl,p⟩:=JV h.Bp.starts (by rw[i];simp);have g1:=p 1 (.string (str st.s)) (by rw[i];rfl);have g2:=p 2 (.int .i64 st.p) (by rw[i];rfl);have a0:=OA (D6 h.map ((Aj.refl (fun _=>False) w).drew) id) h.Lb R;have hn:(0:Int)<(x.starts.length:Int):=by rw[i,List.length_cons];omega
 have C:=Hd (Sh j x J st.s);clear p i h J;generalize x.starts.length=n at *;generalize (j.map fun r=>r.left.s).count st.s=t at *;by_cases h0:t=0
 ·have o:Hid (Es (leftOf x) st=.error (9,st.p)):=Hd (by simp[Es,C.out,h0])
  have q1:((t:Int)==0)=true:=by simp[h0]
  clear h0;go_enter Tryz.func206,Tryz.ntmps206
  go_wp2_with fail
  go_region
  go_wp2_with (go_at_call 173;refine(Eg _ _ _).mono ?_;rintro e w' ⟨rfl,T⟩;subst T)
  refine⟨rfl,Iv w,?_⟩;rw[o.out];exact BS.of rfl rfl
 ·have o:Hid (Es (leftOf x) st=.ok ()):=Hd (by simp[Es,C.out,h0])
  have q1:((t:Int)==0)=false:=by simp;omega
  clear h0;go_enter Tryz.func206,Tryz.ntmps206
  go_wp2_with fail
  go_region
  go_wp2
  go_end0
  refine⟨Iv w,?_⟩;rw[o.out]
theorem aE{w:World}{B rb mb p:Nat}{tb:Option Nat}{l:List Tk}{x:Bh}{C J T rv:Value}{R:List Bm}{D:DataW Unit}(h:DL w B rb mb tb l x C J T rv R D)(hb:w.cell? ⟨p,0,none⟩=some (.pointer (some ⟨rb,0,none⟩))):Calls Tryz.prog 172 #[.pointer (some ⟨p,0,none⟩)] w fun e w'=>e=.returned (.int .i64 (DM x.marks))/\w'=w:=by
 obtain⟨_,c2,_,_,_,_⟩:=h.Bp.AW.cells;by_cases i:x.marks.length<2
 ·obtain⟨A,c,rfl⟩:=Bw h.Bp.marks
  have j:Hid (DM x.marks=8193):=Hd (by
   match I:x.marks,i with
   | [],_=>rfl
   | [a],_=>rfl
   | a::b::r,i=>simp at i;omega)
  have P:(x.marks.length:Int)<2:=by omega
  clear h i;generalize x.marks.length=n at *;go_enter Tryz.func172,Tryz.ntmps172
  go_wp2;go_ret;exact⟨by rw[j.out];rfl,rfl⟩
 ·obtain⟨g,c,rfl,t⟩:=JV h.Bp.marks (by omega)
  obtain⟨a,m,r,o⟩:∃a m r,x.marks=a::m::r:=by
   match I:x.marks,i with
   | [],i=>simp at i
   | [a],i=>simp at i
   | a::b::r,_=>exact⟨a,b,r,rfl⟩
  have U:=t 1 (.int .i64 m) (by rw[o];rfl);have j:Hid (DM x.marks=m):=Hd (by rw[o];rfl);have P:¬(x.marks.length:Int)<2:=by omega
  have q2:(1:Int)<(x.marks.length:Int):=by omega
  clear h i t o;generalize x.marks.length=n at *;go_enter Tryz.func172,Tryz.ntmps172
  go_wp2;go_ret;exact⟨by rw[j.out];rfl,rfl⟩
end
section
open Go.RowKit Go.Maps
theorem Wg{w0 w:World}{R tm nm rb:Nat}{tv nv gv:Value}{b:Bd}{gs:List BC}{DT DN:DataW Unit}(h:BO w0 w R tm nm rb tv nv gv b gs DT DN){B mb:Nat}{tb:Option Nat}{l:List Tk}{x:Bh}{dv kv sv rv:Value}{rs:List Bm}{D:DataW Unit}(hr:DL w0 B rb mb tb l x dv kv sv rv rs D)(a4:rs.map Bm.r=x.rules)(t:Tk)(C:t.s.length<=8192)(k:Nat)(K:Int)(hK:K=(k:Int)) :
  Calls Tryz.prog 175 #[.pointer (some ⟨R,0,none⟩),.agg #[.int .i64 t.k,.string (str t.s),.int .i64 t.p],.int .i64 K] w (N6 w0 w R tm nm rb tv nv gv gs (D0 (leftOf x) b t k)):=by
 have o:=Hd (h.alloc (.cells #[.int .i64 t.k,.string (str t.s),.int .i64 t.p] 201));have a1:=Hd (((Aj.refl (DE R tm nm tv nv) w).alloc (.cells #[.int .i64 t.k,.string (str t.s),.int .i64 t.p] 201)).drew);have a6:Hid (∀v v',BH ((w.alloc (.cells #[.int .i64 t.k,.string (str t.s),.int .i64 t.p] 201)).drew) v v'->BH w v v'):=Hd (fun v v' h k hk=>(h k hk).imp id (fun h=>AX (by simp) h));have a3:=Hd (Ah.new w 201 #[.int .i64 t.k,.string (str t.s),.int .i64 t.p]);have HT:=Hd C;have HL:=Hd (Sh rs x a4 t.s);by_cases T:8<=k
 ·have q1:(8:Int)<=K:=by omega
  have p:Hid (D0 (leftOf x) b t k=.error (7,t.p)):=Hd (by simp[D0,T]);clear h hr a4 C hK T;go_enter Tryz.func175,Tryz.ntmps175
  go_wp2_with (go_at_call 173;refine(Eg _ _ _).mono ?_;rintro e w' ⟨rfl,a5⟩;subst a5)
  refine⟨rfl,o.out.below,?_⟩;rw[p.out];exact BS.of rfl rfl
 ·have q1:¬(8:Int)<=K:=by omega
  have P:Hid (D0 (leftOf x) b t k=if b.T.contains t.s then .ok b else if t.k=2 then GY b t else if leftOf x t.s then .ok b else .error (9,t.p)):=Hd (by simp[D0,T,GY]);clear T hK h;have a2:=Hd (hr.later o.out.below);clear hr a4;generalize ah:(w.alloc (.cells #[.int .i64 t.k,.string (str t.s),.int .i64 t.p] 201))=w1 at *;have a8:=Ko o.out.drew.mt o.out.pt C;obtain⟨c0,c1,c2,c3,c4,c7,af⟩:=o.out.cells;have x0:=a3.out.cell 0;have x1:=a3.out.cell 1;have x2:=a3.out.cell 2;simp at x0 x1 x2;by_cases j:t.s∈b.T
  ·have p:Hid (D0 (leftOf x) b t k=.ok b):=Hd (by rw[P.out,if_pos (by simpa using j)])
   rw[if_pos j]at a8;generalize hn:b.T.idxOf t.s+1=n1 at *;have q2:(0:Int)<(n1:Int):=by omega
   clear j hn C;go_enter Tryz.func175,Tryz.ntmps175
   go_wp2
   go_region
   go_wp2
   go_end0
   refine⟨o.out.drew.below,?_⟩;rw[p.out];exact⟨rfl,_,_,_,_,o.out.drew,a1.out,BH.refl _ _,BH.refl _ _⟩
  ·rw[if_neg j,show ((0:Nat):Int)=0 from rfl]at a8
   have HC:=Hd j;by_cases I:t.k=2
   ·have p:Hid (D0 (leftOf x) b t k=GY b t):=Hd (by rw[P.out,if_neg (by simpa using j),if_pos I])
    have a7:=Hd (MF o.out.drew t HT.out j);have q2:((t.k:Int)==2)=true:=by simp[I]
    clear j C I;cases a0:GY b t with
    | error f=>
     have J:=Hd a0;clear a0;go_enter Tryz.func175,Tryz.ntmps175
     go_wp2
     go_region
     go_wp2_with (go_at_call 207;refine a7.out.mono ?_;intro e w2 i;obtain⟨U,i⟩:=i;rw[J.out]at i;have i:e=_:=i;subst i)
     refine⟨rfl,U,?_⟩;rw[p.out,J.out];exact BS.of rfl rfl
    | ok b2=>
     have J:=Hd a0;clear a0;go_enter Tryz.func175,Tryz.ntmps175
     go_wp2
     go_region
     go_wp2_with (go_at_call 207;refine a7.out.mono ?_;intro e w2 i;obtain⟨U,i⟩:=i;rw[J.out]at i;obtain⟨rfl,i⟩:=i;have ab:=Hd U;have HX:=Hd i;clear U i)
     go_end0
     refine⟨ab.out,?_⟩;rw[p.out,J.out];obtain⟨ae,ad,aa,a9,z1,z2,z3,z4⟩:=HX.out;exact⟨rfl,ae,ad,aa,a9,z1,a1.out.next z2,a6.out _ _ z3,a6.out _ _ z4⟩
   ·have q2:((t.k:Int)==2)=false:=by simp;omega
    have ag:=OA (D6 a2.out.map ((Aj.refl (fun _=>False) w1).drew.drew) id) a2.out.Lb C;obtain⟨_,_,_,_,c5,_⟩:=a2.out.Bp.AW.cells;generalize (rs.map fun r=>r.left.s).count t.s=n0 at *;by_cases h0:n0=0
    ·have p:Hid (D0 (leftOf x) b t k=.error (9,t.p)):=Hd (by rw[P.out,if_neg (by simpa using j),if_neg I,HL.out];simp[h0])
     have q3:((n0:Int)==0)=true:=by simp[h0]
     clear j C I h0;go_enter Tryz.func175,Tryz.ntmps175
     go_wp2
     go_region
     go_wp2
     go_region
     go_wp2_with (go_at_call 173;refine(Eg _ _ _).mono ?_;rintro e w' ⟨rfl,a5⟩;subst a5)
     refine⟨rfl,o.out.drew.drew.below,?_⟩;rw[p.out];exact BS.of rfl rfl
    ·have p:Hid (D0 (leftOf x) b t k=.ok b):=Hd (by rw[P.out,if_neg (by simpa using j),if_neg I,HL.out];simp[h0])
     have q3:((n0:Int)==0)=false:=by simp;omega
     clear j C I h0;go_enter Tryz.func175,Tryz.ntmps175
     go_wp2
     go_region
     go_wp2
     go_region
     go_wp2
     go_end0
     refine⟨o.out.drew.drew.below,?_⟩;rw[p.out];exact⟨rfl,_,_,_,_,o.out.drew.drew,a1.out.drew,BH.refl _ _,BH.refl _ _⟩
end
section
open Go.RowKit Go.Maps
theorem Z1{w0 w w2 P:World}{o:Obj}{j J t rb:Nat}{tv nv gv:Value}{b:Bd}{gs:List BC}{DT DN:DataW Unit}{s:AO}{l:Option Addr}{c2:Nat}
  (h:BO w0 w j J t rb tv nv gv b gs DT DN) (hs:s ∉ b.N) (a7:b.N.length<120)
  (ho:w2.ownsRow w0.heap.size 9 1 (.slice l (b.N.length+1) c2) (b.N.length+1) (b.N.map Nv++[Nv s]))
  (hg:(w.alloc o).grownBy w2 nv.ownBlock/\((Value.slice l (b.N.length+1) c2).ownBlock=nv.ownBlock\/(Value.slice l (b.N.length+1) c2).ownBlock=some (w.alloc o).heap.size))
  (hm:P.ownsMap Tryz.prog 9 (plainElem Tryz.prog 3) t (b.N.length+1) (DN.put (B6 s) (.lit (.int .i64 (b.N.length+1:Nat)))))
  (a5:(w2.setCell ⟨j,4,none⟩ (.slice l (b.N.length+1) c2)).drew.grownBy P (some t)) :
  BO w0 P j J t rb tv (.slice l (b.N.length+1) c2) gv {b with N:=b.N++[s]} gs DT (DN.put (B6 s) (.lit (.int .i64 (b.N.length+1:Nat))))/\Aj (DE j J t tv nv) w P/\BH w nv (.slice l (b.N.length+1) c2):=by
 have hX:Aj (fun k=>nv.ownBlock=some k) w w2:=((Aj.refl _ w).alloc o).next (.Cw hg.1);have a4:Aj (fun k=>nv.ownBlock=some k\/k=j) w (w2.setCell ⟨j,4,none⟩ (.slice l (b.N.length+1) c2)).drew:=((hX.mono (fun a3 T=>.inl T)).set (p:=⟨j,4,none⟩) (.inr (.inr rfl)) _).drew;have h4:=Aj.of_map a5;have hY:Aj (fun k=>(nv.ownBlock=some k\/k=j)\/k=t) w P:=(a4.mono (fun a3 T=>.inl T)).next (h4.mono (fun a3 T=>.inr T));have a6:=h.An.lt;have a8:=QD h.mn;have e1:¬nv.ownBlock=some j:=CD h.fn h.An (by decide);have e2:¬nv.ownBlock=some t:=FQ h.mn h.fn;have e3:t≠j:=GJ h.mn h.An
 have e4:J≠j:=GJ h.mt h.An;have e5:¬nv.ownBlock=some J:=FQ h.mt h.fn;have a2:∀k,(Value.slice l (b.N.length+1) c2).ownBlock=some k->k≠j/\k≠t:=by
  intro k i;rcases hg.2 with e|e
  ·rw[e]at i
   exact⟨by rintro rfl;exact e1 i,by rintro rfl;exact e2 i⟩
  ·rw[e]at i
   cases i
   exact⟨by simp;omega,by simp;omega⟩
 have a0:∀{e:TypeId} {I n:Nat} {v:Value} {R:List Value},w.ownsRow w0.heap.size e I v n R->e≠144->(∀k,nv.ownBlock=some k->¬v.ownBlock=some k)->P.ownsRow w0.heap.size e I v n R:=by
  intro e I n v R hr he hd;refine hY.own hr ?_;rintro k i ((p|rfl)|rfl)
  ·exact hd k p i
  ·exact CD hr h.An he i
  ·exact FQ h.mn hr i
 have a1:∀{v:Value} {B n I:Nat} {e:TypeId} {R:List Value},w.ownsRow B e I v n R->(∀k,nv.ownBlock=some k->¬v.ownBlock=some k)->∀k,(Value.slice l (b.N.length+1) c2).ownBlock=some k->¬v.ownBlock=some k:=by
  intro v B n I e R hr hd k i hv;rcases hg.2 with e|e
  ·rw[e]at i;exact hd k i hv
  ·rw[e]at i
   cases i
   have:=(BU hr _ hv).2;simp at this;omega
 refine⟨?_,hY.mono ?_,?_⟩
 rotate_left
 ·rintro k ((p|rfl)|rfl)
  ·exact .inr (.inr (.inr (.inr p)))
  ·exact .inl rfl
  ·exact .inr (.inr (.inl rfl))
 ·intro k i
  rcases hg.2 with e|e
  ·exact .inl (e▸i)
  ·rw[e]at i
   cases i
   exact .inr (by simp)
 refine⟨?_,?_,a0 h.ft (by decide) (fun k i C=>h.tn k C i),?_,a0 h.fg (by decide) (fun k i C=>Gd h.fn h.fg (by decide) k i C),h.names,fun q U=>a0 (h.rows q U) (by decide) (h.nr q U),fun k i C=>a1 h.ft (fun k i C=>h.tn k C i) k C i,h.tr,fun q U=>a1 (h.rows q U) (h.nr q U),?_,by simpa using hm,h.pt,?_,h.b0,h.b1,h.lt,by simp;omega,h.lr⟩
 ·refine h.below.trans (hY.below h.below.size ?_)
  rintro k i ((p|rfl)|rfl)
  ·have:=(BU h.fn k p).1;omega
  ·have:=h.b0.1;omega
  ·have:=h.b0.2.2;omega
 ·refine h4.An (cs:=#[.pointer (some ⟨rb,0,none⟩),.map (some J),.map (some t),tv,.slice l (b.N.length+1) c2,.slice none 0 0,.int .i64 0,gv]) ?_ (fun e=>e3 e.symm)
  have:=(hX.An h.An e1).Bn 4 (.slice l (b.N.length+1) c2);exact(Aj.refl (fun _=>False) _).drew.An (by simpa using this) id
 ·rw[By,show (b.N++[s]).length=b.N.length+1 by simp]
  exact h4.own ((Aj.refl (fun _=>False) _).drew.own (EB (by simpa using ho) (fun e=>(a2 _ e).1 rfl) _) (fun _ _=>id)) (fun k i e=>(a2 k i).2 e)
 ·refine D6 h.mt hY ?_
  rintro((p|p)|p)
  ·exact e5 p
  ·exact e4 p
  ·exact h.b1 p
 ·exact h.pn.next (h.mn.tidy IB) hs
theorem Pb(s:AO):∀(L:List AO) (D:Nat),s∈L.take D<->s∈L/\L.idxOf s<D:=by
 intro L;induction L with
 | nil=>intro D;simp
 | cons a L l=>
  intro D;cases D with
  | zero=>simp
  | succ D=>
   rw[List.take_succ_cons,List.mem_cons,List.mem_cons,l D,List.idxOf_cons];by_cases e:a=s
   ·subst e;simp
   ·have i:(a==s)=false:=by simpa using e
    have j:¬s=a:=fun h=>e h.symm
    simp[i,j]
end
section
open Go.RowKit Go.Maps
theorem dK{w0 w:World}{l tm nm rb:Nat}{tv nv gv:Value}{b:Bd}{gs:List BC}{DT DN:DataW Unit}(h:BO w0 w l tm nm rb tv nv gv b gs DT DN)(t:Tk)(P:t.s.length<=8192)(d:Nat)(K:Int)(hK:K=(d:Int)) :
  Calls Tryz.prog 123 #[.pointer (some ⟨l,0,none⟩),.agg #[.int .i64 t.k,.string (str t.s),.int .i64 t.p],.int .i64 K] w (N6 w0 w l tm nm rb tv nv gv gs (EO d b t)):=by
 obtain⟨A,c,rfl⟩:=Bw h.fn;have j:=Hd (h.alloc (.cells #[.int .i64 t.k,.string (str t.s),.int .i64 t.p] 201));have a9:=Hd ((((Aj.refl (DE l tm nm tv (.slice A b.N.length c)) w).alloc (.cells #[.int .i64 t.k,.string (str t.s),.int .i64 t.p] 201)).drew).drew);have an:Hid (∀v',BH ((w.alloc (.cells #[.int .i64 t.k,.string (str t.s),.int .i64 t.p] 201)).drew.drew.drew) (.slice A b.N.length c) v'->BH w (.slice A b.N.length c) v'):=Hd (fun v' h k hk=>(h k hk).imp id (fun h=>AX (by simp) h));have a2:=Hd (Ah.new w 201 #[.int .i64 t.k,.string (str t.s),.int .i64 t.p])
 have b2:w.heap.size<(w.alloc (.cells #[.int .i64 t.k,.string (str t.s),.int .i64 t.p] 201)).heap.size:=by simp
 have HT:=Hd P;have az:=h.ln;clear h;generalize b1:(w.alloc (.cells #[.int .i64 t.k,.string (str t.s),.int .i64 t.p] 201))=w1 at *;have a0:=Ko j.out.drew.mt j.out.pt P;obtain⟨c0,c1,c2,c3,c4,c7,ae⟩:=j.out.cells;have x0:=a2.out.cell 0;have x1:=a2.out.cell 1;have x2:=a2.out.cell 2;simp at x0 x1 x2;by_cases C:t.s∈b.T.take d
 ·have J:Hid (EO d b t=.error (8,t.p)):=Hd (by simp only[EO];rw[if_pos (by simpa using C)])
  obtain⟨af,ar⟩:=(Pb _ _ _).1 C;rw[if_pos af]at a0;have p:(0:Int)<((b.T.idxOf t.s+1:Nat):Int):=by omega
  have q2:((b.T.idxOf t.s+1:Nat):Int)<=K:=by omega
  generalize b.T.idxOf t.s+1=T at *;clear C af ar P hK;go_enter Tryz.func123,Tryz.ntmps123
  go_wp2
  go_region
  go_wp2_with (go_at_call 173;refine(Eg _ _ _).mono ?_;rintro e w' ⟨rfl,a7⟩;subst a7)
  refine⟨rfl,j.out.drew.below,?_⟩;rw[J.out];exact BS.of rfl rfl
 ·have R:∃T:Nat,(Instr.lookup 137 (.map (some tm)) (.string (str t.s)) false).run Tryz.prog w1.drew=.ok (.int .i64 (T:Int)) w1.drew/\(decide ((0:Int)<(T:Int))=false\/decide ((0:Int)<(T:Int))=true/\decide ((T:Int)<=K)=false):=by
   refine⟨_,a0,?_⟩;by_cases I:t.s∈b.T
   ·rw[if_pos I]
    have:¬b.T.idxOf t.s<d:=fun e=>C ((Pb _ _ _).2 ⟨I,e⟩)
    exact .inr ⟨by rw[decide_eq_true_eq];omega,by rw[decide_eq_false_iff_not];omega⟩
   ·rw[if_neg I]
    exact .inl rfl
  clear a0;obtain⟨T,a0,R⟩:=R;simp only[decide_eq_false_iff_not,decide_eq_true_eq]at R;have a5:Hid (EO d b t=if b.N.contains t.s then .ok b else if 120<=b.N.length then .error (7,t.p) else .ok {b with N:=b.N++[t.s]}):=Hd (by simp only[EO];rw[if_neg (by simpa using C)]);have a6:=Ko j.out.drew.drew.mn j.out.pn P;by_cases o:t.s∈b.N
  ·have J:Hid (EO d b t=.ok b):=Hd (by rw[a5.out,if_pos (by simpa using o)])
   rw[if_pos o]at a6;have U:(0:Int)<((b.N.idxOf t.s+1:Nat):Int):=by omega
   generalize b.N.idxOf t.s+1=n2 at *;clear C o P hK;rcases R with p|⟨p,q2⟩
   all_goals
    go_enter Tryz.func123,Tryz.ntmps123
    go_wp2
    go_region
    go_wp2
    go_region
    go_wp2
   all_goals refine bodyPost_ret (results_none rfl _ _ _) rfl ⟨j.out.drew.drew.below,?_⟩
   all_goals rw[J.out]
   all_goals exact⟨rfl,_,_,_,_,j.out.drew.drew,a9.out,BH.refl _ _,BH.refl _ _⟩
  ·rw[if_neg o,show ((0:Nat):Int)=0 from rfl]at a6
   have HC:=Hd o;by_cases I:120<=b.N.length
   ·have J:Hid (EO d b t=.error (7,t.p)):=Hd (by rw[a5.out,if_neg (by simpa using o),if_pos I])
    have U:(120:Int)<=(b.N.length:Int):=by omega
    clear C o P hK I;generalize b.N.length=n at *;rcases R with p|⟨p,q2⟩
    all_goals
     go_enter Tryz.func123,Tryz.ntmps123
     go_wp2
     go_region
     go_wp2
     go_region
     go_wp2_with (go_at_call 173;refine(Eg _ _ _).mono ?_;rintro e w' ⟨rfl,a7⟩;subst a7)
    all_goals refine⟨rfl,j.out.drew.drew.below,?_⟩
    all_goals rw[J.out]
    all_goals exact BS.of rfl rfl
   ·have J:Hid (EO d b t=.ok {b with N:=b.N++[t.s]}):=Hd (by rw[a5.out,if_neg (by simpa using o),if_neg I])
    have U:¬(120:Int)<=(b.N.length:Int):=by omega
    have au:b.N.length<120:=by omega
    clear C o P hK I;rcases R with p|⟨p,q2⟩
    all_goals
     go_enter Tryz.func123,Tryz.ntmps123
     go_wp2
     go_region
     go_wp2
     go_region
     go_wp2
    all_goals have a1:=Hd j.out.drew.drew
    all_goals have a3:=Hd (((Aj.refl (fun _=>False) w1).drew.drew).An a2.out id)
    all_goals clear a0 a6 c0 c1 c2 c3 c4 c7 ae x0 x1 x2
    all_goals generalize w1.drew.drew=wy at *
    all_goals obtain⟨c0,c1,c2,c3,c4,c7,ae⟩:=a1.out.cells
    all_goals have x1:=a3.out.cell 1
    all_goals simp at x1
    all_goals have b0:=a1.out.below.size
    all_goals have b3:=a3.out.lt
    all_goals have i:=Hd a1.out.drew
    all_goals have ad:=Hd (((Aj.refl (fun _=>False) wy).drew).An a3.out id)
    all_goals generalize w.heap.size=xb at *
    all_goals go_region_law (
     refine Ep Nc (.tmp 47) (.tmp 50) ?_ ?_ (base:=w0.heap.size) (n:=b.N.length) (m:=1) (N:=b.N.length+1) (v:=.slice A b.N.length c) (src:=.slice (some ⟨wy.heap.size,0,none⟩) 1 1) (xs:=b.N.map Nv) (news:=[.string (str t.s)]) ?_ ?_ ?_ ?_ ?_ ?_ ?_ ?_ ?_
     ·rfl
     ·rfl
     ·rfl
     ·rfl
     ·exact i.out.fn.alloc _
     ·exact N8 wy.drew _
     ·rfl
     ·unfold maxLen;omega
     ·omega
     ·simp;omega
     intro A2 k2 w2 p q2 U;have aa:=Hd p;have ab:=Hd (show ((wy.drew.alloc (.cells #[.string (str t.s)] 9)).grownBy w2 (Value.slice A b.N.length c).ownBlock/\_) from U);have hX:Aj (fun k=>(Value.slice A b.N.length c).ownBlock=some k) wy.drew w2:=((Aj.refl _ wy.drew).alloc (.cells #[.string (str t.s)] 9)).next (.Cw U.1);have a4:=hX.An i.out.An (CD i.out.fn i.out.An (by decide));have ai:=hX.An ad.out (CD i.out.fn ad.out (by decide));have z3:=a4.cell 4;have zf:=a4.frozen 4;simp at z3;have aj:=Hd a4;have ao:=Hd ai;have ak:=Hd (D6 i.out.mn hX (FQ i.out.mn i.out.fn))
     clear p q2 U hX a4 ai)
    all_goals go_wp2
    all_goals have av:xb≠l:=fun e=>Ah.A8 (t:=201) a3.out a1.out.An (by decide) e
    all_goals have a8:=Hd ((Aj.refl (fun _=>False) _).drew.An (aj.out.Bn 4 (.slice A2 (b.N.length+1) k2)) id)
    all_goals have aq:=Hd ((Aj.refl (fun _=>False) _).drew.An (ao.out.BE (p:=⟨l,4,none⟩) (by simpa using av) (.slice A2 (b.N.length+1) k2)) id)
    all_goals have al:=Hd (D6 ak.out ((Aj.refl (·=l) w2).set (p:=⟨l,4,none⟩) (.inr rfl) (.slice A2 (b.N.length+1) k2)).drew (GJ i.out.mn i.out.An))
    all_goals obtain⟨w4,aw,ah,ag⟩:=Rn al.out (by omega) HT.out (c:=b.N.length+1) (by omega)
    all_goals have HF:=Hd (Z1 i.out HC.out au aa.out ab.out ah ag)
    all_goals clear ah ag c0 c1 c2 c3 c4 c7 x1 z3 zf aa ab
    all_goals generalize ay:World.setCell w2 ⟨l,4,none⟩ (.slice A2 (b.N.length+1) k2)=w3 at *
    all_goals clear ay
    all_goals have y2:=a8.out.cell 2
    all_goals have y4:=a8.out.cell 4
    all_goals have x3:=aq.out.cell 1
    all_goals simp at y2 y4 x3
    all_goals have ax:=aw
    all_goals push_cast at ax
    all_goals go_region
    all_goals go_end0
    all_goals refine⟨HF.out.1.below,?_⟩
    all_goals rw[J.out]
    all_goals exact⟨rfl,_,_,_,_,HF.out.1,a9.out.drew.next HF.out.2.1,BH.refl _ _,an.out _ HF.out.2.2⟩
end
section
open Go.RowKit Go.Maps
def Kt(a b:List AO)(k:Nat):Prop:=∀j x y,j<k->a[j]?=some x->b[j]?=some y->x=y
theorem Kt.next{a b:List AO}{k:Nat}{x y:AO}(h:Kt a b k)(p:a[k]?=some x)(t:b[k]?=some y)(o:x=y):Kt a b (k+1):=by
 intro j C I J i l;by_cases e:j=k
 ·subst e
  rw[p]at i;rw[t]at l;cases i;cases l;exact o
 ·exact h j C I (by omega) i l
theorem Kt.all{a b:List AO}(l:a.length=b.length)(h:Kt a b a.length):(a==b)=true:=by
 rw[beq_iff_eq];apply List.ext_getElem?;intro j;by_cases i:j<a.length
 ·rw[eG i,eG (by omega)]
  rw[h j _ _ i (eG i) (eG (by omega))]
 ·rw[nG (by omega),nG (by omega)]
theorem Up{a b:List AO}{k:Nat}{x y:AO}(l:a[k]?=some x)(i:b[k]?=some y)(j:¬x=y):(a==b)=false:=by
 rw[bN];rintro rfl;rw[l]at i;cases i
 exact j rfl
theorem str_inj{a b:List UInt8}(h:str a=str b):a=b:=by have:=congrArg (fun x:ByteArray=>x.data.toList) h;simpa [str] using this
theorem S4{a b:ByteArray}(h:a.toList=b.toList):a=b:=by rw[ByteArray.toList_eq,ByteArray.toList_eq]at h;exact ByteArray.ext (Array.ext' h)
theorem UE{w:World}{B1 B2:Nat}{u v:Value}{a b:List AO}(ha:w.ownsRow B1 9 1 u a.length (a.map Nv))(t:w.ownsRow B2 9 1 v b.length (b.map Nv)):Calls Tryz.prog 178 #[u,v] w fun e w'=>e=.returned (.bool (a==b))/\∃q,w'=w.drewN q:=by
 obtain⟨A,c,hu⟩:=Bw ha;obtain⟨A2,c2,hv⟩:=Bw t;have a2:=Hd (fun(h:0<a.length)=>JV ha h);have P:=Hd (fun(h:0<b.length)=>JV t h);have a5:a.length<=9223372036854775807:=by
  rcases Bv ha with⟨_,h0⟩|⟨_,c3,_,_,_,h1,h2,_⟩
  ·omega
  ·unfold maxLen at h2;omega
 subst hu;subst hv;clear ha t;by_cases l:a.length=b.length
 ·rw[<-l]
  have J:=Hd l;rw[<-l]at P;clear l;go_enter Tryz.func178,Tryz.ntmps178
  go_wp2;go_loopw [5,13] (fun _ i wr=>∃k:Nat,k<=a.length/\i=.int .i64 k/\Hid (Kt a b k)/\Hid (∃q,wr=w.drewN q)) (fun _ i _=>a.length-(intOf i).toNat)
  case atStart=>exact⟨0,AP _,rfl,Hd (fun a6 x y hj=>absurd hj (Nat.not_lt_zero _)),Hd ⟨0,rfl⟩⟩
  case round=>
   obtain⟨k,hk,rfl,R,p⟩:=hrel;by_cases a4:k<a.length
   ·have C:=eG a4
    have I:=eG (show k<b.length by have:=J.out;omega);generalize a[k]=x at C;generalize b[k]'(by have:=J.out;omega)=y at I;obtain⟨g1,d1,e1,a0⟩:=a2.out (by omega);obtain⟨g2,d2,e2,a1⟩:=P.out (by omega);cases e1
    cases e2
    have T:=Hd C;have U:=Hd I;have e1:wr.cell? ⟨g1,k,none⟩=some (.string (str x)):=by obtain⟨q,rfl⟩:=p.out;exact a0 k _ (by rw[pG,C];rfl)
    have e2:wr.cell? ⟨g2,k,none⟩=some (.string (str y)):=by obtain⟨q,rfl⟩:=p.out;exact a1 k _ (by rw[pG,I];rfl)
    clear C I a0 a1;by_cases o:x=y
    ·have j:=Hd (R.out.next T.out U.out o)
     have t:((str x).toList==(str y).toList)=true:=by subst o;exact beq_self_eq_true _
     generalize str x=sx at *;generalize str y=sy at *;clear o;go_wp2;go_quiet (fail)
     have a3:Hid (∃q,wr.drewN nq=w.drewN q):=Hd (by obtain⟨q,hq⟩:=p.out;exact⟨q+nq,by rw[hq,World.drewN_drewN]⟩)
     go_wp2;go_roundw
     case rel=>exact⟨k+1,by omega,by go_num,j,a3⟩
     case measure=>simp[intOf];omega
    ·have j:=Hd (Up T.out U.out o)
     have t:((str x).toList==(str y).toList)=false:=bN.2 (fun h=>o (str_inj (S4 h)));generalize str x=sx at *;generalize str y=sy at *;clear o;go_wp2;go_quiet (fail)
     go_wp2;go_ret;obtain⟨q,rfl⟩:=p.out;exact⟨BB j.out.symm,_,World.drewN_drewN _ _ _⟩
   ·obtain rfl:k=a.length:=by omega
    have j:=Hd (R.out.all J.out);go_wp2;go_ret;exact⟨BB j.out.symm,p.out⟩
 ·have q1:((a.length:Int) != (b.length:Int))=true:=bne_iff_ne.2 (by omega)
  have j:Hid ((a==b)=false):=Hd (by rw[bN];rintro rfl;exact l rfl);clear l;generalize a.length=n1 at *;generalize b.length=n2 at *;go_enter Tryz.func178,Tryz.ntmps178
  go_wp2;go_ret;exact⟨BB j.out.symm,0,rfl⟩
end
section
open Go.RowKit Go.Maps
theorem idxOf_hit{L:List AO}{s x:AO}{k:Nat}(i:L[k]?=some x)(I:s=x)(C:∀j y,j<k->L[j]?=some y->s≠y):s∈L/\L.idxOf s=k:=by
 subst I;have o:=mG i;refine⟨o,?_⟩;obtain⟨R,e⟩:=sG.1 i;have l:=List.idxOf_lt_length_of_mem o;have p:=List.getElem_idxOf l;have P:¬L.idxOf s<k:=fun h=>C _ _ h (eG l) p.symm
 have t:∀(L:List AO) (k:Nat),L[k]?=some s->L.idxOf s<=k:=by
  intro L;induction L with
  | nil=>intro k h;simp at h
  | cons a r J=>
   intro k h;rw[List.idxOf_cons];cases k with
   | zero=>simp at h;simp[h]
   | succ k=>
    have:=J k (by simpa using h);cases a==s
    ·simp only[cond_false];omega
    ·simp only[cond_true];omega
 have:=t L k i;omega
def Ki(L:List AO)(s:AO):Int:=if s∈L then(L.idxOf s:Nat) else -1
theorem QW{w:World}{B:Nat}{v:Value}{L:List AO}(H:w.ownsRow B 9 1 v L.length (L.map Nv))(s:AO):Calls Tryz.prog 179 #[v,.string (str s)] w fun e w'=>e=.returned (.int .i64 (Ki L s))/\w'=w:=by
 obtain⟨A,c,rfl⟩:=Bw H;have a2:L.length<=9223372036854775807:=by
  rcases Bv H with⟨_,h0⟩|⟨_,c3,_,_,_,R,I,_⟩
  ·omega
  ·unfold maxLen at I;omega
 have T:=Hd (fun(h:0<L.length)=>JV H h);clear H;go_enter Tryz.func179,Tryz.ntmps179
 go_wp2
 go_loop [5,8] (fun _ i=>∃k:Nat,k<=L.length/\i=.int .i64 k/\Hid (∀j y,j<k->L[j]?=some y->s≠y)) (fun _ i=>L.length-(intOf i).toNat)
 case atStart=>exact⟨0,AP _,rfl,Hd (fun j y p=>absurd p (Nat.not_lt_zero _))⟩
 case round=>
  obtain⟨k,hk,rfl,t⟩:=hrel;by_cases a1:k<L.length
  ·have o:=eG a1
   generalize L[k]=x at o;obtain⟨b,c2,e1,J⟩:=T.out (by omega);cases e1
   have a0:=J k (Nv x) (by rw[pG,o];rfl);unfold Nv at a0;by_cases l:s=x
   ·have C:Hid (Ki L s=(k:Int)):=Hd (by obtain⟨R,I⟩:=idxOf_hit o l t.out;unfold Ki;rw[if_pos R,I])
    have hb:((str s).toList==(str x).toList)=true:=by subst l;exact beq_self_eq_true _
    generalize str s=ss at *;generalize str x=sx at *;clear o J l;go_wp2;go_ret;rw[C.out];exact⟨rfl,rfl⟩
   ·have U:Hid (∀j y,j<k+1->L[j]?=some y->s≠y):=Hd (fun j y p P=>by
     by_cases e:j=k
     ·subst e;rw[o]at P;cases P;exact l
     ·exact t.out j y (by omega) P)
    have hb:((str s).toList==(str x).toList)=false:=bN.2 (fun h=>l (str_inj (S4 h)));generalize str s=ss at *;generalize str x=sx at *;clear o J l;go_wp2
    go_round
    case rel=>exact⟨k+1,by omega,by go_num,U⟩
    case measure=>simp[intOf];omega
  ·obtain rfl:k=L.length:=by omega
   have C:Hid (Ki L s = -1):=Hd (by unfold Ki;rw[if_neg];intro hm;obtain⟨j,p⟩:=List.mem_iff_getElem?.1 hm;exact t.out j s (sG.1 p).1 p rfl)
   go_wp2;go_ret;rw[C.out];exact⟨rfl,rfl⟩
theorem V3{w:World}{B:Nat}{tv nv rv:Value}{T N:List AO}{P:Int}(I:w.ownsRow B 9 1 tv T.length (T.map Nv))(C:w.ownsRow B 9 1 nv N.length (N.map Nv))(a1:T.length<=120)(a0:N.length<=120)(s:AO) :
  Calls Tryz.prog 125 #[.agg #[tv,nv,rv,.int .i64 P],.string (str s)] w fun e w'=>e=.returned (.int .i64 (BY T N s))/\Below w.heap.size w w':=by
 obtain⟨A,c,rfl⟩:=Bw I;obtain⟨R,c2,rfl⟩:=Bw C;have J:Aj (fun _=>False) w (w.alloc (.cells #[.slice A T.length c,.slice R N.length c2,rv,.int .i64 P] 32)):=(Aj.refl _ w).alloc _;have j:=Hd (QW (J.own I (fun _ _=>id)) s);have o:=Hd (QW (J.own C (fun _ _=>id)) s);have U:=Ay w (.cells #[.slice A T.length c,.slice R N.length c2,rv,.int .i64 P] 32);have t:=Hd U;have hT:T.idxOf s<=T.length:=List.idxOf_le_length;have hN:N.idxOf s<=N.length:=List.idxOf_le_length;unfold Ki at j o;clear I C J U;by_cases i:s∈T
 ·have p:Hid (BY T N s=T.idxOf s+1):=Hd (by unfold BY;rw[if_pos (by simpa using i)])
  rw[if_pos i]at j;clear i;generalize T.idxOf s=n1 at *;generalize N.length=nN at *;generalize T.length=nT at *;go_enter Tryz.func125,Tryz.ntmps125
  go_wp2_with (go_at_call 179;refine j.out.mono ?_;rintro e w' ⟨rfl,rfl⟩)
  go_ret;rw[p.out];exact⟨by first|rfl|(push_cast;rfl),t.out⟩
 ·rw[if_neg i]at j
  by_cases l:s∈N
  ·have p:Hid (BY T N s=T.length+N.idxOf s+1):=Hd (by unfold BY;rw[if_neg (by simpa using i),if_pos (by simpa using l)])
   rw[if_pos l]at o;clear i l;generalize N.idxOf s=n1 at *;generalize N.length=nN at *;generalize T.length=nT at *;go_enter Tryz.func125,Tryz.ntmps125
   go_wp2_with (first
    | (go_at_call 179;(with_reducible refine j.out.mono ?_);rintro e w' ⟨rfl,rfl⟩)
    | (go_at_call 179;(with_reducible refine o.out.mono ?_);rintro e w' ⟨rfl,rfl⟩))
   go_ret;rw[p.out];exact⟨by first|rfl|(push_cast;rfl),t.out⟩
  ·have p:Hid (BY T N s=0):=Hd (by unfold BY;rw[if_neg (by simpa using i),if_neg (by simpa using l)])
   rw[if_neg l]at o;clear i l;generalize N.length=nN at *;generalize T.length=nT at *;go_enter Tryz.func125,Tryz.ntmps125
   go_wp2_with (first
    | (go_at_call 179;(with_reducible refine j.out.mono ?_);rintro e w' ⟨rfl,rfl⟩)
    | (go_at_call 179;(with_reducible refine o.out.mono ?_);rintro e w' ⟨rfl,rfl⟩))
   go_ret;rw[p.out];exact⟨rfl,t.out⟩
end
def TQ(t:Tk):Prop:=t.s.length<=8192/\t.p<=8192
def SQ(s:PS):Prop:=(∀t∈s.l,TQ t)/\s.l.length<=100000
def RQ(r:PR):Prop:=TQ r.left/\∀s∈r.Gw,SQ s
structure Ql(l:List Tk):Prop where
 ended:Hx l
 all:∀t∈l,TQ t
 len:l.length<=100000
structure Bh.q(x:Bh):Prop where
 decl:∀t∈x.decl,TQ t
 marks:∀m∈x.marks,m<=8192
 starts:∀t∈x.starts,TQ t
 same:x.marks.length=x.starts.length
theorem Ql.tail{t:Tk}{r:List Tk}(h:Ql (t::r))(i:t.k≠0):Ql r:=
 ⟨(h.ended.tail i).1,fun u j=>h.all u (by simp[j]),by have:=h.len;simp at this;omega⟩
theorem Ql.Is:∀{l:List Tk},Ql l->Ql (l.dropWhile Ba)
 | [],h=>h.ended.elim
 | t::r,h=>by
  rw[List.dropWhile_cons];split
  ·rename_i i;exact Ql.Is (h.tail (NN i))
  ·exact h
theorem Ql.bad{l:List Tk}(h:Ql l):(DG l).1≠0:=by obtain⟨t,r,rfl⟩:=h.ended.cons;unfold DG;simp only;split<;>simp
theorem Ql.take{l:List Tk}(h:Ql l):(∀t∈l.takeWhile Ba,TQ t)/\(l.takeWhile Ba).length<=100000:=
 ⟨fun t i=>h.all t ((List.takeWhile_sublist Ba).mem i),AX (List.takeWhile_sublist Ba).length_le h.len⟩
theorem Jp{k:Nat}{l:List Tk}(h:Cm k l=true):∃t r,l=t::r/\t.k=k:=by
 cases l with
 | nil=>cases h
 | cons t r=>exact⟨t,r,rfl,by simpa [Cm] using h⟩
theorem WK{x:Bh}{l:List Tk}(o:x.q)(j:Ql l):match Da x l with | .error f=>f.1≠0 | .ok (x',T)=>x'.q/\Ql T/\T.length<l.length:=by
 cases i:Da x l with
 | error f=>
  simp only;unfold Da at i;obtain⟨t,r,rfl⟩:=j.ended.cons;simp only at i;split at i
  ·rename_i P
   split at i
   ·injection i with i;rw[<-i];exact(j.tail (by omega)).bad
   ·cases i
  split at i
  ·rename_i U
   split at i
   ·cases i
   ·injection i with i;rw[<-i];exact(j.tail (by omega)).bad
  ·injection i with i;rw[<-i];exact j.bad
 | ok q=>
  obtain⟨x',T⟩:=q;simp only;refine⟨?_,?_,(ML i).1⟩;all_goals
   unfold Da at i;obtain⟨t,r,rfl⟩:=j.ended.cons;simp only at i;split at i
  ·rename_i P
   split at i
   ·cases i
   ·injection i with i
    obtain⟨rfl,rfl⟩:=Prod.mk.inj i;have I:=j.tail (by omega);refine⟨fun u J=>?_,o.marks,o.starts,o.same⟩;rcases mA.1 J with J|J
    ·exact o.decl u J
    ·exact I.take.1 u J
  ·rename_i P
   split at i
   ·rename_i U
    split at i
    ·rename_i R
     injection i with i;obtain⟨rfl,rfl⟩:=Prod.mk.inj i;have I:=j.tail (by omega);obtain⟨u,r2,rfl,a0⟩:=Jp R;refine⟨o.decl,fun m C=>?_,fun v p=>?_,by simp[o.same]⟩
     ·rcases mA.1 C with C|C
      ·exact o.marks m C
      ·rw[mS.1 C];exact(j.all t (by simp)).2
     ·rcases mA.1 p with p|p
      ·exact o.starts v p
      ·simp at p;rw[p];exact I.all u (by simp)
    ·cases i
   ·cases i
  ·rename_i P
   split at i
   ·cases i
   ·injection i with i
    obtain⟨rfl,rfl⟩:=Prod.mk.inj i;exact(j.tail (by omega)).Is
  ·rename_i P
   split at i
   ·rename_i U
    split at i
    ·rename_i R
     injection i with i;obtain⟨rfl,rfl⟩:=Prod.mk.inj i;have I:=j.tail (by omega);obtain⟨u,r2,rfl,a0⟩:=Jp R;exact I.tail (by omega)
    ·cases i
   ·cases i
theorem Q8:∀(f:Nat) {x:Bh} {l:List Tk},x.q->Ql l->l.length<f->match FO f x l with | .error f=>f.1≠0 | .ok (t,o)=>t.q/\Ql o/\o.length<=l.length
 | 0,x,l,_,_,U=>by omega
 | f+1,x,l,P,I,U=>by
  have j:=WK P I;unfold FO;by_cases p:Cm 6 l=true
  ·rw[if_pos p]
   obtain⟨a1,r,rfl,ht⟩:=Jp p;exact⟨P,I.tail (by omega),by simp⟩
  ·rw[if_neg p]
   cases C:Da x l with
   | error e=>rw[C]at j;exact j
   | ok q=>
    obtain⟨t,o⟩:=q;rw[C]at j;obtain⟨R,T,g3⟩:=j;have i:=Q8 f R T (by omega);simp only;cases J:FO f t o with
    | error e=>rw[J]at i;exact i
    | ok a0=>obtain⟨x2,l2⟩:=a0;rw[J]at i;exact⟨i.1,i.2.1,by have:=i.2.2;omega⟩
theorem ON{l:List Tk}(h:Ql l):SQ (BR l):=by unfold SQ;rw[Nr];exact h.take
theorem Nk:∀(f:Nat) {a:List PS} {l:List Tk},(∀s∈a,SQ s)->Ql l->(∀s∈(DK f a l).1,SQ s)/\Ql (DK f a l).2
 | 0,a,l,j,o=>⟨j,o⟩
 | f+1,a,l,j,o=>by
  unfold DK;by_cases p:Cm 4 l=true
  ·rw[if_pos p]
   obtain⟨t,r,rfl,I⟩:=Jp p;have C:=o.tail (by omega);refine Nk f ?_ C.Is;intro s i;rcases mA.1 i with i|i
   ·exact j s i
   ·rw[mS.1 i];exact ON C
  ·rw[if_neg p];exact⟨j,o⟩
theorem Sr{l:List Tk}(p:Ql l):match CQ l with | .error f=>f.1≠0 | .ok (r,R)=>RQ r/\Ql R/\R.length<l.length:=by
 cases i:CQ l with
 | error f=>
  simp only;obtain⟨t,r,rfl⟩:=p.ended.cons;unfold CQ at i;simp only at i;split at i
  ·injection i with i;rw[<-i];exact p.bad
  rename_i U;have I:=p.tail (by omega);split at i
  ·rename_i J
   obtain⟨u,o,rfl,hu⟩:=Jp J;have C:=I.tail (by omega);have j:=Nk (u::o).length (a:=[BR o]) (l:=o.dropWhile Ba) (fun s j=>by rw[mS.1 j];exact ON C) C.Is;split at i
   ·cases i
   ·injection i with i;rw[<-i];exact j.2.bad
  ·injection i with i;rw[<-i];exact I.bad
 | ok q=>
  obtain⟨r1,R⟩:=q;simp only;have a0:=(JW i).1;obtain⟨t,r,rfl⟩:=p.ended.cons;unfold CQ at i;simp only at i;split at i
  ·cases i
  rename_i U;have I:=p.tail (by omega);split at i
  ·rename_i J
   obtain⟨u,o,rfl,hu⟩:=Jp J;have C:=I.tail (by omega);have j:=Nk (u::o).length (a:=[BR o]) (l:=o.dropWhile Ba) (fun s j=>by rw[mS.1 j];exact ON C) C.Is;split at i
   ·rename_i T
    injection i with i;obtain⟨rfl,rfl⟩:=Prod.mk.inj i;refine⟨⟨p.all t (by simp),j.1⟩,?_,a0⟩;obtain⟨v,r3,P,a1⟩:=Jp T;simp only[List.drop_succ_cons,List.drop_zero]at P T ⊢;rw[P];have:=j.2;rw[P]at this;exact this.tail (by omega)
   ·cases i
  ·cases i
theorem O1:∀(f:Nat) {a:List PR} {l:List Tk},(∀r∈a,RQ r)->Ql l->l.length<f->match Fi f a l with | .error f=>f.1≠0 | .ok J=>∀r∈J,RQ r
 | 0,a,l,_,_,C=>by omega
 | f+1,a,l,ha,I,C=>by
  have j:=Sr I;unfold Fi;by_cases h0:Cm 0 l=true
  ·rw[if_pos h0];exact ha
  ·rw[if_neg h0]
   cases o:CQ l with
   | error e=>rw[o]at j;exact j
   | ok q=>
    obtain⟨r,R⟩:=q;rw[o]at j;obtain⟨p,t,P⟩:=j;refine O1 f ?_ t (by omega);intro u i;rcases mA.1 i with i|i
    ·exact ha u i
    ·rw[mS.1 i];exact p
theorem U9{l:List Tk}(P:Ql l):match Fz l with | .error f=>f.1≠0 | .ok x=>x.q/\∀r∈x.rules,RQ r:=by
 have j:=Q8 (l.length+1) (x:=⟨[],[],[],[]⟩) ⟨by simp,by simp,by simp,rfl⟩ P (by omega);unfold Fz;cases t:FO (l.length+1) ⟨[],[],[],[]⟩ l with
 | error e=>rw[t]at j;exact j
 | ok q=>
  obtain⟨x,l1⟩:=q;rw[t]at j;obtain⟨i,J,g3⟩:=j;have o:=Sr J;simp only;cases I:CQ l1 with
  | error e=>rw[I]at o;exact o
  | ok q=>
   obtain⟨r,l2⟩:=q;rw[I]at o;obtain⟨T,U,k3⟩:=o;have p:=O1 (l.length+1) (a:=[r]) (fun u R=>by rw[mS.1 R];exact T) U (by omega);simp only;cases C:Fi (l.length+1) [r] l2 with
   | error e=>rw[C]at p;exact p
   | ok rs=>rw[C]at p;exact⟨⟨i.decl,i.marks,i.starts,i.same⟩,p⟩
theorem RX{sz:Nat}(R:sz<=8192):∀(f p:Nat) (l:List UInt8) {o:List Tk},p+l.length=sz->E4 sz f p l=.ok o->Hx o/\(∀t∈o,TQ t)/\o.length<=l.length+1
 | 0,_,_,_,_,i=>by cases i
 | f+1,p,l,o,hp,i=>by
  simp only[E4]at i;split at i
  ·injection i with i;subst i
   exact⟨rfl,fun t j=>by rw[mS.1 j];exact⟨by simp,R⟩,by simp⟩
  ·rename_i a1
   have a0:0<l.length:=by cases l with|nil=>simp at a1|cons _ _=>simp
   cases I:GL sz p l with
   | error e=>rw[I]at i;cases i
   | ok q=>
    obtain⟨k,n⟩:=q;have hn:=(Ol I).2 a0;have a2:=S3 I (by omega);rw[I]at i;simp only at i;cases J:E4 sz f (p+n) (l.drop n) with
    | error e=>rw[J]at i;cases i
    | ok a3=>
     rw[J]at i;injection i with i;obtain⟨C,P,T⟩:=RX R f (p+n) (l.drop n) (by rw[List.length_drop];omega) J;rw[List.length_drop]at T;subst i;split
     ·exact⟨C,P,by omega⟩
     ·rename_i U
      refine⟨?_,fun t j=>?_,by simp;omega⟩
      ·obtain⟨u,r,hu⟩:=C.cons
       rw[hu]at C ⊢;exact⟨U,C⟩
      ·rcases List.mem_cons.1 j with rfl|j
       ·exact⟨by simp;omega,by show p<=8192;omega⟩
       ·exact P t j
theorem eP{l:List UInt8}{i:List Tk}(h:tokens l=.ok i):Ql i:=by
 unfold tokens at h;split at h
 ·cases h
 ·rename_i t
  obtain⟨j,o,p⟩:=RX (by omega) _ 0 l (by omega) h;exact⟨j,o,by omega⟩
theorem Nl{C:AO->Bool}:∀(l:List Tk) (m:Option (Nat×Tk)) (T:List AO) {f:Bi},BA C m l T=.error f->f.1≠0
 | [],none,T,f,h=>by cases h
 | [],some (m,I),T,f,h=>by
  unfold BA Es at h;by_cases p:C I.s=true
  ·rw[if_pos p]at h;cases h
  ·rw[if_neg p]at h;injection h with h;rw[<-h];simp
 | t::l,none,T,f,h=>by
  unfold BA at h;cases i:Cr T t with
  | error e=>
   rw[i]at h;injection h with h;rw[<-h];unfold Cr at i;split at i
   ·injection i with i;rw[<-i];simp
   split at i
   ·injection i with i;rw[<-i];simp
   ·cases i
  | ok j=>rw[i]at h;exact Nl l none j h
 | t::l,some (m,I),T,f,h=>by
  have J:∀(o:Option (Nat×Tk)),(match Cr T t with | .error e=>Except.error e | .ok j=>BA C o l j)=.error f->f.1≠0:=by
   intro o h;cases i:Cr T t with
   | error e=>
    rw[i]at h;injection h with h;rw[<-h];unfold Cr at i;split at i
    ·injection i with i;rw[<-i];simp
    split at i
    ·injection i with i;rw[<-i];simp
    ·cases i
   | ok j=>rw[i]at h;exact Nl l o j h
  unfold BA at h;split at h
  ·unfold Es at h
   by_cases p:C I.s=true
   ·rw[if_pos p]at h;exact J none h
   ·rw[if_neg p]at h;injection h with h;rw[<-h];simp
  ·exact J (some (m,I)) h
theorem fX{x:Bh}{f:Bi}(h:Gr x=.error f):f.1≠0:=by
 unfold Gr at h;cases i:BA (leftOf x) (BW x) x.decl [] with
 | error e=>
  rw[i]at h;simp only at h;split at h
  ·injection h with h;rw[<-h];simp
  ·injection h with h;rw[<-h];exact Nl _ _ _ i
 | ok T=>
  rw[i]at h;simp only at h;split at h
  ·injection h with h;rw[<-h];simp
  ·cases h
theorem PL{j:AO->Bool}:∀(l:List Tk) (b:Bd) (k:Nat) {f:Bi},DY j b k l=.error f->f.1≠0
 | [],b,k,f,h=>by cases h
 | t::l,b,k,f,h=>by
  unfold DY at h;cases i:D0 j b t k with
  | error e=>
   rw[i]at h;injection h with h;rw[<-h];unfold D0 at i;split at i
   ·injection i with i;rw[<-i];simp
   split at i
   ·cases i
   split at i
   ·split at i
    ·injection i with i;rw[<-i];simp
    ·cases i
   split at i
   ·cases i
   ·injection i with i;rw[<-i];simp
  | ok o=>rw[i]at h;exact PL l o (k+1) h
theorem Zx{j:AO->Bool}{b:Bd}{left:AO}{s:PS}{f:Bi}(h:D3 j b left s=.error f):f.1≠0:=by
 unfold D3 at h;split at h
 ·injection h with h;rw[<-h];simp
 cases i:DY j b 0 s.l with
 | error e=>rw[i]at h;injection h with h;rw[<-h];exact PL _ _ _ i
 | ok l=>
  rw[i]at h;simp only at h;split at h
  ·injection h with h;rw[<-h];simp
  ·cases h
theorem S9{j:AO->Bool}{left:AO}:∀(l:List PS) (b:Bd) {f:Bi},Fw j left b l=.error f->f.1≠0
 | [],b,f,h=>by cases h
 | s::l,b,f,h=>by
  unfold Fw at h;cases i:D3 j b left s with
  | error e=>rw[i]at h;injection h with h;rw[<-h];exact Zx i
  | ok o=>rw[i]at h;exact S9 l o h
theorem PJ{o:AO->Bool}{D:Nat}:∀(l:List PR) (b:Bd) {f:Bi},Di o D b l=.error f->f.1≠0
 | [],b,f,h=>by cases h
 | r::l,b,f,h=>by
  unfold Di JB at h;cases i:EO D b r.left with
  | error e=>
   rw[i]at h;injection h with h;rw[<-h];unfold EO at i;split at i
   ·injection i with i;rw[<-i];simp
   split at i
   ·cases i
   split at i
   ·injection i with i;rw[<-i];simp
   ·cases i
  | ok p=>
   rw[i]at h;simp only at h;cases j:Fw o r.left.s p r.Gw with
   | error e=>rw[j]at h;injection h with h;rw[<-h];exact S9 _ _ j
   | ok t=>rw[j]at h;exact PJ l t h
theorem Xc{x:Bh}{f:Bi}(h:Gh x=.error f):f.1≠0:=by
 unfold Gh at h;cases i:Gr x with
 | error e=>rw[i]at h;injection h with h;rw[<-h];exact fX i
 | ok T=>
  rw[i]at h;simp only at h;cases j:Di (leftOf x) T.length ⟨T,[],[]⟩ x.rules with
  | error e=>rw[j]at h;injection h with h;rw[<-h];exact PJ _ _ j
  | ok b=>rw[j]at h;cases h
theorem Xm{x:Bh}(h:x.q):DM x.marks<=100000:=by
 have i:=h.marks;unfold DM;split
 ·rename_i a m r e
  have:=i m (by rw[e];simp);omega
 ·omega
end Go.Proofs.YthaacmablcpdfaaGreatDoor
