/- The reader. -/
import Derived.Test.YtlogpnoioimhjaaGreatDoorXaj
set_option linter.all false
set_option maxRecDepth 100000
set_option maxHeartbeats 16000000
namespace Go.Proofs.YtlogpnoioimhjaaGreatDoor
open Go.RowKit Go.Proofs.Tryz
variable{B c2 k mb n:Nat}{D:DataW Unit}{L:List AO}{s:List UInt8}{i j r:List Tk}{tb:Option Nat}{rv:Value}{a:List PR}{S:List PS×List Tk}{H:Except Bm (Bl×List Tk)}{e:TypeId}{xs:List Value}{cs:Array Value}{f:Bm}
section
open Go.RowKit Go.Proofs.Tryz Go.Maps
def Oz{w:World}{L:List (List UInt8)}(h:w.ownsMap Tryz.prog 9 (plainElem Tryz.prog 3) mb n D)(p:Jo D L)(C:s.length<=8192):(Instr.lookup 139 (.map (some mb)) (.string (str s)) false).run Tryz.prog w=.ok (.int .i64 (L.count s)) w:=by have t:=WideMaps.keyOf_string_mk underlying9 (s:=str s) (by rw[Kh];unfold maxLen;omega);obtain⟨c,j,l,_⟩:=h.lookup_int IE underlying139 underlying3 (LV w) t;rw[j];have o:=p s;have i:D.atKey (Cf s) (.lit (.int .i64 0))=.lit (.int .i64 c):=l;rw[o]at i;simp only[DataW.lit.injEq,Lit.int.injEq,true_and]at i;rw[<-i]
def Z3{w:World}(h:w.ownsMap Tryz.prog 9 (plainElem Tryz.prog 3) mb n D)(l:n<=100000)(o:s.length<=8192){c:Nat}(j:c<=100000) :
  ∃w',(Instr.mapUpdate 139 (.map (some mb)) (.string (str s)) (.int .i64 ((c:Int)+1))).run Tryz.prog w=.ok () w'/\w'.ownsMap Tryz.prog 9 (plainElem Tryz.prog 3) mb (n+1) (D.put (Cf s) (.lit (.int .i64 (c+1))))/\w.grownBy w' (some mb):=by
 have i:=WideMaps.keyOf_string_mk underlying9 (s:=str s) (by rw[Kh];unfold maxLen;omega);exact h.update IE underlying139 (by unfold maxLen;omega) i (plainElem_int underlying3 (WalkArith.wf_i64 (by omega)))
def JV.drew{w j:World}{rb o:Nat}{l:List Tk}{x:Bl}{p t I:Value}{C:List Br}{q:Br}(h:JV w j B rb mb o tb l x p t I rv C q D):JV w j.drew B rb mb o tb l x p t I rv C q D:=by have i:Aj (fun _=>False) j j.drew:=(Aj.refl _ _).drew;exact⟨h.Bu.drew,i.own h.rules (fun _ _=>id),fun r J=>(h.Hl r J).AE i (fun _ _ _=>id),DY h.map i id,i.Ap h.Ap id,h.AE.drew⟩
def dK(w:World)(B rb mb:Nat)(tb:Option Nat)(x:Bl)(i j C:Value)(p:List Br)(l:List Tk)(e:Ending)(w':World):Prop:=
 Aj (fun k=>k=rb\/B<=k\/k=mb) w w'/\match CO l with
 | .ok (r,o)=>e=.returned (.tuple #[])/\∃t q D,q.r=r/\DS w' B rb mb tb o x i j C t (p++[q]) D
 | .error f=>BW f e
def KT(l:List Tk):(l.dropWhile Bg).length<=l.length:=(List.dropWhile_sublist Bg).length_le
def dA{t l:Tk}(p:t.k=1)(C:l.k=3){a:List PS}{o:Tk}(J:DR (i.length+1) [BR i] (i.dropWhile Bg)=(a,o::j))(I:o.k=5):CO (t::l::i)=.ok (⟨t,a⟩,j):=by simp[CO,p,Cu,C,J,I]
def Zh{t o:Tk}(p:t.k=1)(C:o.k=3){a:List PS}{j:Tk}{l:List Tk}(J:DR (i.length+1) [BR i] (i.dropWhile Bg)=(a,j::l))(I:j.k≠5):CO (t::o::i)=.error (DH (j::l)):=by simp[CO,p,Cu,C,J,I]
def Kx(S:List PS×List Tk)(i:List GS)(rest:List Tk):Prop:=∃f,rest.length<=f/\S=DR f (i.map GS.s) rest
theorem Kx.step{j:List GS}{t:Tk}(h:Kx S j (t::r))(l:t.k=4)(q:GS)(o:q.s=BR r):Kx S (j++[q]) (r.dropWhile Bg):=by
 obtain⟨f,i,h⟩:=h;cases f with
 | zero=>simp at i
 | succ f=>have:=KT r;simp at i;refine⟨f,by omega,?_⟩;rw[h,DR,if_pos (by simp[Cu,l])];simp[o]
theorem Kx.last{i:List GS}{t:Tk}(h:Kx S i (t::r))(l:t.k≠4):S=(i.map GS.s,t::r):=by
 obtain⟨f,j,h⟩:=h;cases f with
 | zero=>simp at j
 | succ f=>rw[h,DR,if_neg (by simp[Cu,l])]
def Om{w:World}{rb:Nat}{l:List Tk}{x:Bl}{dv kv sv:Value}{p:List Br}(h:DS w B rb mb tb l x dv kv sv rv p D)(bi:∀u∈l,u.s.length<=8192):Calls Tryz.prog 88 #[.pointer (some ⟨rb,0,none⟩)] w (dK w B rb mb tb x dv kv sv p l):=by
 obtain⟨t,r,rfl⟩:=h.Bu.A0.ended.cons;have bj:=bi t (by simp);have b2:=Hd bj;clear bi bj;obtain⟨Ar,cr,rfl⟩:=BF h.rules;by_cases P:t.k=1
 ·obtain⟨ai,bd⟩:=h.Bu.A0.ended.tail (by omega)
  obtain⟨t2,i,rfl⟩:=ai.cons;have ae:=Hd (h.Bu.A0.want 1 1 rfl P (by omega));have ba:=h.Bu.A0.lt;have cj:=h.lr;simp at cj;have T:=Hd h;by_cases h3:t2.k=3
  ·obtain⟨b7,cm⟩:=ai.tail (by omega)
   obtain⟨t3,r3,cn⟩:=b7.cons;have ax:=Hd P;have ao:=Hd h3;have an:=Hd (KT i);clear h P h3 ai bd b7 cm cn;go_enter func88,ntmps88
   go_wp2_with (first
    | (
      go_at_call 120;(with_reducible refine ae.out.mono ?_);intro e w1 o;obtain⟨rfl,a3,a9⟩:=o
      have al:=Hd a3;have cp:=a3.size;have aa:=a9.AE ((Aj.refl (fun _=>False) w1).alloc (.cells #[.int .i64 t.k,.string (str t.s),.int .i64 t.p,.slice none 0 0] 180)) id (fun _ _=>id);have bl:=Hd (Ah.new w1 180 #[.int .i64 t.k,.string (str t.s),.int .i64 t.p,.slice none 0 0]);have aq:=Hd (aa.want 3 3 rfl ao.out (by omega));clear a3 a9 aa)
    | (
      go_at_call 120;(with_reducible refine aq.out.mono ?_);intro e w2 o;obtain⟨rfl,au,bh⟩:=o
      have b6:=au.Ap bl.out (by omega);have bx:Hid (Ht w rb dv kv sv (.slice Ar p.length cr) (.map (some mb)) tb w1.heap.size t (.slice none 0 0) [] i w2):=Hd ⟨bh,b6,World.ownsRow_nil _ _ _ _,(by simp),(al.out.alloc _).next au,cp,ba.1,ba.2⟩;clear au bh b6))
   generalize w1.heap.size=bb at *;have HD:=Hd bx.out.drew;have c8:=Hd (TU HD.out.A0 (by omega));have b3:=HD.out.Ap.cell 3;have u3:=HD.out.Ap.frozen 3;have d2:=HD.out.AE.size;simp at b3;go_region_law (first
    | (
      refine EG Sj (.tmp 9) (.tmp 12) ?_ ?_ (base:=w.heap.size) (n:=0) (m:=1) (N:=1) (v:=.slice none 0 0) (src:=.slice (some ⟨w3.heap.size,0,none⟩) 1 1) (xs:=[]) (news:=[.slice A (BR i).l.length c,.int .i64 (BR i).p]) ?_ ?_ ?_ ?_ ?_ ?_ ?_ ?_ ?_
      · rfl
      · rfl
      · rfl
      · rfl
      · exact World.ownsRow_nil _ _ _ _
      · exact P0 w3 _ _ _ _
      · rfl
      · unfold maxLen;omega
      · omega
      · simp;omega
      intro A4 c4 w4 r1 a2 r3;have HF:=Hd (HD.out.rel rfl bm.out bz.out bu.out r1 a2);have a0:=a2.Ap (bk.out.alloc _) (.inr (by decide));have z0:=a0.cell 3;have z1:=a0.frozen 3;simp at z0;clear r1 a2 r3 a0)
    | (
      go_simp;go_at_call 121;refine c8.out.mono ?_;intro e w3 o;obtain⟨A,c,rfl,af,av,be⟩:=o;have a7:=HD.out.later af av;have y0:=a7.Ap.cell 3;have y1:=a7.Ap.frozen 3;simp at y0;have bk:=Hd a7.Ap;have cs:=a7.Ap.lt;have bm:=Hd af;have bz:=Hd av;have bu:=Hd be;have d0:w2.heap.size<=w3.heap.size:=af.size;clear af av be a7))
   all_goals go_wp2
   all_goals
    have b9:([⟨BR i,.slice A (BR i).l.length c⟩]:List GS).length+(i.dropWhile Bg).length<=100000:=by have:=an.out;simp;omega
    have bq:=Hd (And.intro b9 an.out);clear b9;go_loopg [] (i.dropWhile Bg).length (fun n wr=>∃(bv:Value) (j:List GS) (rest:List Tk),n=rest.length/\Hid (Ht w rb dv kv sv (.slice Ar p.length cr) (.map (some mb)) tb bb t bv j rest wr)/\Hid (Kx (DR (i.length+1) [BR i] (i.dropWhile Bg)) j rest)/\Hid (j.length+rest.length<=100000/\rest.length<=i.length))
    case atStart=>exact⟨.slice A4 1 c4,[⟨BR i,.slice A (BR i).l.length c⟩],i.dropWhile Bg,rfl,Hd HF.out,Hd ⟨i.length+1,by have:=an.out;omega,rfl⟩,bq⟩
    case round=>
     obtain⟨bv,j,rest,rfl,I,b4,br⟩:=hrel;obtain⟨t4,r4,rfl⟩:=I.out.A0.ended.cons;have a4:=Hd (I.out.A0.is 4 4 rfl);obtain⟨Ab,cb,rfl⟩:=BF I.out.own;obtain⟨ck,cl⟩:=br.out;simp at ck cl;by_cases U:t4.k=4
     · have a6:(t4.k==4)=true:=by simp[U]
       rw[a6]at a4;have ca:=Hd (I.out.A0.take (by omega));have ay:=Hd U;clear a6 U;go_wp2_with (first
         | (go_at_call 85;(with_reducible refine a4.out.mono ?_);rintro e w' ⟨rfl,ad⟩;subst ad)
         | (
           go_at_call 87;refine ca.out.mono ?_;intro e w5 o;obtain⟨rfl,a5,ab⟩:=o
           have J:=Hd (I.out.later a5 ab);clear a5 ab))
       have C:=Hd J.out.drew;have c9:=Hd (TU C.out.A0 (by omega));have b5:=C.out.Ap.cell 3;have u5:=C.out.Ap.frozen 3;have d3:=C.out.AE.size;simp at b5;go_region_law (first
         | (
           refine EG Sj (.tmp 20) (.tmp 23) ?_ ?_ (base:=w.heap.size) (n:=j.length) (m:=1) (N:=j.length+1) (v:=.slice Ab j.length cb) (src:=.slice (some ⟨w6.heap.size,0,none⟩) 1 1) (xs:=j.flatMap GS.cells) (news:=[.slice A6 (BR r4).l.length c6,.int .i64 (BR r4).p]) ?_ ?_ ?_ ?_ ?_ ?_ ?_ ?_ ?_
           · rfl
           · rfl
           · rfl
           · rfl
           · exact az.out.own.alloc _
           · exact P0 w6 _ _ _ _
           · rfl
           · unfold maxLen;omega
           · omega
           · simp;omega
           intro A7 c7 w7 r1 a2 r3;have HG:=Hd (C.out.rel rfl bn.out c0.out bw.out r1 a2);have a0:=a2.Ap (az.out.Ap.alloc _) (.inr (by decide));have z0:=a0.cell 3;have z1:=a0.frozen 3;simp at z0;clear r1 a2 r3 a0)
         | (
           go_simp;go_at_call 121;refine c9.out.mono ?_;intro e w6 o;obtain⟨A6,c6,rfl,ag,a1,bf⟩:=o;have a8:=C.out.later ag a1;have y0:=a8.Ap.cell 3;have y1:=a8.Ap.frozen 3;simp at y0;have az:=Hd a8;have cu:=a8.Ap.lt;have bn:=Hd ag;have c0:=Hd a1;have bw:=Hd bf;have d1:w5.heap.size<=w6.heap.size:=ag.size;clear ag a1 bf a8))
       all_goals go_wp2
       all_goals have cv:=KT r4
       all_goals go_roundg (r4.dropWhile Bg).length
       all_goals first
         | (case measure=>simp;omega)
         | (case rel=>exact⟨.slice A7 (j.length+1) c7,j++[⟨BR r4,.slice A6 (BR r4).l.length c6⟩],r4.dropWhile Bg,rfl,Hd HG.out,Hd (b4.out.step ay.out _ rfl),Hd ⟨by simp;omega,by omega⟩⟩)
     · have a6:(t4.k==4)=false:=by simp[U]
       rw[a6]at a4;have b0:=Hd (b4.out.last U);have ay:=Hd U;clear a6 U;by_cases h5:t4.k=5
       · have ar:=Hd (I.out.A0.want 5 5 rfl h5 (by omega))
         have R:=Hd (dA ax.out ao.out b0.out h5);clear h5;go_wp2_with (first
          | (go_at_call 85;(with_reducible refine a4.out.mono ?_);rintro e w' ⟨rfl,ad⟩;subst ad)
          | (
             go_at_call 120;refine ar.out.mono ?_;intro e w5 o;obtain⟨rfl,a5,ab⟩:=o
             have J:=Hd (I.out.later a5 ab);clear a5 ab))
         have C:=Hd J.out.drew;have aw:=Hd (T.out.Bu.AE C.out.AE (fun _ h=>h) C.out.A0 (by simp;omega));have b1:=Hd (C.out.AE.own T.out.rules (CZ T.out.rules T.out.Bu.EA));obtain⟨_,_,_,e4,e5,cy⟩:=J.out.A0.cells;have x0:=J.out.Ap.cell 0;have x1:=J.out.Ap.cell 1;have x2:=J.out.Ap.cell 2;have x3:=J.out.Ap.cell 3;simp at x0 x1 x2 x3;have cc:B<=w5.heap.size:=aw.out.bB;have ct:=J.out.Ap.lt;go_region_law (
              refine EG bU (.tmp 32) (.tmp 34) ?_ ?_ (base:=B) (n:=p.length) (m:=1) (N:=p.length+1) (v:=.slice Ar p.length cr) (src:=.slice (some ⟨w5.heap.size,0,none⟩) 1 1) (xs:=p.flatMap Br.cells) (news:=[.int .i64 t.k,.string (str t.s),.int .i64 t.p,.slice Ab j.length cb]) ?_ ?_ ?_ ?_ ?_ ?_ ?_ ?_ ?_
              ·rfl
              ·rfl
              ·rfl
              ·rfl
              ·exact b1.out.alloc _
              ·exact AY.Ap (c:=1) (Ah.new w5.drew 180 #[.int .i64 t.k,.string (str t.s),.int .i64 t.p,.slice Ab j.length cb]) rfl (by simp[Value.oneCell'])
              ·rfl
              ·unfold maxLen;omega
              ·omega
              ·simp at cc ⊢;omega
              intro A6 c6 w6 q1 q2 q3;have ak:=Hd (jK (o:=.cells #[.int .i64 t.k,.string (str t.s),.int .i64 t.p,.slice Ab j.length cb] 180) T.out C.out (by simp;omega) q1 q3);have a1:=aw.out.grown (o:=.cells #[.int .i64 t.k,.string (str t.s),.int .i64 t.p,.slice Ab j.length cb] 180) (B4 b1.out) q3.1;obtain⟨_,_,_,cA,_,_⟩:=a1.cells;have vA:=a1.frozen 4;clear q1 q2 q3 a1)
         all_goals go_wp2
         all_goals generalize cq:World.setCell w6 ⟨rb,4,none⟩ (.slice A6 (p.length+1) c6)=w7 at *
         all_goals clear cA vA e4 e5 x0 x1 x2 x3 cq
         all_goals have aj:=Hd ak.out.drew
         all_goals obtain⟨_,_,_,_,e5,_⟩:=ak.out.Bu.A0.cells
         all_goals have x1:=ak.out.Ap.cell 1
         all_goals simp at x1
         all_goals have cw:=Oz aj.out.map T.out.LW b2.out
         all_goals have ch:(p.map fun r=>r.left.s).count t.s<=(p.map fun r=>r.left.s).length:=List.count_le_length
         all_goals simp at ch
         all_goals generalize ah:(p.map fun r=>r.left.s).count t.s=n0 at *
         all_goals obtain⟨w8,cx,bc,b8⟩:=Z3 aj.out.map (by omega) b2.out (c:=n0) (by omega)
         all_goals have cz:IntKind.i64.wrap ((n0:Int)+1)=(n0:Int)+1:=IntWalk.i64_in _ (by omega)
         all_goals have bt:=Hd bc
         all_goals have bp:=Hd b8
         all_goals have bo:=Hd ah
         all_goals clear bc b8 ah
         all_goals go_region
         all_goals go_end0
         all_goals have ah:=bo.out
         all_goals subst ah
         all_goals obtain⟨g1,g2⟩:=JV.last T.out (by simp;omega) aj.out bp.out bt.out
         all_goals refine⟨g2,?_⟩
         all_goals rw[R.out]
         all_goals exact⟨rfl,_,_,_,rfl,g1⟩
       · have ar:=Hd (I.out.A0.Mc 5 5 rfl h5)
         have R:=Hd (Zh ax.out ao.out b0.out h5);clear h5;go_wp2_with (first
          | (go_at_call 85;(with_reducible refine a4.out.mono ?_);rintro e w' ⟨rfl,ad⟩;subst ad)
          | (go_at_call 120;refine ar.out.mono ?_;rintro e w5 ⟨rfl,cg⟩))
         refine⟨rfl,(I.out.AE.mono (fun _ h=>.inl h)).next (.AJ cg),?_⟩;rw[R.out];exact BW.of rfl rfl
  ·have R:Hid (CO (t::t2::i)=.error (DH (t2::i))):=Hd (by simp[CO,P,Cu,h3])
   clear h P ai bd;go_enter func88,ntmps88
   go_wp2_with (first
    | (
      go_at_call 120;(with_reducible refine ae.out.mono ?_);intro e w1 o;obtain⟨rfl,a3,a9⟩:=o
      have al:=Hd a3;have aa:=a9.AE ((Aj.refl (fun _=>False) w1).alloc (.cells #[.int .i64 t.k,.string (str t.s),.int .i64 t.p,.slice none 0 0] 180)) id (fun _ _=>id);have aq:=Hd (aa.Mc 3 3 rfl h3);clear a3 a9 aa)
    | (go_at_call 120;(with_reducible refine aq.out.mono ?_);rintro e w2 ⟨rfl,cf⟩))
   refine⟨rfl,((al.out.mono (fun _ h=>.inl h)).alloc _).next (.AJ cf),?_⟩;rw[R.out];exact BW.of rfl rfl
 ·have ae:=Hd (h.Bu.A0.Mc 1 1 rfl P)
  have R:Hid (CO (t::r)=.error (DH (t::r))):=Hd (by simp[CO,P]);clear h P;go_enter func88,ntmps88
  go_wp2_with (go_at_call 120;refine ae.out.mono ?_;rintro e w1 ⟨rfl,cd⟩)
  refine⟨rfl,.AJ cd,?_⟩;rw[R.out];exact BW.of rfl rfl
end
section
open Go.RowKit Go.Proofs.Tryz Go.Maps
def Pj(l:List Tk):∀u∈l.dropWhile Bg,u∈l:=fun u i=>(List.dropWhile_sublist Bg).subset i
theorem M8{x o:Bl}{l:List Tk}(h:Db x l=.ok (o,j)):j.length<l.length/\∀u∈j,u∈l:=by
 cases l with
 | nil=>cases h
 | cons t r=>
  simp only[Db]at h;split at h
  ·split at h
   ·cases h
   ·injection h with h
    obtain⟨rfl,rfl⟩:=Prod.mk.inj h;have:=KT r;exact⟨by simp;omega,fun u i=>List.mem_cons_of_mem _ (Pj r u i)⟩
  split at h
  ·split at h
   ·injection h with h
    obtain⟨rfl,rfl⟩:=Prod.mk.inj h;exact⟨by simp;omega,fun u i=>List.mem_cons_of_mem _ (List.mem_of_mem_drop i)⟩
   ·cases h
  ·cases h
theorem aI(f:Nat):∀(a:List PS) (l:List Tk),(DR f a l).2.length<=l.length/\∀u∈(DR f a l).2,u∈l:=by
 induction f with
 | zero=>intro a l;exact⟨AF _,fun u h=>h⟩
 | succ f o=>
  intro a l;unfold DR;split
  ·obtain⟨p,i⟩:=o (a++[BR (l.drop 1)]) ((l.drop 1).dropWhile Bg)
   have:=KT (l.drop 1);have t:(l.drop 1).length<=l.length:=by simp
   exact⟨by omega,fun u j=>List.mem_of_mem_drop (Pj _ u (i u j))⟩
  ·exact⟨AF _,fun u h=>h⟩
theorem Kt{r:PR}{l:List Tk}(h:CO l=.ok (r,i)):i.length<l.length/\∀u∈i,u∈l:=by
 cases l with
 | nil=>cases h
 | cons t r=>
  simp only[CO]at h;split at h
  ·cases h
  split at h
  ·split at h
   ·injection h with h
    obtain⟨rfl,rfl⟩:=Prod.mk.inj h;obtain⟨p,j⟩:=aI r.length [BR (r.drop 1)] ((r.drop 1).dropWhile Bg);have:=KT (r.drop 1);have C:(r.drop 1).length<=r.length:=by simp
    refine⟨by rw[List.length_drop,List.length_cons];omega,fun u o=>List.mem_cons_of_mem _ (List.mem_of_mem_drop (Pj _ u (j u (List.mem_of_mem_drop o))))⟩
   ·cases h
  ·cases h
def Jz(H:Except Bm (Bl×List Tk))(x:Bl)(l:List Tk):Prop:=∃f,l.length<f/\H=FY f x l
theorem Jz.step{x o:Bl}{l:List Tk}(h:Jz H x l)(p:Cu 6 l=false)(i:Db x l=.ok (o,j)):Jz H o j:=by
 obtain⟨f,t,h⟩:=h;have:=(M8 i).1;cases f with
 | zero=>omega
 | succ f=>exact⟨f,by omega,by rw[h,FY,if_neg (by simp[p])];simp[i]⟩
theorem Jz.fail{x:Bl}{l:List Tk}{e:Bm}(h:Jz H x l)(i:Cu 6 l=false)(j:Db x l=.error e):H=.error e:=by
 obtain⟨f,o,h⟩:=h;cases f with
 | zero=>omega
 | succ f=>rw[h,FY,if_neg (by simp[i])];simp[j]
theorem Jz.last{x:Bl}{l:List Tk}(h:Jz H x l)(i:Cu 6 l=true):H=.ok (x,l.drop 1):=by
 obtain⟨f,j,h⟩:=h;cases f with
 | zero=>omega
 | succ f=>rw[h,FY,if_pos i]
def I8(H:Except Bm (List PR))(a:List PR)(l:List Tk):Prop:=∃f,l.length<f/\H=FH f a l
theorem I8.step{H:Except Bm (List PR)}{r:PR}{l:List Tk}(h:I8 H a l)(h0:Cu 0 l=false)(i:CO l=.ok (r,j)):I8 H (a++[r]) j:=by
 obtain⟨f,o,h⟩:=h;have:=(Kt i).1;cases f with
 | zero=>omega
 | succ f=>exact⟨f,by omega,by rw[h,FH,if_neg (by simp[h0])];simp[i]⟩
theorem I8.fail{H:Except Bm (List PR)}{l:List Tk}{e:Bm}(h:I8 H a l)(h0:Cu 0 l=false)(i:CO l=.error e):H=.error e:=by
 obtain⟨f,j,h⟩:=h;cases f with
 | zero=>omega
 | succ f=>rw[h,FH,if_neg (by simp[h0])];simp[i]
theorem I8.last{H:Except Bm (List PR)}{l:List Tk}(h:I8 H a l)(h0:Cu 0 l=true):H=.ok a:=by
 obtain⟨f,i,h⟩:=h;cases f with
 | zero=>omega
 | succ f=>rw[h,FH,if_pos h0]
def Yw(w:World)(B rb mb:Nat)(tb:Option Nat)(l:List Tk)(e:Ending)(w':World):Prop:=
 Aj (fun k=>k=rb\/B<=k\/k=mb) w w'/\match FD l with
 | .ok y=>e=.returned (.tuple #[])/\∃p j o C t i D,i.map Br.r=y.rules/\DS w' B rb mb tb p y j o C t i D
 | .error f=>BW f e
def DS.EY{w:World}{rb:Nat}{l:List Tk}{x:Bl}{i j p:Value}{o:List Br}(h:DS w B rb mb tb l x i j p rv o D)(R:List PR):DS w B rb mb tb l {x with rules:=R} i j p rv o D:=by obtain⟨⟨t,J,P,T,U,a6,a7,a8,a9,C,I⟩,b2,b3,b4,b5,b6,b7,b8⟩:=h;exact⟨⟨t,J,P,T,U,a6,a7,a8,a9,C,I⟩,b2,b3,b4,b5,b6,b7,b8⟩
def YP{w:World}{rb:Nat}{l:List Tk}(h:C4 w B rb (.slice none 0 0) (.map (some mb)) tb l ⟨[],[],[],[]⟩ (.slice none 0 0) (.slice none 0 0) (.slice none 0 0))(hm:w.ownsMap Tryz.prog 9 (plainElem Tryz.prog 3) mb 0 (.map []:DataW Unit))(b9:mb<B)(aq:mb≠rb)(ax:∀u∈l,u.s.length<=8192):() 65 #[(rb,0)] w (Yw w B rb mb tb l):=by
 have be:l.length<=100000:=by have:=h.ld;simp at this;omega
 have HH:=Hd h;have ak:=Hd ax;have HM:=Hd hm;clear h ax hm;go_enter func65,ntmps65
 go_wp2;go_loopg [] l.length (fun n wr=>∃(x:Bl) (l':List Tk) (dv kv sv:Value),n=l'.length/\Hid (C4 wr B rb (.slice none 0 0) (.map (some mb)) tb l' x dv kv sv)/\Hid (Aj (fun k=>k=rb\/B<=k) w wr)/\Hid (Jz (FY (l.length+1) ⟨[],[],[],[]⟩ l) x l')/\Hid ((∀u∈l',u∈l)/\l'.length<=l.length))
 case atStart=>exact⟨⟨[],[],[],[]⟩,l,_,_,_,rfl,HH,Hd (Aj.refl _ _),Hd ⟨l.length+1,by omega,rfl⟩,Hd ⟨fun u h=>h,AF _⟩⟩
 case round=>
  obtain⟨x,l',dv,kv,sv,rfl,HR,HC,HT,T⟩:=hrel;obtain⟨a3,r,rfl⟩:=HR.A0.ended.cons;have U:=Hd (HR.A0.is 6 6 rfl);by_cases h6:a3.k=6
  ·have o:(a3.k==6)=true:=by simp[h6]
   rw[o]at U;have ab:=Hd (HT.last (by simpa [Cu] using o));have an:=Hd (HR.A0.take (by omega));clear o h6;have ai:=Hd (fun(R:World) (J:Aj (·=rb) wr R) (hs:Cm R rb dv kv sv (.slice none 0 0) (.map (some mb)) tb r)=>(⟨HR.AE J (fun _ h=>h) hs (by simp),World.ownsRow_nil _ _ _ _,by simp,DY (DY HM HC (by omega)) J aq,Jo.start,b9,aq,by have:=T.2;simp at this ⊢;omega⟩:DS R B rb mb tb r x dv kv sv (.slice none 0 0) [] (.map [])));have al:=Hd (fun u (t:u∈r)=>ak u (T.1 u (List.mem_cons_of_mem _ t)));cases ho:CO r with
   | error f=>
    have j:=Hd ho;clear ho;go_wp2_with (first
     | (go_at_call 85;(with_reducible refine U.out.mono ?_);rintro e w' ⟨rfl,p⟩;subst p)
     | (go_at_call 87;refine an.mono ?_;intro e R i;obtain⟨rfl,P,a1⟩:=i;have a8:=Hd P;have ad:=Hd (Om (ai _ P a1) al);clear P a1)
     | (go_at_call 88;refine ad.mono ?_;intro e w2 i;obtain⟨a5,i⟩:=i;rw[j.out]at i;have i:e=_:=i;subst i))
    refine⟨rfl,(((HC.next (a8.mono (fun _ h=>.inl h))).mono (fun ay hi=>hi.imp id .inl)).next a5),?_⟩;unfold FD;rw[ab.out];simp only[List.drop_succ_cons,List.drop_zero];rw[j.out];exact BW.of rfl rfl
   | ok a2=>
    obtain⟨r1,C⟩:=a2;have j:=Hd ho;clear ho;go_wp2_with (first
     | (go_at_call 85;(with_reducible refine U.out.mono ?_);rintro e w' ⟨rfl,p⟩;subst p)
     | (go_at_call 87;refine an.mono ?_;intro e R i;obtain⟨rfl,P,a1⟩:=i;have a8:=Hd P;have ad:=Hd (Om (ai _ P a1) al);clear P a1)
     | (
       go_at_call 88;refine ad.mono ?_;intro e w2 i;obtain⟨a5,i⟩:=i;rw[j.out]at i;obtain⟨rfl,bb,q2,D2,ar,av⟩:=i
       have a9:=Hd ((((HC.next (a8.mono (fun _ h=>.inl h))).mono (fun ay hi=>hi.imp id .inl)).next a5:Aj (fun k=>k=rb\/B<=k\/k=mb) w w2));have b4:=Hd ar;have b6:=Hd av;clear a5 ar av))
    go_loopg [] C.length (fun n wx=>∃(rv:Value) (rs:List Br) (D:DataW Unit) (l3:List Tk),n=l3.length/\Hid (DS wx B rb mb tb l3 x dv kv sv rv rs D)/\Hid (Aj (fun k=>k=rb\/B<=k\/k=mb) w wx)/\Hid (I8 (FH (l.length+1) [r1] C) (rs.map Br.r) l3)/\Hid (∀u∈l3,u∈l))
    case atStart=>exact⟨bb,[q2],D2,C,rfl,b6,a9,Hd ⟨l.length+1,by have:=(Kt j).1;have:=T.2;simp at this;omega,by rw[<-b4.out];rfl⟩,Hd (fun u t=>T.1 u (List.mem_cons_of_mem _ ((Kt j).2 u t)))⟩
    case round=>
     obtain⟨rv,rs,D,l3,rfl,a4,aa,ae,ah⟩:=hrel;obtain⟨t3,r3,rfl⟩:=a4.Bu.A0.ended.cons;have a0:=Hd (a4.Bu.A0.is 0 0 rfl);have aj:=Hd (Om a4 (fun u t=>ak u (ah u t)));have b0:Hid (∀a,FH (l.length+1) [r1] C=.ok a->FD l=.ok {x with rules:=a}):=Hd (fun a ha=>by unfold FD;rw[ab.out];simp only[List.drop_succ_cons,List.drop_zero];rw[j.out];simp only;rw[ha])
     have b1:Hid (∀f,FH (l.length+1) [r1] C=.error f->FD l=.error f):=Hd (fun f ha=>by unfold FD;rw[ab.out];simp only[List.drop_succ_cons,List.drop_zero];rw[j.out];simp only;rw[ha])
     by_cases h0:t3.k=0
     ·have o:(t3.k==0)=true:=by simp[h0]
      rw[o]at a0;have b3:=Hd (ae.last (by simpa [Cu] using o));clear o h0;go_wp2_with (go_at_call 85;(with_reducible refine a0.out.mono ?_);rintro e w' ⟨rfl,p⟩;subst p)
      go_end0
      refine⟨aa,?_⟩;rw[b0.out _ b3.out];exact⟨rfl,_,_,_,_,_,_,_,rfl,a4.EY _⟩
     ·have o:(t3.k==0)=false:=by simp[h0]
      rw[o]at a0;have HK:=Hd (show Cu 0 (t3::r3)=false by simpa [Cu] using o);clear o h0;cases a7:CO (t3::r3) with
      | error f=>
        have I:=Hd a7;clear a7;go_wp2_with (first
         | (go_at_call 85;(with_reducible refine a0.out.mono ?_);rintro e w' ⟨rfl,p⟩;subst p)
         | (go_at_call 88;refine aj.mono ?_;intro e w4 i;obtain⟨a6,i⟩:=i;rw[I.out]at i;have i:e=_:=i;subst i))
        refine⟨rfl,aa.next a6,?_⟩;rw[b1.out _ (ae.fail HK.out I.out)];exact BW.of rfl rfl
      | ok a2=>
        obtain⟨r4,l4⟩:=a2;have I:=Hd a7;clear a7;go_wp2_with (first
         | (go_at_call 85;(with_reducible refine a0.out.mono ?_);rintro e w' ⟨rfl,p⟩;subst p)
         | (go_at_call 88;refine aj.mono ?_;intro e w4 i;obtain⟨a6,i⟩:=i;rw[I.out]at i;obtain⟨rfl,bc,q4,D4,au,aw⟩:=i;have az:=Hd a6;have b5:=Hd au;have b7:=Hd aw;clear a6 au aw))
        have af:=(Kt I).1
        go_roundg l4.length
        case measure=>exact af
        case rel=>exact⟨bc,rs++[q4],D4,l4,rfl,b7,Hd (aa.next az),Hd (by have h:=ae.step HK I;rw[<-b5.out]at h;rw[By];exact h),Hd (fun u t=>ah u ((Kt I).2 u t))⟩
  ·have o:(a3.k==6)=false:=by simp[h6]
   rw[o]at U;have HK:=Hd (show Cu 6 (a3::r)=false by simpa [Cu] using o);have ag:=Hd (ly HR);clear o h6;cases he:Db x (a3::r) with
   | error f=>
    have j:=Hd he;clear he;go_wp2_with (first
     | (go_at_call 85;refine U.mono ?_;rintro e w' ⟨rfl,p⟩;subst p)
     | (go_at_call 86;refine ag.mono ?_;intro e R i;obtain⟨J,i⟩:=i;rw[j.out]at i;have i:e=_:=i;subst i))
    refine⟨rfl,(HC.next J).mono (fun ay hi=>hi.imp id .inl),?_⟩;unfold FD;rw[HT.fail HK.out j.out];exact BW.of rfl rfl
   | ok a2=>
    obtain⟨x2,C⟩:=a2;have j:=Hd he;clear he;go_wp2_with (first
     | (go_at_call 85;refine U.mono ?_;rintro e w' ⟨rfl,p⟩;subst p)
     | (go_at_call 86;refine ag.mono ?_;intro e R i;obtain⟨J,i⟩:=i;rw[j.out]at i;obtain⟨rfl,b8,ba,bd,ao⟩:=i;have a9:=Hd J;have b2:=Hd ao;clear J ao))
    have af:=(M8 j).1
    go_roundg C.length
    case measure=>exact af
    case rel=>exact⟨x2,C,b8,ba,bd,rfl,b2,Hd (HC.next a9),Hd (HT.step HK j),Hd ⟨fun u t=>T.1 u ((M8 j).2 u t),by have:=T.2;omega⟩⟩
end
section
open Go.RowKit Go.Proofs.Tryz Go.Maps
def Nv(s:List UInt8):Value:=.string (str s)
structure BI where
 v:Value
 l:List AO
def Hy(D:DataW Unit)(L:List AO):Prop:=∀s,D.atKey (Cf s) (.lit (.int .i64 0))=.lit (.int .i64 (if s∈L then L.idxOf s+1 else 0:Nat))
def Hy.start:Hy (.map []) []:=fun s=>rfl
def Hy.next{D:DataW Unit}{L:List AO}(h:Hy D L)(o:Maps.Tidy D){s:AO}(l:s ∉ L):Hy (D.put (Cf s) (.lit (.int .i64 (L.length+1:Nat)))) (L++[s]):=by
 intro u;by_cases e:u=s
 ·subst e
  rw[Maps.atKey_put_same o.isMap (Mu _),if_pos (by simp)];rw[List.idxOf_append,if_neg l];simp
 ·rw[Maps.atKey_put_other (fun j=>e (Ph j)),h u]
  by_cases i:u∈L
  ·rw[if_pos i,if_pos (by simp[i]),List.idxOf_append,if_pos i]
  ·rw[if_neg i,if_neg (by simp[i,e])]
structure BQ(w0 w:World)(bb tm nm rb:Nat)(tv nv gv:Value)(b:Bd)(gs:List BI)(DT DN:DataW Unit):Prop where
 below:Below w0 w0 w
 Ap:Ah w bb 146 #[(rb,0),.map (some tm),.map (some nm),tv,nv,.slice none 0 0,.int .i64 0,gv]
 ft:w.ownsRow w0 9 1 tv b.T.length (b.T.map Nv)
 fn:w.ownsRow w0 9 1 nv b.N.length (b.N.map Nv)
 fg:w.ownsRow w0 55 1 gv gs.length (gs.map BI.v)
 names:gs.map BI.l=b.R
 rows:∀q∈gs,w.ownsRow w0 9 1 q.v q.l.length (q.l.map Nv)
 tn:∀k,tv.ownBlock=some k->¬nv.ownBlock=some k
 tr:∀q∈gs,∀k,tv.ownBlock=some k->¬q.v.ownBlock=some k
 nr:∀q∈gs,∀k,nv.ownBlock=some k->¬q.v.ownBlock=some k
 mt:w.ownsMap Tryz.prog 9 (plainElem Tryz.prog 3) tm b.T.length DT
 mn:w.ownsMap Tryz.prog 9 (plainElem Tryz.prog 3) nm b.N.length DN
 pt:Hy DT b.T
 pn:Hy DN b.N
 b0:w0.heap.size<=bb/\w0.heap.size<=tm/\w0.heap.size<=nm
 b1:tm≠nm
 lt:b.T.length<=120
 ln:b.N.length<=120
 lr:b.R.length<=300
def Ky{w:World}(h:w.ownsMap Tryz.prog 9 (plainElem Tryz.prog 3) mb n D)(p:Hy D L)(C:s.length<=8192):(Instr.lookup 139 (.map (some mb)) (.string (str s)) false).run Tryz.prog w=.ok (.int .i64 (if s∈L then L.idxOf s+1 else 0:Nat)) w:=by have t:=WideMaps.keyOf_string_mk underlying9 (s:=str s) (by rw[Kh];unfold maxLen;omega);obtain⟨c,j,l,_⟩:=h.lookup_int IE underlying139 underlying3 (LV w) t;rw[j];have o:=p s;have i:D.atKey (Cf s) (.lit (.int .i64 0))=.lit (.int .i64 c):=l;rw[o]at i;simp only[DataW.lit.injEq,Lit.int.injEq,true_and]at i;rw[<-i]
def Se{w:World}(h:w.ownsMap Tryz.prog 9 (plainElem Tryz.prog 3) mb n D)(l:n<=100000)(o:s.length<=8192){c:Nat}(j:c<=100000) :
  ∃w',(Instr.mapUpdate 139 (.map (some mb)) (.string (str s)) (.int .i64 (c:Int))).run Tryz.prog w=.ok () w'/\w'.ownsMap Tryz.prog 9 (plainElem Tryz.prog 3) mb (n+1) (D.put (Cf s) (.lit (.int .i64 (c:Int))))/\w.grownBy w' (some mb):=by
 have i:=WideMaps.keyOf_string_mk underlying9 (s:=str s) (by rw[Kh];unfold maxLen;omega);exact h.update IE underlying139 (by unfold maxLen;omega) i (plainElem_int underlying3 (WalkArith.wf_i64 (by omega)))
def Ga{w:World}{p:Nat}{s:Nat}{v:Value}(h:w.ownsMap Tryz.prog 9 (plainElem Tryz.prog 3) mb n D)(o:w.ownsRow B e s v p xs):¬v.ownBlock=some mb:=by
 intro j;obtain⟨C,clock,l,_⟩:=h;rcases Bi o with⟨rfl,_⟩|⟨b,c,rfl,_,_,_,_,t,i⟩
 ·cases j
 ·cases j
  unfold Ah at i;rw[l]at i;cases i
def G0{w:World}{g:Nat}(h:w.ownsMap Tryz.prog 9 (plainElem Tryz.prog 3) mb n D)(i:Ah w g e cs):mb≠g:=by rintro rfl;obtain⟨l,clock,j,_⟩:=h;unfold Ah at i;rw[j]at i;cases i
def Cz{w:World}{g:Nat}{i:TypeId}{s:Nat}{v:Value}(p:w.ownsRow B e s v n xs)(h:Ah w g i cs)(o:e≠i):¬v.ownBlock=some g:=by
 intro j;rcases Bi p with⟨rfl,_⟩|⟨b,c,rfl,_,_,_,_,t,l⟩
 ·cases j
 ·cases j
  exact Ah.Bf (t:=e) l h o rfl
def BQ.AE{X:Nat->Prop}{U w w':World}{C T R rb:Nat}{tv nv J:Value}{b:Bd}{I:List BI}{t p:DataW Unit}(h:BQ U w C T R rb tv nv J b I t p)(i:Aj X w w')(j:∀k,k<w.heap.size->¬X k):BQ U w' C T R rb tv nv J b I t p where
 below:=h.below.trans (i.below h.below.size (fun k hk=>j k (Ba hk h.below.size)))
 Ap:=i.Ap h.Ap (j _ h.Ap.lt)
 ft:=i.own h.ft (fun g l=>j g (B4 h.ft g l).2)
 fn:=i.own h.fn (fun g l=>j g (B4 h.fn g l).2)
 fg:=i.own h.fg (fun g l=>j g (B4 h.fg g l).2)
 names:=h.names
 rows q P:=i.own (h.rows q P) (fun g l=>j g (B4 (h.rows q P) g l).2)
 tn:=h.tn
 tr:=h.tr
 nr:=h.nr
 mt:=DY h.mt i (j _ (by obtain⟨es,c,o,_⟩:=h.mt;exact(aG.1 o).1))
 mn:=DY h.mn i (j _ (by obtain⟨es,c,o,_⟩:=h.mn;exact(aG.1 o).1))
 pt:=h.pt
 pn:=h.pn
 b0:=h.b0
 b1:=h.b1
 lt:=h.lt
 ln:=h.ln
 lr:=h.lr
end
variable{w w0:World}{rb:Nat}{gv nv tv v:Value}{b:Bd}{gs:List BI}{DN DT:DataW Unit}
section
open Go.RowKit Go.Proofs.Tryz Go.Maps
def OG:El Tryz.prog 55 9 1 16:=El.of (z:=.string ⟨#[]⟩) underlying55 (by kernel_rfl) rfl (by decide)
def Oy(y:World)(s:ByteArray):AY (y.alloc (.cells #[.string s] 9)) (.slice (y,0) 1 1) 1 1 [.string s]:=
 AY.Ap (c:=1) (Ah.new y 9 #[.string s]) rfl (by simp[Value.oneCell'])
def Rj(h:w.ownsMap Tryz.prog 9 (plainElem Tryz.prog 3) mb n D):mb<w.heap.size:=by obtain⟨j,c,i,_⟩:=h;exact(aG.1 i).1
def Dw(i l j:Nat)(tv nv:Value)(k:Nat):Prop:=k=i\/k=l\/k=j\/tv.ownBlock=some k\/nv.ownBlock=some k
def BK(w:World)(v v':Value):Prop:=∀k,v'.ownBlock=some k->v.ownBlock=some k\/w.heap.size<=k
def BK.refl(w:World)(v:Value):BK w v v:=fun k h=>.inl h
def YO{w2 J:World}{o:Obj}{j t C:Nat}{s:AO}{l:Option Addr}
  (h:BQ w0 w j t C rb tv nv gv b gs DT DN) (hs:s ∉ b.T) (a8:b.T.length<120)
  (ho:w2.ownsRow w0 9 1 (.slice l (b.T.length+1) c2) (b.T.length+1) (b.T.map Nv++[Nv s]))
  (hg:(w.alloc o).grownBy w2 tv.ownBlock/\((Value.slice l (b.T.length+1) c2).ownBlock=tv.ownBlock\/(Value.slice l (b.T.length+1) c2).ownBlock=some (w.alloc o).heap.size))
  (hm:J.ownsMap Tryz.prog 9 (plainElem Tryz.prog 3) t (b.T.length+1) (DT.put (Cf s) (.lit (.int .i64 (b.T.length+1:Nat)))))
  (a5:(w2.setCell (j,3) (.slice l (b.T.length+1) c2)).drew.grownBy J (some t)) :
  BQ w0 J j t C rb (.slice l (b.T.length+1) c2) nv gv {b with T:=b.T++[s]} gs (DT.put (Cf s) (.lit (.int .i64 (b.T.length+1:Nat)))) DN/\Aj (Dw j t C tv nv) w J/\BK w tv (.slice l (b.T.length+1) c2):=by
 have hX:Aj (fun k=>tv.ownBlock=some k) w w2:=((Aj.refl _ w).alloc o).next (.CE hg.1);have a4:Aj (fun k=>tv.ownBlock=some k\/k=j) w (w2.setCell (j,3) (.slice l (b.T.length+1) c2)).drew:=((hX.mono (fun a3 R=>.inl R)).set (p:=⟨j,3,none⟩) (.inr (.inr rfl)) _).drew;have h4:=Aj.of_map a5;have hY:Aj (fun k=>(tv.ownBlock=some k\/k=j)\/k=t) w J:=(a4.mono (fun a3 R=>.inl R)).next (h4.mono (fun a3 R=>.inr R));have a7:=h.Ap.lt;have a9:=Rj h.mt;have e1:¬tv.ownBlock=some j:=Cz h.ft h.Ap (by decide);have e2:¬tv.ownBlock=some t:=Ga h.mt h.ft;have e3:t≠j:=G0 h.mt h.Ap
 have e4:C≠j:=G0 h.mn h.Ap;have e5:¬tv.ownBlock=some C:=Ga h.mn h.ft;have a2:∀k,(Value.slice l (b.T.length+1) c2).ownBlock=some k->k≠j/\k≠t:=by
  intro k i;rcases hg.2 with e|e
  ·rw[e]at i
   exact⟨by rintro rfl;exact e1 i,by rintro rfl;exact e2 i⟩
  ·rw[e]at i
   cases i
   exact⟨by simp;omega,by simp;omega⟩
 have a0:∀{e:TypeId} {I n:Nat} {v:Value} {P:List Value},w.ownsRow w0 e I v n P->e≠146->(∀k,tv.ownBlock=some k->¬v.ownBlock=some k)->J.ownsRow w0 e I v n P:=by
  intro e I n v P U he hd;refine hY.own U ?_;rintro k i ((p|rfl)|rfl)
  ·exact hd k p i
  ·exact Cz U h.Ap he i
  ·exact Ga h.mt U i
 have a1:∀{v:Value} {B n I:Nat} {e:TypeId} {P:List Value},w.ownsRow B e I v n P->(∀k,tv.ownBlock=some k->¬v.ownBlock=some k)->∀k,(Value.slice l (b.T.length+1) c2).ownBlock=some k->¬v.ownBlock=some k:=by
  intro v B n I e P U hd k i hv;rcases hg.2 with e|e
  ·rw[e]at i;exact hd k i hv
  ·rw[e]at i
   cases i
   have:=(B4 U _ hv).2;simp at this;omega
 refine⟨?_,hY.mono ?_,?_⟩
 rotate_left
 ·rintro k ((p|rfl)|rfl)
  ·exact .inr (.inr (.inr (.inl p)))
  ·exact .inl rfl
  ·exact .inr (.inl rfl)
 ·intro k i
  rcases hg.2 with e|e
  ·exact .inl (e▸i)
  ·rw[e]at i
   cases i
   exact .inr (by simp)
 refine⟨?_,?_,?_,a0 h.fn (by decide) h.tn,a0 h.fg (by decide) (fun k i a6=>Gf h.ft h.fg (by decide) k i a6),h.names,fun q T=>a0 (h.rows q T) (by decide) (h.tr q T),a1 h.fn h.tn,fun q T=>a1 (h.rows q T) (h.tr q T),h.nr,by simpa using hm,?_,?_,h.pn,h.b0,h.b1,by simp;omega,h.ln,h.lr⟩
 ·refine h.below.trans (hY.below h.below.size ?_)
  rintro k i ((p|rfl)|rfl)
  ·have:=(B4 h.ft k p).1;omega
  ·have:=h.b0.1;omega
  ·have:=h.b0.2.1;omega
 ·refine h4.Ap (cs:=#[(rb,0),.map (some t),.map (some C),.slice l (b.T.length+1) c2,nv,.slice none 0 0,.int .i64 0,gv]) ?_ (fun e=>e3 e.symm)
  have:=(hX.Ap h.Ap e1).Be 3 (.slice l (b.T.length+1) c2);exact(Aj.refl (fun _=>False) _).drew.Ap (by simpa using this) id
 ·rw[By,show (b.T++[s]).length=b.T.length+1 by simp]
  exact h4.own ((Aj.refl (fun _=>False) _).drew.own (EC (by simpa using ho) (fun e=>(a2 _ e).1 rfl) _) (fun _ _=>id)) (fun k i e=>(a2 k i).2 e)
 ·refine DY h.mn hY ?_
  rintro((p|p)|p)
  ·exact e5 p
  ·exact e4 p
  ·exact h.b1 p.symm
 ·exact h.pt.next (h.mt.tidy IE) hs
def BQ.cells{I:World}{i o l:Nat}{j:Value}{C:List BI}{t p:DataW Unit}(h:BQ I w i o l rb tv nv j b C t p) :
  w.cell? (i,0)=some (.pointer (rb,0))/\w.cell? (i,1)=some (.map (some o))/\w.cell? (i,2)=some (.map (some l))/\w.cell? (i,3)=some tv/\w.cell? (i,4)=some nv/\w.cell? (i,7)=some j/\i<w.heap.size:=
 ⟨h.Ap.cell 0,h.Ap.cell 1,h.Ap.cell 2,h.Ap.cell 3,h.Ap.cell 4,h.Ap.cell 7,h.Ap.lt⟩
def BQ.drew{I:World}{l C t:Nat}{p:Value}{o:List BI}{j i:DataW Unit}(h:BQ I w l C t rb tv nv p b o j i):BQ I w.drew l C t rb tv nv p b o j i:=h.AE ((Aj.refl (fun _=>False) w).drew) (fun _ _=>id)
def BQ.alloc{J:World}{l I C:Nat}{t:Value}{p:List BI}{j i:DataW Unit}(h:BQ J w l I C rb tv nv t b p j i)(o:Obj):BQ J (w.alloc o) l I C rb tv nv t b p j i:=h.AE ((Aj.refl (fun _=>False) w).alloc o) (fun _ _=>id)
def NO(i w:World)(j p l rb:Nat)(tv nv P:Value)(J:List BI)(r:Except Bm Bd)(e:Ending)(w':World):Prop:=
 Below i i w'/\match r with
 | .ok b=>e=.returned (.tuple #[])/\∃t o I C,BQ i w' j p l rb t o P b J I C/\Aj (Dw j p l tv nv) w w'/\BK w tv t/\BK w nv o
 | .error f=>BW f e
def Hx(b:Bd)(t:Tk):Except Bm Bd:=if 120<=b.T.length then .error (7,t.p) else .ok {b with T:=b.T++[t.s]}
def MU{j tm nm:Nat}(h:BQ w0 w j tm nm rb tv nv gv b gs DT DN)(t:Tk)(ht:t.s.length<=8192)(hs:t.s ∉ b.T) :
  () 168 #[(j,0),.agg #[t.k,.string (str t.s),t.p]] w (NO w0 w j tm nm rb tv nv gv gs (Hx b t)):=by
 obtain⟨A,c,rfl⟩:=BF h.ft;have o:=Hd (h.alloc (.cells #[t.k,.string (str t.s),t.p] 173));obtain⟨c0,c1,c2,c3,c4,c7,a5⟩:=h.cells;have a8:=h.below.size;have HS:=Hd hs;have HT:=Hd ht;have aq:=h.lt;by_cases P:120<=b.T.length
 ·have T:(120:Int)<=(b.T.length:Int):=by omega
  have HE:Hid (Hx b t=.error (7,t.p)):=Hd (by simp[Hx,P]);clear h hs ht P;generalize b.T.length=n at *;go_enter func168,ntmps168
  go_wp2_with (go_at_call 124;refine(Ep _ _ _).mono ?_;rintro e w' ⟨rfl,an⟩;subst an)
  refine⟨rfl,o.below,?_⟩;rw[HE.out];exact BW.of rfl rfl
 ·have T:¬(120:Int)<=(b.T.length:Int):=by omega
  have ai:b.T.length<120:=by omega
  have HE:Hid (Hx b t=.ok {b with T:=b.T++[t.s]}):=Hd (by simp[Hx,P]);clear h hs ht P;go_enter func168,ntmps168
  go_wp2;have a0:=Hd (Ah.new w 173 #[t.k,.string (str t.s),t.p]);have ar:w.heap.size<(w.alloc (.cells #[t.k,.string (str t.s),t.p] 173)).heap.size:=by simp
  have ab:=Hd (((Aj.refl (Dw j tm nm (.slice A b.T.length c) nv) w).alloc (.cells #[t.k,.string (str t.s),t.p] 173)).drew);have af:Hid (∀v',BK ((w.alloc (.cells #[t.k,.string (str t.s),t.p] 173)).drew) (.slice A b.T.length c) v'->BK w (.slice A b.T.length c) v'):=Hd (fun v' h k hk=>(h k hk).imp id (fun h=>AW (by simp) h));clear c0 c1 c2 c3 c4 c7 a5 a8;generalize (w.alloc (.cells #[t.k,.string (str t.s),t.p] 173))=l at *;generalize w.heap.size=xb at *;obtain⟨c0,c1,c2,c3,c4,c7,a5⟩:=o.cells;have x1:=a0.cell 1
  simp at x1;have a8:=o.below.size;have i:=Hd o.drew;have a4:=Hd (((Aj.refl (fun _=>False) l).drew).Ap a0 id);go_region_law (
   refine EG OG (.tmp 19) (.tmp 22) ?_ ?_ (base:=w0.heap.size) (n:=b.T.length) (m:=1) (N:=b.T.length+1) (v:=.slice A b.T.length c) (src:=.slice (l,0) 1 1) (xs:=b.T.map Nv) (news:=[.string (str t.s)]) ?_ ?_ ?_ ?_ ?_ ?_ ?_ ?_ ?_
   ·rfl
   ·rfl
   ·rfl
   ·rfl
   ·exact i.ft.alloc _
   ·exact Oy l.drew _
   ·rfl
   ·unfold maxLen;omega
   ·omega
   ·simp;omega
   intro p R U T q2 q3;have a2:=Hd T;have a3:=Hd (show ((l.drew.alloc (.cells #[.string (str t.s)] 9)).grownBy U (Value.slice A b.T.length c).ownBlock/\_) from q3);have I:Aj (fun k=>(Value.slice A b.T.length c).ownBlock=some k) l.drew U:=((Aj.refl _ l.drew).alloc (.cells #[.string (str t.s)] 9)).next (.CE q3.1);have J:=I.Ap i.Ap (Cz i.ft i.Ap (by decide));have a9:=I.Ap a4 (Cz i.ft a4 (by decide));have z3:=J.cell 3;have zf:=J.frozen 3;simp at z3;have aa:=Hd J;have ag:=Hd a9;have ad:=Hd (DY i.mt I (Ga i.mt i.ft))
   clear T q2 q3 I J a9)
  all_goals go_wp2
  all_goals have aj:xb≠j:=fun e=>Ah.Bf (t:=173) a0 o.Ap (by decide) e
  all_goals have a1:=Hd ((Aj.refl (fun _=>False) _).drew.Ap (aa.Be 3 (.slice p (b.T.length+1) R)) id)
  all_goals have ah:=Hd ((Aj.refl (fun _=>False) _).drew.Ap (ag.BA (p:=⟨j,3,none⟩) (by simpa using aj) (.slice p (b.T.length+1) R)) id)
  all_goals have ae:=Hd (DY ad ((Aj.refl (·=j) U).set (p:=⟨j,3,none⟩) (.inr rfl) (.slice p (b.T.length+1) R)).drew (G0 i.mt i.Ap))
  all_goals obtain⟨w4,ak,a7,a6⟩:=Se ae (by omega) HT (c:=b.T.length+1) (by omega)
  all_goals have C:=Hd (YO i HS ai a2 a3 a7 a6)
  all_goals clear a7 a6 c0 c1 c2 c3 c4 c7 x1 z3 zf a2 a3
  all_goals generalize ao:World.setCell U (j,3) (.slice p (b.T.length+1) R)=w3 at *
  all_goals clear ao
  all_goals have y1:=a1.cell 1
  all_goals have y3:=a1.cell 3
  all_goals have x3:=ah.cell 1
  all_goals simp at y1 y3 x3
  all_goals have al:=ak
  all_goals push_cast at al
  all_goals go_region
  all_goals go_end0
  all_goals refine⟨C.1.below,?_⟩
  all_goals rw[HE.out]
  all_goals exact⟨rfl,_,_,_,_,C.1,ab.next C.2.1,af _ C.2.2,BK.refl _ _⟩
end
section
open Go.RowKit Go.Proofs.Tryz Go.Maps
def DS.later{w':World}{l:List Tk}{x:Bl}{o p C:Value}{t:List Br}(h:DS w B rb mb tb l x o p C rv t D)(I:Below w w w'):DS w' B rb mb tb l x o p C rv t D:=by have j:Aj (fun _=>False) w w':=.AJ I;have i:=h.Bu;exact⟨⟨i.A0.AE j id (fun _ _=>id),j.own i.decl (fun _ _=>id),j.own i.marks (fun _ _=>id),j.own i.starts (fun _ _=>id),i.apart,i.EA,i.GD,AW i.bB j.size,i.ld,i.lm,i.ls⟩,j.own h.rules (fun _ _=>id),fun r J=>(h.Hl r J).AE j (fun _ _ _=>id),DY h.map j id,h.LW,h.Nz,h.mr,h.lr⟩
def IP(w:World):Below w w w.drew:=⟨rfl,rfl,rfl,AF _,fun _ _=>rfl⟩
def Lg{s:Nat}(h:w.ownsRow B e s v n xs)(p:0<n):∃g c,v=.slice (some ⟨g,0,none⟩) n c/\∀j u,xs[j]?=some u->w.cell? ⟨g,j,none⟩=some u:=by
 rcases h.2 with⟨rfl,rfl⟩|⟨g,cap,o,rfl,_⟩
 ·omega
 ·refine⟨g,cap,rfl,fun j u l=>?_⟩
  have:=h.cells rfl j u l;by_cases i:j=0
  ·subst i;simpa [Addr.add] using this
  ·simpa [Addr.add,i] using this
def TB(i:List Br)(y:Bl)(h:i.map Br.r=y.rules)(s:AO):leftOf y s=decide ((i.map fun r=>r.left.s).count s≠0):=by unfold leftOf;rw[<-h,List.any_map,Bool.eq_iff_iff,List.any_eq_true,decide_eq_true_eq,<-Nat.pos_iff_ne_zero,List.count_pos_iff];simp[Br.r]
def QY(w:World)(r:Except Bm Unit)(e:Ending)(w':World):Prop:=
 Below w w w'/\match r with
 | .ok _=>e=.returned (.tuple #[])
 | .error f=>BW f e
def gO{I:Nat}{l:List Tk}{x:Bl}{P U sv:Value}{j:List Br}(h:DS w B rb mb tb l x P U sv rv j D)(hb:w.cell? (I,0)=some (.pointer (rb,0)))(J:j.map Br.r=x.rules){st:Tk}{sr:List Tk}(i:x.starts=st::sr)(R:st.s.length<=8192):() 167 #[(I,0)] w (QY w (Ex (leftOf x) st)):=by
 obtain⟨_,_,c3,_,c5,_⟩:=h.Bu.A0.cells;obtain⟨g,c,rfl,p⟩:=Lg h.Bu.starts (by rw[i];simp);have g1:=p 1 (.string (str st.s)) (by rw[i];rfl);have g2:=p 2 st.p (by rw[i];rfl);have a0:=Oz (DY h.map ((Aj.refl (fun _=>False) w).drew) id) h.LW R;have hn:(0:Int)<(x.starts.length:Int):=by rw[i,List.length_cons];omega
 have C:=Hd (TB j x J st.s);clear p i h J;generalize x.starts.length=n at *;generalize (j.map fun r=>r.left.s).count st.s=t at *;by_cases h0:t=0
 ·have o:Hid (Ex (leftOf x) st=.error (9,st.p)):=Hd (by simp[Ex,C.out,h0])
  have q1:((t:Int)==0)=true:=by simp[h0]
  clear h0;go_enter func167,ntmps167
  go_wp2_with fail
  go_region
  go_wp2_with (go_at_call 124;refine(Ep _ _ _).mono ?_;rintro e w' ⟨rfl,T⟩;subst T)
  refine⟨rfl,IP w,?_⟩;rw[o.out];exact BW.of rfl rfl
 ·have o:Hid (Ex (leftOf x) st=.ok ()):=Hd (by simp[Ex,C.out,h0])
  have q1:((t:Int)==0)=false:=by simp;omega
  clear h0;go_enter func167,ntmps167
  go_wp2_with fail
  go_region
  go_wp2
  go_end0
  refine⟨IP w,?_⟩;rw[o.out]
theorem kN{p:Nat}{l:List Tk}{x:Bl}{C J T:Value}{R:List Br}(h:DS w B rb mb tb l x C J T rv R D)(hb:w.cell? (p,0)=some (.pointer (rb,0))):() 123 #[(p,0)] w fun e w'=>e=.returned (.int .i64 (DI x.marks))/\w'=w:=by
 obtain⟨_,c2,_,_,_,_⟩:=h.Bu.A0.cells;by_cases i:x.marks.length<2
 ·obtain⟨A,c,rfl⟩:=BF h.Bu.marks
  have j:Hid (DI x.marks=8193):=Hd (by
   match I:x.marks,i with
   | [],_=>rfl
   | [a],_=>rfl
   | a::b::r,i=>simp at i;omega)
  have P:(x.marks.length:Int)<2:=by omega
  clear h i;generalize x.marks.length=n at *;go_enter func123,ntmps123
  go_wp2;go_ret;exact⟨by rw[j.out];rfl,rfl⟩
 ·obtain⟨g,c,rfl,t⟩:=Lg h.Bu.marks (by omega)
  obtain⟨a,m,r,o⟩:∃a m r,x.marks=a::m::r:=by
   match I:x.marks,i with
   | [],i=>simp at i
   | [a],i=>simp at i
   | a::b::r,_=>exact⟨a,b,r,rfl⟩
  have U:=t 1 (.int .i64 m) (by rw[o];rfl);have j:Hid (DI x.marks=m):=Hd (by rw[o];rfl);have P:¬(x.marks.length:Int)<2:=by omega
  have q2:(1:Int)<(x.marks.length:Int):=by omega
  clear h i t o;generalize x.marks.length=n at *;go_enter func123,ntmps123
  go_wp2;go_ret;exact⟨by rw[j.out];rfl,rfl⟩
end
section
open Go.RowKit Go.Proofs.Tryz Go.Maps
def Vy{R tm nm:Nat}(h:BQ w0 w R tm nm rb tv nv gv b gs DT DN){l:List Tk}{x:Bl}{dv kv sv:Value}{rs:List Br}(hr:DS w0 B rb mb tb l x dv kv sv rv rs D)(a4:rs.map Br.r=x.rules)(t:Tk)(C:t.s.length<=8192)(k:Nat)(K:Int)(hK:K=(k:Int)) :
  () 126 #[(R,0),.agg #[t.k,.string (str t.s),t.p],K] w (NO w0 w R tm nm rb tv nv gv gs (D5 (leftOf x) b t k)):=by
 have o:=Hd (h.alloc (.cells #[t.k,.string (str t.s),t.p] 173));have a1:=Hd (((Aj.refl (Dw R tm nm tv nv) w).alloc (.cells #[t.k,.string (str t.s),t.p] 173)).drew);have a6:Hid (∀v v',BK ((w.alloc (.cells #[t.k,.string (str t.s),t.p] 173)).drew) v v'->BK w v v'):=Hd (fun v v' h k hk=>(h k hk).imp id (fun h=>AW (by simp) h));have a3:=Hd (Ah.new w 173 #[t.k,.string (str t.s),t.p]);have HT:=Hd C;have HL:=Hd (TB rs x a4 t.s);by_cases T:8<=k
 ·have q1:(8:Int)<=K:=by omega
  have p:Hid (D5 (leftOf x) b t k=.error (7,t.p)):=Hd (by simp[D5,T]);clear h hr a4 C hK T;go_enter func126,ntmps126
  go_wp2_with (go_at_call 124;refine(Ep _ _ _).mono ?_;rintro e w' ⟨rfl,a5⟩;subst a5)
  refine⟨rfl,o.below,?_⟩;rw[p.out];exact BW.of rfl rfl
 ·have q1:¬(8:Int)<=K:=by omega
  have P:Hid (D5 (leftOf x) b t k=if b.T.contains t.s then .ok b else if t.k=2 then Hx b t else if leftOf x t.s then .ok b else .error (9,t.p)):=Hd (by simp[D5,T,Hx]);clear T hK h;have a2:=Hd (hr.later o.below);clear hr a4;generalize ah:(w.alloc (.cells #[t.k,.string (str t.s),t.p] 173))=w1 at *;have a8:=Ky o.drew.mt o.pt C;obtain⟨c0,c1,c2,c3,c4,c7,af⟩:=o.cells;have x0:=a3.cell 0;have x1:=a3.cell 1;have x2:=a3.cell 2;simp at x0 x1 x2;by_cases j:t.s∈b.T
  ·have p:Hid (D5 (leftOf x) b t k=.ok b):=Hd (by rw[P.out,if_pos (by simpa using j)])
   rw[if_pos j]at a8;generalize hn:b.T.idxOf t.s+1=n1 at *;have q2:(0:Int)<(n1:Int):=by omega
   clear j hn C;go_enter func126,ntmps126
   go_wp2
   go_region
   go_wp2
   go_end0
   refine⟨o.drew.below,?_⟩;rw[p.out];exact⟨rfl,_,_,_,_,o.drew,a1,BK.refl _ _,BK.refl _ _⟩
  ·rw[if_neg j,show ((0:Nat):Int)=0 from rfl]at a8
   have HC:=Hd j;by_cases I:t.k=2
   ·have p:Hid (D5 (leftOf x) b t k=Hx b t):=Hd (by rw[P.out,if_neg (by simpa using j),if_pos I])
    have a7:=Hd (MU o.drew t HT j);have q2:((t.k:Int)==2)=true:=by simp[I]
    clear j C I;cases a0:Hx b t with
    | error f=>
     have J:=Hd a0;clear a0;go_enter func126,ntmps126
     go_wp2
     go_region
     go_wp2_with (go_at_call 168;refine a7.mono ?_;intro e w2 i;obtain⟨U,i⟩:=i;rw[J.out]at i;have i:e=_:=i;subst i)
     refine⟨rfl,U,?_⟩;rw[p.out,J.out];exact BW.of rfl rfl
    | ok b2=>
     have J:=Hd a0;clear a0;go_enter func126,ntmps126
     go_wp2
     go_region
     go_wp2_with (go_at_call 168;refine a7.mono ?_;intro e w2 i;obtain⟨U,i⟩:=i;rw[J.out]at i;obtain⟨rfl,i⟩:=i;have ab:=Hd U;have HX:=Hd i;clear U i)
     go_end0
     refine⟨ab,?_⟩;rw[p.out,J.out];obtain⟨ae,ad,aa,a9,z1,z2,z3,z4⟩:=HX.out;exact⟨rfl,ae,ad,aa,a9,z1,a1.next z2,a6 _ _ z3,a6 _ _ z4⟩
   ·have q2:((t.k:Int)==2)=false:=by simp;omega
    have ag:=Oz (DY a2.map ((Aj.refl (fun _=>False) w1).drew.drew) id) a2.LW C;obtain⟨_,_,_,_,c5,_⟩:=a2.Bu.A0.cells;generalize (rs.map fun r=>r.left.s).count t.s=n0 at *;by_cases h0:n0=0
    ·have p:Hid (D5 (leftOf x) b t k=.error (9,t.p)):=Hd (by rw[P.out,if_neg (by simpa using j),if_neg I,HL.out];simp[h0])
     have q3:((n0:Int)==0)=true:=by simp[h0]
     clear j C I h0;go_enter func126,ntmps126
     go_wp2
     go_region
     go_wp2
     go_region
     go_wp2_with (go_at_call 124;refine(Ep _ _ _).mono ?_;rintro e w' ⟨rfl,a5⟩;subst a5)
     refine⟨rfl,o.drew.drew.below,?_⟩;rw[p.out];exact BW.of rfl rfl
    ·have p:Hid (D5 (leftOf x) b t k=.ok b):=Hd (by rw[P.out,if_neg (by simpa using j),if_neg I,HL.out];simp[h0])
     have q3:((n0:Int)==0)=false:=by simp;omega
     clear j C I h0;go_enter func126,ntmps126
     go_wp2
     go_region
     go_wp2
     go_region
     go_wp2
     go_end0
     refine⟨o.drew.drew.below,?_⟩;rw[p.out];exact⟨rfl,_,_,_,_,o.drew.drew,a1.drew,BK.refl _ _,BK.refl _ _⟩
end
section
open Go.RowKit Go.Proofs.Tryz Go.Maps
def lC{w2 P:World}{o:Obj}{j J t:Nat}{s:AO}{l:Option Addr}
  (h:BQ w0 w j J t rb tv nv gv b gs DT DN) (hs:s ∉ b.N) (a7:b.N.length<120)
  (ho:w2.ownsRow w0 9 1 (.slice l (b.N.length+1) c2) (b.N.length+1) (b.N.map Nv++[Nv s]))
  (hg:(w.alloc o).grownBy w2 nv.ownBlock/\((Value.slice l (b.N.length+1) c2).ownBlock=nv.ownBlock\/(Value.slice l (b.N.length+1) c2).ownBlock=some (w.alloc o).heap.size))
  (hm:P.ownsMap Tryz.prog 9 (plainElem Tryz.prog 3) t (b.N.length+1) (DN.put (Cf s) (.lit (.int .i64 (b.N.length+1:Nat)))))
  (a5:(w2.setCell (j,4) (.slice l (b.N.length+1) c2)).drew.grownBy P (some t)) :
  BQ w0 P j J t rb tv (.slice l (b.N.length+1) c2) gv {b with N:=b.N++[s]} gs DT (DN.put (Cf s) (.lit (.int .i64 (b.N.length+1:Nat))))/\Aj (Dw j J t tv nv) w P/\BK w nv (.slice l (b.N.length+1) c2):=by
 have hX:Aj (fun k=>nv.ownBlock=some k) w w2:=((Aj.refl _ w).alloc o).next (.CE hg.1);have a4:Aj (fun k=>nv.ownBlock=some k\/k=j) w (w2.setCell (j,4) (.slice l (b.N.length+1) c2)).drew:=((hX.mono (fun a3 T=>.inl T)).set (p:=⟨j,4,none⟩) (.inr (.inr rfl)) _).drew;have h4:=Aj.of_map a5;have hY:Aj (fun k=>(nv.ownBlock=some k\/k=j)\/k=t) w P:=(a4.mono (fun a3 T=>.inl T)).next (h4.mono (fun a3 T=>.inr T));have a6:=h.Ap.lt;have a8:=Rj h.mn;have e1:¬nv.ownBlock=some j:=Cz h.fn h.Ap (by decide);have e2:¬nv.ownBlock=some t:=Ga h.mn h.fn;have e3:t≠j:=G0 h.mn h.Ap
 have e4:J≠j:=G0 h.mt h.Ap;have e5:¬nv.ownBlock=some J:=Ga h.mt h.fn;have a2:∀k,(Value.slice l (b.N.length+1) c2).ownBlock=some k->k≠j/\k≠t:=by
  intro k i;rcases hg.2 with e|e
  ·rw[e]at i
   exact⟨by rintro rfl;exact e1 i,by rintro rfl;exact e2 i⟩
  ·rw[e]at i
   cases i
   exact⟨by simp;omega,by simp;omega⟩
 have a0:∀{e:TypeId} {I n:Nat} {v:Value} {R:List Value},w.ownsRow w0 e I v n R->e≠146->(∀k,nv.ownBlock=some k->¬v.ownBlock=some k)->P.ownsRow w0 e I v n R:=by
  intro e I n v R hr he hd;refine hY.own hr ?_;rintro k i ((p|rfl)|rfl)
  ·exact hd k p i
  ·exact Cz hr h.Ap he i
  ·exact Ga h.mn hr i
 have a1:∀{v:Value} {B n I:Nat} {e:TypeId} {R:List Value},w.ownsRow B e I v n R->(∀k,nv.ownBlock=some k->¬v.ownBlock=some k)->∀k,(Value.slice l (b.N.length+1) c2).ownBlock=some k->¬v.ownBlock=some k:=by
  intro v B n I e R hr hd k i hv;rcases hg.2 with e|e
  ·rw[e]at i;exact hd k i hv
  ·rw[e]at i
   cases i
   have:=(B4 hr _ hv).2;simp at this;omega
 refine⟨?_,hY.mono ?_,?_⟩
 rotate_left
 ·rintro k ((p|rfl)|rfl)
  ·exact .inr (.inr (.inr (.inr p)))
  ·exact .inl rfl
  ·exact .inr (.inr (.inl rfl))
 ·intro k i
  rcases hg.2 with e|e
  ·exact .inl (e▸i)
  ·rw[e]at i
   cases i
   exact .inr (by simp)
 refine⟨?_,?_,a0 h.ft (by decide) (fun k i C=>h.tn k C i),?_,a0 h.fg (by decide) (fun k i C=>Gf h.fn h.fg (by decide) k i C),h.names,fun q U=>a0 (h.rows q U) (by decide) (h.nr q U),fun k i C=>a1 h.ft (fun k i C=>h.tn k C i) k C i,h.tr,fun q U=>a1 (h.rows q U) (h.nr q U),?_,by simpa using hm,h.pt,?_,h.b0,h.b1,h.lt,by simp;omega,h.lr⟩
 ·refine h.below.trans (hY.below h.below.size ?_)
  rintro k i ((p|rfl)|rfl)
  ·have:=(B4 h.fn k p).1;omega
  ·have:=h.b0.1;omega
  ·have:=h.b0.2.2;omega
 ·refine h4.Ap (cs:=#[(rb,0),.map (some J),.map (some t),tv,.slice l (b.N.length+1) c2,.slice none 0 0,.int .i64 0,gv]) ?_ (fun e=>e3 e.symm)
  have:=(hX.Ap h.Ap e1).Be 4 (.slice l (b.N.length+1) c2);exact(Aj.refl (fun _=>False) _).drew.Ap (by simpa using this) id
 ·rw[By,show (b.N++[s]).length=b.N.length+1 by simp]
  exact h4.own ((Aj.refl (fun _=>False) _).drew.own (EC (by simpa using ho) (fun e=>(a2 _ e).1 rfl) _) (fun _ _=>id)) (fun k i e=>(a2 k i).2 e)
 ·refine DY h.mt hY ?_
  rintro((p|p)|p)
  ·exact e5 p
  ·exact e4 p
  ·exact h.b1 p
 ·exact h.pn.next (h.mn.tidy IE) hs
theorem Rk(s:AO):∀(L:List AO) (D:Nat),s∈L.take D<->s∈L/\L.idxOf s<D:=by
 intro L;induction L with
 | nil=>intro D;simp
 | cons a L l=>
  intro D;cases D with
  | zero=>simp
  | succ D=>
   rw[List.take_succ_cons,List.mem_cons,List.mem_cons,l D,List.idxOf_cons];by_cases e:a=s
   ·subst e;simp
   ·have i:(a==s)=false:=by simpa using e
    have j:¬s=a:=fun h=>e h.symm
    simp[i,j]
end
section
open Go.RowKit Go.Proofs.Tryz Go.Maps
def aW{l tm nm:Nat}(h:BQ w0 w l tm nm rb tv nv gv b gs DT DN)(t:Tk)(P:t.s.length<=8192)(d:Nat)(K:Int)(hK:K=(d:Int)) :
  () 90 #[(l,0),.agg #[t.k,.string (str t.s),t.p],K] w (NO w0 w l tm nm rb tv nv gv gs (EO d b t)):=by
 obtain⟨A,c,rfl⟩:=BF h.fn;have j:=Hd (h.alloc (.cells #[t.k,.string (str t.s),t.p] 173));have a9:=Hd ((((Aj.refl (Dw l tm nm tv (.slice A b.N.length c)) w).alloc (.cells #[t.k,.string (str t.s),t.p] 173)).drew).drew);have an:Hid (∀v',BK ((w.alloc (.cells #[t.k,.string (str t.s),t.p] 173)).drew.drew.drew) (.slice A b.N.length c) v'->BK w (.slice A b.N.length c) v'):=Hd (fun v' h k hk=>(h k hk).imp id (fun h=>AW (by simp) h));have a2:=Hd (Ah.new w 173 #[t.k,.string (str t.s),t.p])
 have b2:w.heap.size<(w.alloc (.cells #[t.k,.string (str t.s),t.p] 173)).heap.size:=by simp
 have HT:=Hd P;have az:=h.ln;clear h;generalize b1:(w.alloc (.cells #[t.k,.string (str t.s),t.p] 173))=w1 at *;have a0:=Ky j.drew.mt j.pt P;obtain⟨c0,c1,c2,c3,c4,c7,ae⟩:=j.cells;have x0:=a2.cell 0;have x1:=a2.cell 1;have x2:=a2.cell 2;simp at x0 x1 x2;by_cases C:t.s∈b.T.take d
 ·have J:Hid (EO d b t=.error (8,t.p)):=Hd (by simp only[EO];rw[if_pos (by simpa using C)])
  obtain⟨af,ar⟩:=(Rk _ _ _).1 C;rw[if_pos af]at a0;have p:(0:Int)<((b.T.idxOf t.s+1:Nat):Int):=by omega
  have q2:((b.T.idxOf t.s+1:Nat):Int)<=K:=by omega
  generalize b.T.idxOf t.s+1=T at *;clear C af ar P hK;go_enter func90,ntmps90
  go_wp2
  go_region
  go_wp2_with (go_at_call 124;refine(Ep _ _ _).mono ?_;rintro e w' ⟨rfl,a7⟩;subst a7)
  refine⟨rfl,j.drew.below,?_⟩;rw[J.out];exact BW.of rfl rfl
 ·have R:∃T:Nat,(Instr.lookup 139 (.map (some tm)) (.string (str t.s)) false).run Tryz.prog w1.drew=.ok (.int .i64 (T:Int)) w1.drew/\(decide ((0:Int)<(T:Int))=false\/decide ((0:Int)<(T:Int))=true/\decide ((T:Int)<=K)=false):=by
   refine⟨_,a0,?_⟩;by_cases I:t.s∈b.T
   ·rw[if_pos I]
    have:¬b.T.idxOf t.s<d:=fun e=>C ((Rk _ _ _).2 ⟨I,e⟩)
    exact .inr ⟨by rw[decide_eq_true_eq];omega,by rw[decide_eq_false_iff_not];omega⟩
   ·rw[if_neg I]
    exact .inl rfl
  clear a0;obtain⟨T,a0,R⟩:=R;simp only[decide_eq_false_iff_not,decide_eq_true_eq]at R;have a5:Hid (EO d b t=if b.N.contains t.s then .ok b else if 120<=b.N.length then .error (7,t.p) else .ok {b with N:=b.N++[t.s]}):=Hd (by simp only[EO];rw[if_neg (by simpa using C)]);have a6:=Ky j.drew.drew.mn j.pn P;by_cases o:t.s∈b.N
  ·have J:Hid (EO d b t=.ok b):=Hd (by rw[a5.out,if_pos (by simpa using o)])
   rw[if_pos o]at a6;have U:(0:Int)<((b.N.idxOf t.s+1:Nat):Int):=by omega
   generalize b.N.idxOf t.s+1=n2 at *;clear C o P hK;rcases R with p|⟨p,q2⟩
   all_goals
    go_enter func90,ntmps90
    go_wp2
    go_region
    go_wp2
    go_region
    go_wp2
   all_goals refine bodyPost_ret (results_none rfl _ _ _) rfl ⟨j.drew.drew.below,?_⟩
   all_goals rw[J.out]
   all_goals exact⟨rfl,_,_,_,_,j.drew.drew,a9,BK.refl _ _,BK.refl _ _⟩
  ·rw[if_neg o,show ((0:Nat):Int)=0 from rfl]at a6
   have HC:=Hd o;by_cases I:120<=b.N.length
   ·have J:Hid (EO d b t=.error (7,t.p)):=Hd (by rw[a5.out,if_neg (by simpa using o),if_pos I])
    have U:(120:Int)<=(b.N.length:Int):=by omega
    clear C o P hK I;generalize b.N.length=n at *;rcases R with p|⟨p,q2⟩
    all_goals
     go_enter func90,ntmps90
     go_wp2
     go_region
     go_wp2
     go_region
     go_wp2_with (go_at_call 124;refine(Ep _ _ _).mono ?_;rintro e w' ⟨rfl,a7⟩;subst a7)
    all_goals refine⟨rfl,j.drew.drew.below,?_⟩
    all_goals rw[J.out]
    all_goals exact BW.of rfl rfl
   ·have J:Hid (EO d b t=.ok {b with N:=b.N++[t.s]}):=Hd (by rw[a5.out,if_neg (by simpa using o),if_neg I])
    have U:¬(120:Int)<=(b.N.length:Int):=by omega
    have au:b.N.length<120:=by omega
    clear C o P hK I;rcases R with p|⟨p,q2⟩
    all_goals
     go_enter func90,ntmps90
     go_wp2
     go_region
     go_wp2
     go_region
     go_wp2
    all_goals have a1:=Hd j.drew.drew
    all_goals have a3:=Hd (((Aj.refl (fun _=>False) w1).drew.drew).Ap a2 id)
    all_goals clear a0 a6 c0 c1 c2 c3 c4 c7 ae x0 x1 x2
    all_goals generalize w1.drew.drew=wy at *
    all_goals obtain⟨c0,c1,c2,c3,c4,c7,ae⟩:=a1.cells
    all_goals have x1:=a3.cell 1
    all_goals simp at x1
    all_goals have b0:=a1.below.size
    all_goals have b3:=a3.lt
    all_goals have i:=Hd a1.drew
    all_goals have ad:=Hd (((Aj.refl (fun _=>False) wy).drew).Ap a3 id)
    all_goals generalize w.heap.size=xb at *
    all_goals go_region_law (
     refine EG OG (.tmp 47) (.tmp 50) ?_ ?_ (base:=w0.heap.size) (n:=b.N.length) (m:=1) (N:=b.N.length+1) (v:=.slice A b.N.length c) (src:=.slice (wy,0) 1 1) (xs:=b.N.map Nv) (news:=[.string (str t.s)]) ?_ ?_ ?_ ?_ ?_ ?_ ?_ ?_ ?_
     ·rfl
     ·rfl
     ·rfl
     ·rfl
     ·exact i.fn.alloc _
     ·exact Oy wy.drew _
     ·rfl
     ·unfold maxLen;omega
     ·omega
     ·simp;omega
     intro A2 k2 w2 p q2 U;have aa:=Hd p;have ab:=Hd (show ((wy.drew.alloc (.cells #[.string (str t.s)] 9)).grownBy w2 (Value.slice A b.N.length c).ownBlock/\_) from U);have hX:Aj (fun k=>(Value.slice A b.N.length c).ownBlock=some k) wy.drew w2:=((Aj.refl _ wy.drew).alloc (.cells #[.string (str t.s)] 9)).next (.CE U.1);have a4:=hX.Ap i.Ap (Cz i.fn i.Ap (by decide));have ai:=hX.Ap ad (Cz i.fn ad (by decide));have z3:=a4.cell 4;have zf:=a4.frozen 4;simp at z3;have aj:=Hd a4;have ao:=Hd ai;have ak:=Hd (DY i.mn hX (Ga i.mn i.fn))
     clear p q2 U hX a4 ai)
    all_goals go_wp2
    all_goals have av:xb≠l:=fun e=>Ah.Bf (t:=173) a3 a1.Ap (by decide) e
    all_goals have a8:=Hd ((Aj.refl (fun _=>False) _).drew.Ap (aj.Be 4 (.slice A2 (b.N.length+1) k2)) id)
    all_goals have aq:=Hd ((Aj.refl (fun _=>False) _).drew.Ap (ao.BA (p:=⟨l,4,none⟩) (by simpa using av) (.slice A2 (b.N.length+1) k2)) id)
    all_goals have al:=Hd (DY ak ((Aj.refl (·=l) w2).set (p:=⟨l,4,none⟩) (.inr rfl) (.slice A2 (b.N.length+1) k2)).drew (G0 i.mn i.Ap))
    all_goals obtain⟨w4,aw,ah,ag⟩:=Se al (by omega) HT (c:=b.N.length+1) (by omega)
    all_goals have HF:=Hd (lC i HC au aa ab ah ag)
    all_goals clear ah ag c0 c1 c2 c3 c4 c7 x1 z3 zf aa ab
    all_goals generalize ay:World.setCell w2 (l,4) (.slice A2 (b.N.length+1) k2)=w3 at *
    all_goals clear ay
    all_goals have y2:=a8.cell 2
    all_goals have y4:=a8.cell 4
    all_goals have x3:=aq.cell 1
    all_goals simp at y2 y4 x3
    all_goals have ax:=aw
    all_goals push_cast at ax
    all_goals go_region
    all_goals go_end0
    all_goals refine⟨HF.1.below,?_⟩
    all_goals rw[J.out]
    all_goals exact⟨rfl,_,_,_,_,HF.1,a9.drew.next HF.2.1,BK.refl _ _,an _ HF.2.2⟩
end
section
open Go.RowKit Go.Proofs.Tryz Go.Maps
def Kw(a b:List AO)(k:Nat):Prop:=∀j x y,j<k->a[j]?=some x->b[j]?=some y->x=y
def Kw.next{a b:List AO}{k:Nat}{x y:AO}(h:Kw a b k)(p:a[k]?=some x)(t:b[k]?=some y)(o:x=y):Kw a b (k+1):=by
 intro j C I J i l;by_cases e:j=k
 ·subst e
  rw[p]at i;rw[t]at l;cases i;cases l;exact o
 ·exact h j C I (by omega) i l
def Kw.all{a b:List AO}(l:a.length=b.length)(h:Kw a b a.length):(a==b)=true:=by
 rw[beq_iff_eq];apply List.ext_getElem?;intro j;by_cases i:j<a.length
 ·rw[eG i,eG (by omega)]
  rw[h j _ _ i (eG i) (eG (by omega))]
 ·rw[nG (by omega),nG (by omega)]
def YN{a b:List AO}{x y:AO}(l:a[k]?=some x)(i:b[k]?=some y)(j:¬x=y):(a==b)=false:=by
 rw[bN];rintro rfl;rw[l]at i;cases i
 exact j rfl
def str_inj{a b:List UInt8}(h:str a=str b):a=b:=by have:=congrArg (fun x:ByteArray=>x.data.toList) h;simpa [str] using this
def TH{a b:ByteArray}(h:a.toList=b.toList):a=b:=by rw[ByteArray.toList_eq,ByteArray.toList_eq]at h;exact ByteArray.ext (Array.ext' h)
def aZ{B1 B2:Nat}{u:Value}{a b:List AO}(ha:w.ownsRow B1 9 1 u a.length (a.map Nv))(t:w.ownsRow B2 9 1 v b.length (b.map Nv)):() 129 #[u,v] w fun e w'=>e=.returned (.bool (a==b))/\∃q,w'=w.drewN q:=by
 obtain⟨A,c,hu⟩:=BF ha;obtain⟨A2,c2,hv⟩:=BF t;have a2:=Hd (fun(h:0<a.length)=>Lg ha h);have P:=Hd (fun(h:0<b.length)=>Lg t h);have a5:a.length<=9223372036854775807:=by
  rcases Bi ha with⟨_,h0⟩|⟨_,c3,_,_,_,h1,h2,_⟩
  ·omega
  ·unfold maxLen at h2;omega
 subst hu;subst hv;clear ha t;by_cases l:a.length=b.length
 ·rw[<-l]
  have J:=Hd l;rw[<-l]at P;clear l;go_enter func129,ntmps129
  go_wp2;go_loopw [5,13] (fun _ i wr=>∃k:Nat,k<=a.length/\i=.int .i64 k/\Hid (Kw a b k)/\Hid (∃q,wr=w.drewN q)) (fun _ i _=>a.length-(intOf i).toNat)
  case atStart=>exact⟨0,AX _,rfl,Hd (fun a6 x y hj=>absurd hj (Nat.not_lt_zero _)),Hd ⟨0,rfl⟩⟩
  case round=>
   obtain⟨k,hk,rfl,R,p⟩:=hrel;by_cases a4:k<a.length
   ·have C:=eG a4
    have I:=eG (show k<b.length by have:=J.out;omega);generalize a[k]=x at C;generalize b[k]'(by have:=J.out;omega)=y at I;obtain⟨g1,d1,e1,a0⟩:=a2 (by omega);obtain⟨g2,d2,e2,a1⟩:=P (by omega);cases e1
    cases e2
    have T:=Hd C;have U:=Hd I;have e1:wr.cell? (g1,k)=some (.string (str x)):=by obtain⟨q,rfl⟩:=p.out;exact a0 k _ (by rw[pG,C];rfl)
    have e2:wr.cell? (g2,k)=some (.string (str y)):=by obtain⟨q,rfl⟩:=p.out;exact a1 k _ (by rw[pG,I];rfl)
    clear C I a0 a1;by_cases o:x=y
    ·have j:=Hd (R.next T U o)
     have t:((str x).toList==(str y).toList)=true:=by subst o;exact beq_self_eq_true _
     generalize str x=sx at *;generalize str y=sy at *;clear o;go_wp2;go_quiet (fail)
     have a3:Hid (∃q,wr.drewN nq=w.drewN q):=Hd (by obtain⟨q,hq⟩:=p.out;exact⟨q+nq,by rw[hq,World.drewN_drewN]⟩)
     go_wp2;go_roundw
     case rel=>exact⟨k+1,by omega,by go_num,j,a3⟩
     case measure=>simp[intOf];omega
    ·have j:=Hd (YN T U o)
     have t:((str x).toList==(str y).toList)=false:=bN.2 (fun h=>o (str_inj (TH h)));generalize str x=sx at *;generalize str y=sy at *;clear o;go_wp2;go_quiet (fail)
     go_wp2;go_ret;obtain⟨q,rfl⟩:=p.out;exact⟨CI j.symm,_,World.drewN_drewN _ _ _⟩
   ·obtain rfl:k=a.length:=by omega
    have j:=Hd (R.all J);go_wp2;go_ret;exact⟨CI j.symm,p⟩
 ·have q1:((a.length:Int) != (b.length:Int))=true:=bne_iff_ne.2 (by omega)
  have j:Hid ((a==b)=false):=Hd (by rw[bN];rintro rfl;exact l rfl);clear l;generalize a.length=n1 at *;generalize b.length=n2 at *;go_enter func129,ntmps129
  go_wp2;go_ret;exact⟨CI j.symm,0,rfl⟩
end
section
open Go.RowKit Go.Proofs.Tryz Go.Maps
theorem idxOf_hit{s x:AO}(i:L[k]?=some x)(I:s=x)(C:∀j y,j<k->L[j]?=some y->s≠y):s∈L/\L.idxOf s=k:=by
 subst I;have o:=mG i;refine⟨o,?_⟩;obtain⟨R,e⟩:=sG.1 i;have l:=List.idxOf_lt_length_of_mem o;have p:=List.getElem_idxOf l;have P:¬L.idxOf s<k:=fun h=>C _ _ h (eG l) p.symm
 have t:∀(L:List AO) (k:Nat),L[k]?=some s->L.idxOf s<=k:=by
  intro L;induction L with
  | nil=>intro k h;simp at h
  | cons a r J=>
   intro k h;rw[List.idxOf_cons];cases k with
   | zero=>simp at h;simp[h]
   | succ k=>
    have:=J k (by simpa using h);cases a==s
    ·simp only[cond_false];omega
    ·simp only[cond_true];omega
 have:=t L k i;omega
def Ks(L:List AO)(s:AO):Int:=if s∈L then(L.idxOf s:Nat) else -1
def S4(H:w.ownsRow B 9 1 v L.length (L.map Nv))(s:AO):() 130 #[v,.string (str s)] w fun e w'=>e=.returned (.int .i64 (Ks L s))/\w'=w:=by
 obtain⟨A,c,rfl⟩:=BF H;have a2:L.length<=9223372036854775807:=by
  rcases Bi H with⟨_,h0⟩|⟨_,c3,_,_,_,R,I,_⟩
  ·omega
  ·unfold maxLen at I;omega
 have T:=Hd (fun(h:0<L.length)=>Lg H h);clear H;go_enter func130,ntmps130
 go_wp2
 go_loop [5,8] (fun _ i=>∃k:Nat,k<=L.length/\i=.int .i64 k/\Hid (∀j y,j<k->L[j]?=some y->s≠y)) (fun _ i=>L.length-(intOf i).toNat)
 case atStart=>exact⟨0,AX _,rfl,Hd (fun j y p=>absurd p (Nat.not_lt_zero _))⟩
 case round=>
  obtain⟨k,hk,rfl,t⟩:=hrel;by_cases a1:k<L.length
  ·have o:=eG a1
   generalize L[k]=x at o;obtain⟨b,c2,e1,J⟩:=T (by omega);cases e1
   have a0:=J k (Nv x) (by rw[pG,o];rfl);unfold Nv at a0;by_cases l:s=x
   ·have C:Hid (Ks L s=(k:Int)):=Hd (by obtain⟨R,I⟩:=idxOf_hit o l t;unfold Ks;rw[if_pos R,I])
    have hb:((str s).toList==(str x).toList)=true:=by subst l;exact beq_self_eq_true _
    generalize str s=ss at *;generalize str x=sx at *;clear o J l;go_wp2;go_ret;rw[C.out];exact⟨rfl,rfl⟩
   ·have U:Hid (∀j y,j<k+1->L[j]?=some y->s≠y):=Hd (fun j y p P=>by
     by_cases e:j=k
     ·subst e;rw[o]at P;cases P;exact l
     ·exact t j y (by omega) P)
    have hb:((str s).toList==(str x).toList)=false:=bN.2 (fun h=>l (str_inj (TH h)));generalize str s=ss at *;generalize str x=sx at *;clear o J l;go_wp2
    go_round
    case rel=>exact⟨k+1,by omega,by go_num,U⟩
    case measure=>simp[intOf];omega
  ·obtain rfl:k=L.length:=by omega
   have C:Hid (Ks L s = -1):=Hd (by unfold Ks;rw[if_neg];intro hm;obtain⟨j,p⟩:=List.mem_iff_getElem?.1 hm;exact t j s (sG.1 p).1 p rfl)
   go_wp2;go_ret;rw[C.out];exact⟨rfl,rfl⟩
def Vb{T N:List AO}{P:Int}(I:w.ownsRow B 9 1 tv T.length (T.map Nv))(C:w.ownsRow B 9 1 nv N.length (N.map Nv))(a1:T.length<=120)(a0:N.length<=120)(s:AO) :
  () 92 #[.agg #[tv,nv,rv,P],.string (str s)] w fun e w'=>e=.returned (.int .i64 (B5 T N s))/\Below w w w':=by
 obtain⟨A,c,rfl⟩:=BF I;obtain⟨R,c2,rfl⟩:=BF C;have J:Aj (fun _=>False) w (w.alloc (.cells #[.slice A T.length c,.slice R N.length c2,rv,P] 58)):=(Aj.refl _ w).alloc _;have j:=Hd (S4 (J.own I (fun _ _=>id)) s);have o:=Hd (S4 (J.own C (fun _ _=>id)) s);have U:=AG w (.cells #[.slice A T.length c,.slice R N.length c2,rv,P] 58);have t:=Hd U;have hT:T.idxOf s<=T.length:=List.idxOf_le_length;have hN:N.idxOf s<=N.length:=List.idxOf_le_length;unfold Ks at j o;clear I C J U;by_cases i:s∈T
 ·have p:Hid (B5 T N s=T.idxOf s+1):=Hd (by unfold B5;rw[if_pos (by simpa using i)])
  rw[if_pos i]at j;clear i;generalize T.idxOf s=n1 at *;generalize N.length=nN at *;generalize T.length=nT at *;go_enter func92,ntmps92
  go_wp2_with (go_at_call 130;refine j.mono ?_;rintro e w' ⟨rfl,rfl⟩)
  go_ret;rw[p.out];exact⟨by first|rfl|(push_cast;rfl),t⟩
 ·rw[if_neg i]at j
  by_cases l:s∈N
  ·have p:Hid (B5 T N s=T.length+N.idxOf s+1):=Hd (by unfold B5;rw[if_neg (by simpa using i),if_pos (by simpa using l)])
   rw[if_pos l]at o;clear i l;generalize N.idxOf s=n1 at *;generalize N.length=nN at *;generalize T.length=nT at *;go_enter func92,ntmps92
   go_wp2_with (first
    | (go_at_call 130;(with_reducible refine j.out.mono ?_);rintro e w' ⟨rfl,rfl⟩)
    | (go_at_call 130;(with_reducible refine o.out.mono ?_);rintro e w' ⟨rfl,rfl⟩))
   go_ret;rw[p.out];exact⟨by first|rfl|(push_cast;rfl),t⟩
  ·have p:Hid (B5 T N s=0):=Hd (by unfold B5;rw[if_neg (by simpa using i),if_neg (by simpa using l)])
   rw[if_neg l]at o;clear i l;generalize N.length=nN at *;generalize T.length=nT at *;go_enter func92,ntmps92
   go_wp2_with (first
    | (go_at_call 130;(with_reducible refine j.out.mono ?_);rintro e w' ⟨rfl,rfl⟩)
    | (go_at_call 130;(with_reducible refine o.out.mono ?_);rintro e w' ⟨rfl,rfl⟩))
   go_ret;rw[p.out];exact⟨rfl,t⟩
end
def TQ(t:Tk):Prop:=t.s.length<=8192/\t.p<=8192
def SQ(s:PS):Prop:=(∀t∈s.l,TQ t)/\s.l.length<=100000
def RQ(r:PR):Prop:=TQ r.left/\∀s∈r.GX,SQ s
structure Ql(l:List Tk):Prop where
 ended:Im l
 all:∀t∈l,TQ t
 len:l.length<=100000
variable{l:List Tk}
structure Bl.q(x:Bl):Prop where
 decl:∀t∈x.decl,TQ t
 marks:∀m∈x.marks,m<=8192
 starts:∀t∈x.starts,TQ t
 same:x.marks.length=x.starts.length
variable{x:Bl}
def Ql.tail{t:Tk}(h:Ql (t::r))(i:t.k≠0):Ql r:=
 ⟨(h.ended.tail i).1,fun u j=>h.all u (by simp[j]),by have:=h.len;simp at this;omega⟩
theorem Ql.ID:∀{l:List Tk},Ql l->Ql (l.dropWhile Bg)
 | [],h=>h.ended.elim
 | t::r,h=>by
  rw[List.dropWhile_cons];split
  ·rename_i i;exact Ql.ID (h.tail (Oj i))
  ·exact h
def Ql.bad(h:Ql l):(DH l).1≠0:=by obtain⟨t,r,rfl⟩:=h.ended.cons;unfold DH;simp only;split<;>simp
def Ql.take(h:Ql l):(∀t∈l.takeWhile Bg,TQ t)/\(l.takeWhile Bg).length<=100000:=
 ⟨fun t i=>h.all t ((List.takeWhile_sublist Bg).mem i),AW (List.takeWhile_sublist Bg).length_le h.len⟩
theorem JO(h:Cu k l=true):∃t r,l=t::r/\t.k=k:=by
 cases l with
 | nil=>cases h
 | cons t r=>exact⟨t,r,rfl,by simpa [Cu] using h⟩
theorem lz(o:x.q)(j:Ql l):match Db x l with | .error f=>f.1≠0 | .ok (x',T)=>x'.q/\Ql T/\T.length<l.length:=by
 cases i:Db x l with
 | error f=>
  simp only;unfold Db at i;obtain⟨t,r,rfl⟩:=j.ended.cons;simp only at i;split at i
  ·rename_i P
   split at i
   ·injection i with i;rw[<-i];exact(j.tail (by omega)).bad
   ·cases i
  split at i
  ·rename_i U
   split at i
   ·cases i
   ·injection i with i;rw[<-i];exact(j.tail (by omega)).bad
  ·injection i with i;rw[<-i];exact j.bad
 | ok q=>
  obtain⟨x',T⟩:=q;simp only;refine⟨?_,?_,(M8 i).1⟩;all_goals
   unfold Db at i;obtain⟨t,r,rfl⟩:=j.ended.cons;simp only at i;split at i
  ·rename_i P
   split at i
   ·cases i
   ·injection i with i
    obtain⟨rfl,rfl⟩:=Prod.mk.inj i;have I:=j.tail (by omega);refine⟨fun u J=>?_,o.marks,o.starts,o.same⟩;rcases mA.1 J with J|J
    ·exact o.decl u J
    ·exact I.take.1 u J
  ·rename_i P
   split at i
   ·rename_i U
    split at i
    ·rename_i R
     injection i with i;obtain⟨rfl,rfl⟩:=Prod.mk.inj i;have I:=j.tail (by omega);obtain⟨u,r2,rfl,a0⟩:=JO R;refine⟨o.decl,fun m C=>?_,fun v p=>?_,by simp[o.same]⟩
     ·rcases mA.1 C with C|C
      ·exact o.marks m C
      ·rw[mS.1 C];exact(j.all t (by simp)).2
     ·rcases mA.1 p with p|p
      ·exact o.starts v p
      ·simp at p;rw[p];exact I.all u (by simp)
    ·cases i
   ·cases i
  ·rename_i P
   split at i
   ·cases i
   ·injection i with i
    obtain⟨rfl,rfl⟩:=Prod.mk.inj i;exact(j.tail (by omega)).ID
  ·rename_i P
   split at i
   ·rename_i U
    split at i
    ·rename_i R
     injection i with i;obtain⟨rfl,rfl⟩:=Prod.mk.inj i;have I:=j.tail (by omega);obtain⟨u,r2,rfl,a0⟩:=JO R;exact I.tail (by omega)
    ·cases i
   ·cases i
theorem T4:∀(f:Nat) {x:Bl} {l:List Tk},x.q->Ql l->l.length<f->match FY f x l with | .error f=>f.1≠0 | .ok (t,o)=>t.q/\Ql o/\o.length<=l.length
 | 0,x,l,_,_,U=>by omega
 | f+1,x,l,P,I,U=>by
  have j:=lz P I;unfold FY;by_cases p:Cu 6 l=true
  ·rw[if_pos p]
   obtain⟨a1,r,rfl,ht⟩:=JO p;exact⟨P,I.tail (by omega),by simp⟩
  ·rw[if_neg p]
   cases C:Db x l with
   | error e=>rw[C]at j;exact j
   | ok q=>
    obtain⟨t,o⟩:=q;rw[C]at j;obtain⟨R,T,g3⟩:=j;have i:=T4 f R T (by omega);simp only;cases J:FY f t o with
    | error e=>rw[J]at i;exact i
    | ok a0=>obtain⟨x2,l2⟩:=a0;rw[J]at i;exact⟨i.1,i.2.1,by have:=i.2.2;omega⟩
def N8(h:Ql l):SQ (BR l):=by unfold SQ;rw[OO];exact h.take
theorem OY:∀(f:Nat) {a:List PS} {l:List Tk},(∀s∈a,SQ s)->Ql l->(∀s∈(DR f a l).1,SQ s)/\Ql (DR f a l).2
 | 0,a,l,j,o=>⟨j,o⟩
 | f+1,a,l,j,o=>by
  unfold DR;by_cases p:Cu 4 l=true
  ·rw[if_pos p]
   obtain⟨t,r,rfl,I⟩:=JO p;have C:=o.tail (by omega);refine OY f ?_ C.ID;intro s i;rcases mA.1 i with i|i
   ·exact j s i
   ·rw[mS.1 i];exact N8 C
  ·rw[if_neg p];exact⟨j,o⟩
theorem UU(p:Ql l):match CO l with | .error f=>f.1≠0 | .ok (r,R)=>RQ r/\Ql R/\R.length<l.length:=by
 cases i:CO l with
 | error f=>
  simp only;obtain⟨t,r,rfl⟩:=p.ended.cons;unfold CO at i;simp only at i;split at i
  ·injection i with i;rw[<-i];exact p.bad
  rename_i U;have I:=p.tail (by omega);split at i
  ·rename_i J
   obtain⟨u,o,rfl,hu⟩:=JO J;have C:=I.tail (by omega);have j:=OY (u::o).length (a:=[BR o]) (l:=o.dropWhile Bg) (fun s j=>by rw[mS.1 j];exact N8 C) C.ID;split at i
   ·cases i
   ·injection i with i;rw[<-i];exact j.2.bad
  ·injection i with i;rw[<-i];exact I.bad
 | ok q=>
  obtain⟨r1,R⟩:=q;simp only;have a0:=(Kt i).1;obtain⟨t,r,rfl⟩:=p.ended.cons;unfold CO at i;simp only at i;split at i
  ·cases i
  rename_i U;have I:=p.tail (by omega);split at i
  ·rename_i J
   obtain⟨u,o,rfl,hu⟩:=JO J;have C:=I.tail (by omega);have j:=OY (u::o).length (a:=[BR o]) (l:=o.dropWhile Bg) (fun s j=>by rw[mS.1 j];exact N8 C) C.ID;split at i
   ·rename_i T
    injection i with i;obtain⟨rfl,rfl⟩:=Prod.mk.inj i;refine⟨⟨p.all t (by simp),j.1⟩,?_,a0⟩;obtain⟨v,r3,P,a1⟩:=JO T;simp only[List.drop_succ_cons,List.drop_zero]at P T ⊢;rw[P];have:=j.2;rw[P]at this;exact this.tail (by omega)
   ·cases i
  ·cases i
theorem UR:∀(f:Nat) {a:List PR} {l:List Tk},(∀r∈a,RQ r)->Ql l->l.length<f->match FH f a l with | .error f=>f.1≠0 | .ok J=>∀r∈J,RQ r
 | 0,a,l,_,_,C=>by omega
 | f+1,a,l,ha,I,C=>by
  have j:=UU I;unfold FH;by_cases h0:Cu 0 l=true
  ·rw[if_pos h0];exact ha
  ·rw[if_neg h0]
   cases o:CO l with
   | error e=>rw[o]at j;exact j
   | ok q=>
    obtain⟨r,R⟩:=q;rw[o]at j;obtain⟨p,t,P⟩:=j;refine UR f ?_ t (by omega);intro u i;rcases mA.1 i with i|i
    ·exact ha u i
    ·rw[mS.1 i];exact p
theorem eW(P:Ql l):match FD l with | .error f=>f.1≠0 | .ok x=>x.q/\∀r∈x.rules,RQ r:=by
 have j:=T4 (l.length+1) (x:=⟨[],[],[],[]⟩) ⟨by simp,by simp,by simp,rfl⟩ P (by omega);unfold FD;cases t:FY (l.length+1) ⟨[],[],[],[]⟩ l with
 | error e=>rw[t]at j;exact j
 | ok q=>
  obtain⟨x,l1⟩:=q;rw[t]at j;obtain⟨i,J,g3⟩:=j;have o:=UU J;simp only;cases I:CO l1 with
  | error e=>rw[I]at o;exact o
  | ok q=>
   obtain⟨r,l2⟩:=q;rw[I]at o;obtain⟨T,U,k3⟩:=o;have p:=UR (l.length+1) (a:=[r]) (fun u R=>by rw[mS.1 R];exact T) U (by omega);simp only;cases C:FH (l.length+1) [r] l2 with
   | error e=>rw[C]at p;exact p
   | ok rs=>rw[C]at p;exact⟨⟨i.decl,i.marks,i.starts,i.same⟩,p⟩
theorem PN{sz:Nat}(R:sz<=8192):∀(f p:Nat) (l:List UInt8) {o:List Tk},p+l.length=sz->Fg sz f p l=.ok o->Im o/\(∀t∈o,TQ t)/\o.length<=l.length+1
 | 0,_,_,_,_,i=>by cases i
 | f+1,p,l,o,hp,i=>by
  simp only[Fg]at i;split at i
  ·injection i with i;subst i
   exact⟨rfl,fun t j=>by rw[mS.1 j];exact⟨by simp,R⟩,by simp⟩
  ·rename_i a1
   have a0:0<l.length:=by cases l with|nil=>simp at a1|cons _ _=>simp
   cases I:GK sz p l with
   | error e=>rw[I]at i;cases i
   | ok q=>
    obtain⟨k,n⟩:=q;have hn:=(Pn I).2 a0;have a2:=Te I (by omega);rw[I]at i;simp only at i;cases J:Fg sz f (p+n) (l.drop n) with
    | error e=>rw[J]at i;cases i
    | ok a3=>
     rw[J]at i;injection i with i;obtain⟨C,P,T⟩:=PN R f (p+n) (l.drop n) (by rw[List.length_drop];omega) J;rw[List.length_drop]at T;subst i;split
     ·exact⟨C,P,by omega⟩
     ·rename_i U
      refine⟨?_,fun t j=>?_,by simp;omega⟩
      ·obtain⟨u,r,hu⟩:=C.cons
       rw[hu]at C ⊢;exact⟨U,C⟩
      ·rcases List.mem_cons.1 j with rfl|j
       ·exact⟨by simp;omega,by show p<=8192;omega⟩
       ·exact P t j
def YC{l:List UInt8}(h:tokens l=.ok i):Ql i:=by
 unfold tokens at h;split at h
 ·cases h
 ·rename_i t
  obtain⟨j,o,p⟩:=PN (by omega) _ 0 l (by omega) h;exact⟨j,o,by omega⟩
theorem OH{C:AO->Bool}:∀(l:List Tk) (m:Option (Nat×Tk)) (T:List AO) {f:Bm},BJ C m l T=.error f->f.1≠0
 | [],none,T,f,h=>by cases h
 | [],some (m,I),T,f,h=>by
  unfold BJ Ex at h;by_cases p:C I.s=true
  ·rw[if_pos p]at h;cases h
  ·rw[if_neg p]at h;injection h with h;rw[<-h];simp
 | t::l,none,T,f,h=>by
  unfold BJ at h;cases i:Ct T t with
  | error e=>
   rw[i]at h;injection h with h;rw[<-h];unfold Ct at i;split at i
   ·injection i with i;rw[<-i];simp
   split at i
   ·injection i with i;rw[<-i];simp
   ·cases i
  | ok j=>rw[i]at h;exact OH l none j h
 | t::l,some (m,I),T,f,h=>by
  have J:∀(o:Option (Nat×Tk)),(match Ct T t with | .error e=>Except.error e | .ok j=>BJ C o l j)=.error f->f.1≠0:=by
   intro o h;cases i:Ct T t with
   | error e=>
    rw[i]at h;injection h with h;rw[<-h];unfold Ct at i;split at i
    ·injection i with i;rw[<-i];simp
    split at i
    ·injection i with i;rw[<-i];simp
    ·cases i
   | ok j=>rw[i]at h;exact OH l o j h
  unfold BJ at h;split at h
  ·unfold Ex at h
   by_cases p:C I.s=true
   ·rw[if_pos p]at h;exact J none h
   ·rw[if_neg p]at h;injection h with h;rw[<-h];simp
  ·exact J (some (m,I)) h
theorem gS(h:Gn x=.error f):f.1≠0:=by
 unfold Gn at h;cases i:BJ (leftOf x) (BZ x) x.decl [] with
 | error e=>
  rw[i]at h;simp only at h;split at h
  ·injection h with h;rw[<-h];simp
  ·injection h with h;rw[<-h];exact OH _ _ _ i
 | ok T=>
  rw[i]at h;simp only at h;split at h
  ·injection h with h;rw[<-h];simp
  ·cases h
theorem TZ{j:AO->Bool}:∀(l:List Tk) (b:Bd) (k:Nat) {f:Bm},DV j b k l=.error f->f.1≠0
 | [],b,k,f,h=>by cases h
 | t::l,b,k,f,h=>by
  unfold DV at h;cases i:D5 j b t k with
  | error e=>
   rw[i]at h;injection h with h;rw[<-h];unfold D5 at i;split at i
   ·injection i with i;rw[<-i];simp
   split at i
   ·cases i
   split at i
   ·split at i
    ·injection i with i;rw[<-i];simp
    ·cases i
   split at i
   ·cases i
   ·injection i with i;rw[<-i];simp
  | ok o=>rw[i]at h;exact TZ l o (k+1) h
theorem lD{j:AO->Bool}{left:AO}{s:PS}(h:Ec j b left s=.error f):f.1≠0:=by
 unfold Ec at h;split at h
 ·injection h with h;rw[<-h];simp
 cases i:DV j b 0 s.l with
 | error e=>rw[i]at h;injection h with h;rw[<-h];exact TZ _ _ _ i
 | ok l=>
  rw[i]at h;simp only at h;split at h
  ·injection h with h;rw[<-h];simp
  ·cases h
theorem QL{j:AO->Bool}{left:AO}:∀(l:List PS) (b:Bd) {f:Bm},Fq j left b l=.error f->f.1≠0
 | [],b,f,h=>by cases h
 | s::l,b,f,h=>by
  unfold Fq at h;cases i:Ec j b left s with
  | error e=>rw[i]at h;injection h with h;rw[<-h];exact lD i
  | ok o=>rw[i]at h;exact QL l o h
theorem PH{o:AO->Bool}{D:Nat}:∀(l:List PR) (b:Bd) {f:Bm},Dd o D b l=.error f->f.1≠0
 | [],b,f,h=>by cases h
 | r::l,b,f,h=>by
  unfold Dd JS at h;cases i:EO D b r.left with
  | error e=>
   rw[i]at h;injection h with h;rw[<-h];unfold EO at i;split at i
   ·injection i with i;rw[<-i];simp
   split at i
   ·cases i
   split at i
   ·injection i with i;rw[<-i];simp
   ·cases i
  | ok p=>
   rw[i]at h;simp only at h;cases j:Fq o r.left.s p r.GX with
   | error e=>rw[j]at h;injection h with h;rw[<-h];exact QL _ _ j
   | ok t=>rw[j]at h;exact PH l t h
theorem Zr(h:Gr x=.error f):f.1≠0:=by
 unfold Gr at h;cases i:Gn x with
 | error e=>rw[i]at h;injection h with h;rw[<-h];exact gS i
 | ok T=>
  rw[i]at h;simp only at h;cases j:Dd (leftOf x) T.length ⟨T,[],[]⟩ x.rules with
  | error e=>rw[j]at h;injection h with h;rw[<-h];exact PH _ _ j
  | ok b=>rw[j]at h;cases h
def Zc(h:x.q):DI x.marks<=100000:=by
 have i:=h.marks;unfold DI;split
 ·rename_i a m r e
  have:=i m (by rw[e];simp);omega
 ·omega
end Go.Proofs.YtlogpnoioimhjaaGreatDoor
