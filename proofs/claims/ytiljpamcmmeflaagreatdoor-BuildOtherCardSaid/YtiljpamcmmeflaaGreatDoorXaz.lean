/- . -/
import Derived.Test.YtiljpamcmmeflaaGreatDoorXaj
set_option linter.all false
set_option maxRecDepth 100000
set_option maxHeartbeats 16000000
namespace Go.Proofs.YtiljpamcmmeflaaGreatDoor
open Go.RowKit Go.Proofs.Tryz
open Value renaming slice→nC,int→nE,pointer→nF,string→nH
open Option renaming some→nJ,none→nK
open IntKind renaming i64→nM
open Obj renaming cells→nO
open Ending renaming returned→nP
open World renaming cell?→nQ
open Go renaming World→nS,Value→nU
variable{B c2 k mb n:Nat}{D:DataW Unit}{L:List AM}{s:List UInt8}{i j r:List Tk}{tb:Option Nat}{rv:nU}{a:List PR}{S:List PS×List Tk}{H:Except Bn (Bl×List Tk)}{e:TypeId}{xs:List nU}{cs:Array nU}{A2:Option Addr}{f:Bn}
section
open Go.RowKit Go.Proofs.Tryz Go.Maps
def NU{w:nS}{L:List (List UInt8)}(h:w.ownsMap Tryz.prog 9 (plainElem Tryz.prog 3) mb n D)(p:I7 D L)(C:s.length<=8192):(Instr.lookup 65 (.map (nJ mb)) (nH (str s)) false).run Tryz.prog w=.ok (nE nM (L.count s)) w:=by have t:=WideMaps.keyOf_string_mk underlying9 (s:=str s) (by rw[Kj];unfold maxLen;omega);obtain⟨c,j,l,_⟩:=h.lookup_int H0 underlying65 underlying3 (Ll w) t;rw[j];have o:=p s;have i:D.atKey (Cf s) (.lit (.int nM 0))=.lit (.int nM c):=l;rw[o]at i;simp only[DataW.lit.injEq,Lit.int.injEq,true_and]at i;rw[<-i]
def fK{w:nS}(h:w.ownsMap Tryz.prog 9 (plainElem Tryz.prog 3) mb n D)(l:n<=100000)(o:s.length<=8192){c:Nat}(j:c<=100000) :
  ∃w',(Instr.mapUpdate 65 (.map (nJ mb)) (nH (str s)) (nE nM ((c:Int)+1))).run Tryz.prog w=.ok () w'/\w'.ownsMap Tryz.prog 9 (plainElem Tryz.prog 3) mb (n+1) (D.put (Cf s) (.lit (.int nM (c+1))))/\w.grownBy w' (nJ mb):=by
 have i:=WideMaps.keyOf_string_mk underlying9 (s:=str s) (by rw[Kj];unfold maxLen;omega);exact h.update H0 underlying65 mW i (plainElem_int underlying3 (WalkArith.wf_i64 mR))
def JK.drew{w j:nS}{rb o:Nat}{l:List Tk}{x:Bl}{p t I:nU}{C:List Br}{q:Br}(h:JK w j B rb mb o tb l x p t I rv C q D):JK w j.drew B rb mb o tb l x p t I rv C q D:=by have i:Aj (fun _=>False) j j.drew:=(Aj.refl _ _).drew;exact⟨h.By.drew,i.own h.rules (fun _ _=>id),fun r J=>(h.Hn r J).Ay i (fun _ _ _=>id),Dq h.map i id,i.Ap h.Ap id,h.Ay.drew⟩
def Wp(w:nS)(B rb mb:Nat)(tb:Option Nat)(x:Bl)(i j C:nU)(p:List Br)(l:List Tk)(e:Ending)(w':nS):Prop:=
 Aj (fun k=>k=rb\/B<=k\/k=mb) w w'/\match CN l with
 | .ok (r,o)=>e=nP (.tuple #[])/\∃t q D,q.r=r/\DM w' B rb mb tb o x i j C t (p++[q]) D
 | .error f=>BW f e
def Kr(l:List Tk):(l.dropWhile Bj).length<=l.length:=(List.dropWhile_sublist Bj).length_le
def XM{t l:Tk}(p:t.k=1)(C:l.k=3){a:List PS}{o:Tk}(J:DO (i.length+1) [BU i] (i.dropWhile Bj)=(a,o::j))(I:o.k=5):CN (t::l::i)=.ok (⟨t,a⟩,j):=by simp[CN,p,Ct,C,J,I]
def cW{t o:Tk}(p:t.k=1)(C:o.k=3){a:List PS}{j:Tk}{l:List Tk}(J:DO (i.length+1) [BU i] (i.dropWhile Bj)=(a,j::l))(I:j.k≠5):CN (t::o::i)=.error (DH (j::l)):=by simp[CN,p,Ct,C,J,I]
def KP(S:List PS×List Tk)(i:List GS)(rest:List Tk):Prop:=∃f,rest.length<=f/\S=DO f (i.map GS.s) rest
theorem KP.step{j:List GS}{t:Tk}(h:KP S j (t::r))(l:t.k=4)(q:GS)(o:q.s=BU r):KP S (j++[q]) (r.dropWhile Bj):=by
 obtain⟨f,i,h⟩:=h;cases f with
 | zero=>simp at i
 | succ f=>have:=Kr r;simp at i;refine⟨f,mR,?_⟩;rw[h,DO,if_pos (by simp[Ct,l])];simp[o]
theorem KP.last{i:List GS}{t:Tk}(h:KP S i (t::r))(l:t.k≠4):S=(i.map GS.s,t::r):=by
 obtain⟨f,j,h⟩:=h;cases f with
 | zero=>simp at j
 | succ f=>rw[h,DO,if_neg (by simp[Ct,l])]
def NA{w:nS}{rb:Nat}{l:List Tk}{x:Bl}{dv kv sv:nU}{p:List Br}(h:DM w B rb mb tb l x dv kv sv rv p D)(bi:∀u∈l,u.s.length<=8192):Calls Tryz.prog 122 #[nF (nJ ⟨rb,0,nK⟩)] w (Wp w B rb mb tb x dv kv sv p l):=by
 obtain⟨t,r,rfl⟩:=h.By.A8.ended.cons;have bj:=bi t mV;have b2:=Hd bj;clear bi bj;obtain⟨Ar,cr,rfl⟩:=BH h.rules;by_cases P:t.k=1
 ·obtain⟨ai,bd⟩:=h.By.A8.ended.tail mR
  obtain⟨t2,i,rfl⟩:=ai.cons;have ae:=Hd (h.By.A8.want 1 1 rfl P mR);have ba:=h.By.A8.lt;have cj:=h.lr;simp at cj;have T:=Hd h;by_cases h3:t2.k=3
  ·obtain⟨b7,cm⟩:=ai.tail mR
   obtain⟨t3,r3,cn⟩:=b7.cons;have ax:=Hd P;have ao:=Hd h3;have an:=Hd (Kr i);clear h P h3 ai bd b7 cm cn;go_enter func122,ntmps122
   go_wp2_with (first
    | (
      go_at_call 162;(with_reducible refine ae.out.mono ?_);intro e w1 o;obtain⟨rfl,a3,a9⟩:=o
      have al:=Hd a3;have cp:=a3.size;have aa:=a9.Ay ((Aj.refl (fun _=>False) w1).alloc (nO #[nE nM t.k,nH (str t.s),nE nM t.p,nC nK 0 0] 223)) id (fun _ _=>id);have bl:=Hd (Ah.new w1 223 #[nE nM t.k,nH (str t.s),nE nM t.p,nC nK 0 0]);have aq:=Hd (aa.want 3 3 rfl ao.out mR);clear a3 a9 aa)
    | (
      go_at_call 162;(with_reducible refine aq.out.mono ?_);intro e w2 o;obtain⟨rfl,au,bh⟩:=o
      have b6:=au.Ap bl.out mR;have bx:Hid (G2 w rb dv kv sv (nC Ar p.length cr) (.map (nJ mb)) tb w1.heap.size t (nC nK 0 0) [] i w2):=Hd ⟨bh,b6,World.ownsRow_nil _ _ _ _,(by simp),(al.out.alloc _).next au,cp,ba.1,ba.2⟩;clear au bh b6))
   generalize w1.heap.size=bb at *;have HD:=Hd bx.out.drew;have c8:=Hd (UF HD.out.A8 mR);have b3:=HD.out.Ap.cell 3;have u3:=HD.out.Ap.frozen 3;have d2:=HD.out.Ay.size;simp at b3;go_region_law (first
    | (
      refine Fe QA (.tmp 9) (.tmp 12) ?_ ?_ (base:=w.heap.size) (n:=0) (m:=1) (N:=1) (v:=nC nK 0 0) (src:=nC (nJ ⟨w3.heap.size,0,nK⟩) 1 1) (xs:=[]) (news:=[nC A (BU i).l.length c,nE nM (BU i).p]) ?_ ?_ ?_ ?_ ?_ ?_ ?_ ?_ ?_
      · rfl
      · rfl
      · rfl
      · rfl
      · exact World.ownsRow_nil _ _ _ _
      · exact Qj w3 _ _ _ _
      · rfl
      · unfold maxLen;omega
      · omega
      · simp;omega
      intro A4 c4 w4 r1 a2 r3;have HF:=Hd (HD.out.rel rfl bm.out bz.out bu.out r1 a2);have a0:=a2.Ap (bk.out.alloc _) (.inr mT);have z0:=a0.cell 3;have z1:=a0.frozen 3;simp at z0;clear r1 a2 r3 a0)
    | (
      go_simp;go_at_call 163;refine c8.out.mono ?_;intro e w3 o;obtain⟨A,c,rfl,af,av,be⟩:=o;have a7:=HD.out.later af av;have y0:=a7.Ap.cell 3;have y1:=a7.Ap.frozen 3;simp at y0;have bk:=Hd a7.Ap;have cs:=a7.Ap.lt;have bm:=Hd af;have bz:=Hd av;have bu:=Hd be;have d0:w2.heap.size<=w3.heap.size:=af.size;clear af av be a7))
   all_goals go_wp2
   all_goals
    have b9:([⟨BU i,nC A (BU i).l.length c⟩]:List GS).length+(i.dropWhile Bj).length<=100000:=by have:=an.out;simp;omega
    have bq:=Hd (And.intro b9 an.out);clear b9;go_loopg [] (i.dropWhile Bj).length (fun n wr=>∃(bv:nU) (j:List GS) (rest:List Tk),n=rest.length/\Hid (G2 w rb dv kv sv (nC Ar p.length cr) (.map (nJ mb)) tb bb t bv j rest wr)/\Hid (KP (DO (i.length+1) [BU i] (i.dropWhile Bj)) j rest)/\Hid (j.length+rest.length<=100000/\rest.length<=i.length))
    case atStart=>exact⟨nC A4 1 c4,[⟨BU i,nC A (BU i).l.length c⟩],i.dropWhile Bj,rfl,Hd HF.out,Hd ⟨i.length+1,by have:=an.out;omega,rfl⟩,bq⟩
    case round=>
     obtain⟨bv,j,rest,rfl,I,b4,br⟩:=hrel;obtain⟨t4,r4,rfl⟩:=I.out.A8.ended.cons;have a4:=Hd (I.out.A8.is 4 4 rfl);obtain⟨Ab,cb,rfl⟩:=BH I.out.own;obtain⟨ck,cl⟩:=br.out;simp at ck cl;by_cases U:t4.k=4
     · have a6:(t4.k==4)=true:=by simp[U]
       rw[a6]at a4;have ca:=Hd (I.out.A8.take mR);have ay:=Hd U;clear a6 U;go_wp2_with (first
         | (go_at_call 119;(with_reducible refine a4.out.mono ?_);rintro e w' ⟨rfl,ad⟩;subst ad)
         | (
           go_at_call 121;refine ca.out.mono ?_;intro e w5 o;obtain⟨rfl,a5,ab⟩:=o
           have J:=Hd (I.out.later a5 ab);clear a5 ab))
       have C:=Hd J.out.drew;have c9:=Hd (UF C.out.A8 mR);have b5:=C.out.Ap.cell 3;have u5:=C.out.Ap.frozen 3;have d3:=C.out.Ay.size;simp at b5;go_region_law (first
         | (
           refine Fe QA (.tmp 20) (.tmp 23) ?_ ?_ (base:=w.heap.size) (n:=j.length) (m:=1) (N:=j.length+1) (v:=nC Ab j.length cb) (src:=nC (nJ ⟨w6.heap.size,0,nK⟩) 1 1) (xs:=j.flatMap GS.cells) (news:=[nC A6 (BU r4).l.length c6,nE nM (BU r4).p]) ?_ ?_ ?_ ?_ ?_ ?_ ?_ ?_ ?_
           · rfl
           · rfl
           · rfl
           · rfl
           · exact az.out.own.alloc _
           · exact Qj w6 _ _ _ _
           · rfl
           · unfold maxLen;omega
           · omega
           · simp;omega
           intro A7 c7 w7 r1 a2 r3;have HG:=Hd (C.out.rel rfl bn.out c0.out bw.out r1 a2);have a0:=a2.Ap (az.out.Ap.alloc _) (.inr mT);have z0:=a0.cell 3;have z1:=a0.frozen 3;simp at z0;clear r1 a2 r3 a0)
         | (
           go_simp;go_at_call 163;refine c9.out.mono ?_;intro e w6 o;obtain⟨A6,c6,rfl,ag,a1,bf⟩:=o;have a8:=C.out.later ag a1;have y0:=a8.Ap.cell 3;have y1:=a8.Ap.frozen 3;simp at y0;have az:=Hd a8;have cu:=a8.Ap.lt;have bn:=Hd ag;have c0:=Hd a1;have bw:=Hd bf;have d1:w5.heap.size<=w6.heap.size:=ag.size;clear ag a1 bf a8))
       all_goals go_wp2
       all_goals have cv:=Kr r4
       all_goals go_roundg (r4.dropWhile Bj).length
       all_goals first
         | (case measure=>simp;omega)
         | (case rel=>exact⟨nC A7 (j.length+1) c7,j++[⟨BU r4,nC A6 (BU r4).l.length c6⟩],r4.dropWhile Bj,rfl,Hd HG.out,Hd (b4.out.step ay.out _ rfl),Hd ⟨mX,mR⟩⟩)
     · have a6:(t4.k==4)=false:=by simp[U]
       rw[a6]at a4;have b0:=Hd (b4.out.last U);have ay:=Hd U;clear a6 U;by_cases h5:t4.k=5
       · have ar:=Hd (I.out.A8.want 5 5 rfl h5 mR)
         have R:=Hd (XM ax.out ao.out b0.out h5);clear h5;go_wp2_with (first
          | (go_at_call 119;(with_reducible refine a4.out.mono ?_);rintro e w' ⟨rfl,ad⟩;subst ad)
          | (
             go_at_call 162;refine ar.out.mono ?_;intro e w5 o;obtain⟨rfl,a5,ab⟩:=o
             have J:=Hd (I.out.later a5 ab);clear a5 ab))
         have C:=Hd J.out.drew;have aw:=Hd (T.out.By.Ay C.out.Ay (fun _ h=>h) C.out.A8 mX);have b1:=Hd (C.out.Ay.own T.out.rules (CY T.out.rules T.out.By.EG));obtain⟨_,_,_,e4,e5,cy⟩:=J.out.A8.cells;have x0:=J.out.Ap.cell 0;have x1:=J.out.Ap.cell 1;have x2:=J.out.Ap.cell 2;have x3:=J.out.Ap.cell 3;simp at x0 x1 x2 x3;have cc:B<=w5.heap.size:=aw.out.bB;have ct:=J.out.Ap.lt;go_region_law (
              refine Fe dF (.tmp 32) (.tmp 34) ?_ ?_ (base:=B) (n:=p.length) (m:=1) (N:=p.length+1) (v:=nC Ar p.length cr) (src:=nC (nJ ⟨w5.heap.size,0,nK⟩) 1 1) (xs:=p.flatMap Br.cells) (news:=[nE nM t.k,nH (str t.s),nE nM t.p,nC Ab j.length cb]) ?_ ?_ ?_ ?_ ?_ ?_ ?_ ?_ ?_
              ·rfl
              ·rfl
              ·rfl
              ·rfl
              ·exact b1.out.alloc _
              ·exact Ba.Ap (c:=1) (Ah.new w5.drew 223 #[nE nM t.k,nH (str t.s),nE nM t.p,nC Ab j.length cb]) rfl mZ
              ·rfl
              ·unfold maxLen;omega
              ·omega
              ·simp at cc ⊢;omega
              intro A6 c6 w6 q1 q2 q3;have ak:=Hd (V8 (o:=nO #[nE nM t.k,nH (str t.s),nE nM t.p,nC Ab j.length cb] 223) T.out C.out mX q1 q3);have a1:=aw.out.grown (o:=nO #[nE nM t.k,nH (str t.s),nE nM t.p,nC Ab j.length cb] 223) (B0 b1.out) q3.1;obtain⟨_,_,_,cA,_,_⟩:=a1.cells;have vA:=a1.frozen 4;clear q1 q2 q3 a1)
         all_goals go_wp2
         all_goals generalize cq:World.setCell w6 ⟨rb,4,nK⟩ (nC A6 (p.length+1) c6)=w7 at *
         all_goals clear cA vA e4 e5 x0 x1 x2 x3 cq
         all_goals have aj:=Hd ak.out.drew
         all_goals obtain⟨_,_,_,_,e5,_⟩:=ak.out.By.A8.cells
         all_goals have x1:=ak.out.Ap.cell 1
         all_goals simp at x1
         all_goals have cw:=NU aj.out.map T.out.Li b2.out
         all_goals have ch:(p.map fun r=>r.left.s).count t.s<=(p.map fun r=>r.left.s).length:=List.count_le_length
         all_goals simp at ch
         all_goals generalize ah:(p.map fun r=>r.left.s).count t.s=n0 at *
         all_goals obtain⟨w8,cx,bc,b8⟩:=fK aj.out.map mR b2.out (c:=n0) mR
         all_goals have cz:IntKind.i64.wrap ((n0:Int)+1)=(n0:Int)+1:=IntWalk.i64_in _ mR
         all_goals have bt:=Hd bc
         all_goals have bp:=Hd b8
         all_goals have bo:=Hd ah
         all_goals clear bc b8 ah
         all_goals go_region
         all_goals go_end0
         all_goals have ah:=bo.out
         all_goals subst ah
         all_goals obtain⟨g1,g2⟩:=JK.last T.out mX aj.out bp.out bt.out
         all_goals refine⟨g2,?_⟩
         all_goals rw[R.out]
         all_goals exact⟨rfl,_,_,_,rfl,g1⟩
       · have ar:=Hd (I.out.A8.Nj 5 5 rfl h5)
         have R:=Hd (cW ax.out ao.out b0.out h5);clear h5;go_wp2_with (first
          | (go_at_call 119;(with_reducible refine a4.out.mono ?_);rintro e w' ⟨rfl,ad⟩;subst ad)
          | (go_at_call 162;refine ar.out.mono ?_;rintro e w5 ⟨rfl,cg⟩))
         refine⟨rfl,(I.out.Ay.mono (fun _ h=>.inl h)).next (.AJ cg),?_⟩;rw[R.out];exact BW.of rfl rfl
  ·have R:Hid (CN (t::t2::i)=.error (DH (t2::i))):=Hd (by simp[CN,P,Ct,h3])
   clear h P ai bd;go_enter func122,ntmps122
   go_wp2_with (first
    | (
      go_at_call 162;(with_reducible refine ae.out.mono ?_);intro e w1 o;obtain⟨rfl,a3,a9⟩:=o
      have al:=Hd a3;have aa:=a9.Ay ((Aj.refl (fun _=>False) w1).alloc (nO #[nE nM t.k,nH (str t.s),nE nM t.p,nC nK 0 0] 223)) id (fun _ _=>id);have aq:=Hd (aa.Nj 3 3 rfl h3);clear a3 a9 aa)
    | (go_at_call 162;(with_reducible refine aq.out.mono ?_);rintro e w2 ⟨rfl,cf⟩))
   refine⟨rfl,((al.out.mono (fun _ h=>.inl h)).alloc _).next (.AJ cf),?_⟩;rw[R.out];exact BW.of rfl rfl
 ·have ae:=Hd (h.By.A8.Nj 1 1 rfl P)
  have R:Hid (CN (t::r)=.error (DH (t::r))):=Hd (by simp[CN,P]);clear h P;go_enter func122,ntmps122
  go_wp2_with (go_at_call 162;refine ae.out.mono ?_;rintro e w1 ⟨rfl,cd⟩)
  refine⟨rfl,.AJ cd,?_⟩;rw[R.out];exact BW.of rfl rfl
end
section
open Go.RowKit Go.Proofs.Tryz Go.Maps
def Pw(l:List Tk):∀u∈l.dropWhile Bj,u∈l:=fun u i=>(List.dropWhile_sublist Bj).subset i
theorem M6{x o:Bl}{l:List Tk}(h:C0 x l=.ok (o,j)):j.length<l.length/\∀u∈j,u∈l:=by
 cases l with
 | nil=>cases h
 | cons t r=>
  simp only[C0]at h;split at h
  ·split at h
   ·cases h
   ·injection h with h
    obtain⟨rfl,rfl⟩:=Prod.mk.inj h;have:=Kr r;exact⟨mX,fun u i=>List.mem_cons_of_mem _ (Pw r u i)⟩
  split at h
  ·split at h
   ·injection h with h
    obtain⟨rfl,rfl⟩:=Prod.mk.inj h;exact⟨mX,fun u i=>List.mem_cons_of_mem _ (List.mem_of_mem_drop i)⟩
   ·cases h
  ·cases h
theorem VQ(f:Nat):∀(a:List PS) (l:List Tk),(DO f a l).2.length<=l.length/\∀u∈(DO f a l).2,u∈l:=by
 induction f with
 | zero=>intro a l;exact⟨AF _,fun u h=>h⟩
 | succ f o=>
  intro a l;unfold DO;split
  ·obtain⟨p,i⟩:=o (a++[BU (l.drop 1)]) ((l.drop 1).dropWhile Bj)
   have:=Kr (l.drop 1);have t:(l.drop 1).length<=l.length:=by simp
   exact⟨mR,fun u j=>List.mem_of_mem_drop (Pw _ u (i u j))⟩
  ·exact⟨AF _,fun u h=>h⟩
theorem KX{r:PR}{l:List Tk}(h:CN l=.ok (r,i)):i.length<l.length/\∀u∈i,u∈l:=by
 cases l with
 | nil=>cases h
 | cons t r=>
  simp only[CN]at h;split at h
  ·cases h
  split at h
  ·split at h
   ·injection h with h
    obtain⟨rfl,rfl⟩:=Prod.mk.inj h;obtain⟨p,j⟩:=VQ r.length [BU (r.drop 1)] ((r.drop 1).dropWhile Bj);have:=Kr (r.drop 1);have C:(r.drop 1).length<=r.length:=by simp
    refine⟨by rw[List.length_drop,List.length_cons];omega,fun u o=>List.mem_cons_of_mem _ (List.mem_of_mem_drop (Pw _ u (j u (List.mem_of_mem_drop o))))⟩
   ·cases h
  ·cases h
def IZ(H:Except Bn (Bl×List Tk))(x:Bl)(l:List Tk):Prop:=∃f,l.length<f/\H=F6 f x l
theorem IZ.step{x o:Bl}{l:List Tk}(h:IZ H x l)(p:Ct 6 l=false)(i:C0 x l=.ok (o,j)):IZ H o j:=by
 obtain⟨f,t,h⟩:=h;have:=(M6 i).1;cases f with
 | zero=>omega
 | succ f=>exact⟨f,mR,by rw[h,F6,if_neg (by simp[p])];simp[i]⟩
theorem IZ.fail{x:Bl}{l:List Tk}{e:Bn}(h:IZ H x l)(i:Ct 6 l=false)(j:C0 x l=.error e):H=.error e:=by
 obtain⟨f,o,h⟩:=h;cases f with
 | zero=>omega
 | succ f=>rw[h,F6,if_neg (by simp[i])];simp[j]
theorem IZ.last{x:Bl}{l:List Tk}(h:IZ H x l)(i:Ct 6 l=true):H=.ok (x,l.drop 1):=by
 obtain⟨f,j,h⟩:=h;cases f with
 | zero=>omega
 | succ f=>rw[h,F6,if_pos i]
def Jf(H:Except Bn (List PR))(a:List PR)(l:List Tk):Prop:=∃f,l.length<f/\H=FC f a l
theorem Jf.step{H:Except Bn (List PR)}{r:PR}{l:List Tk}(h:Jf H a l)(h0:Ct 0 l=false)(i:CN l=.ok (r,j)):Jf H (a++[r]) j:=by
 obtain⟨f,o,h⟩:=h;have:=(KX i).1;cases f with
 | zero=>omega
 | succ f=>exact⟨f,mR,by rw[h,FC,if_neg (by simp[h0])];simp[i]⟩
theorem Jf.fail{H:Except Bn (List PR)}{l:List Tk}{e:Bn}(h:Jf H a l)(h0:Ct 0 l=false)(i:CN l=.error e):H=.error e:=by
 obtain⟨f,j,h⟩:=h;cases f with
 | zero=>omega
 | succ f=>rw[h,FC,if_neg (by simp[h0])];simp[i]
theorem Jf.last{H:Except Bn (List PR)}{l:List Tk}(h:Jf H a l)(h0:Ct 0 l=true):H=.ok a:=by
 obtain⟨f,i,h⟩:=h;cases f with
 | zero=>omega
 | succ f=>rw[h,FC,if_pos h0]
def l6(w:nS)(B rb mb:Nat)(tb:Option Nat)(l:List Tk)(e:Ending)(w':nS):Prop:=
 Aj (fun k=>k=rb\/B<=k\/k=mb) w w'/\match Fq l with
 | .ok y=>e=nP (.tuple #[])/\∃p j o C t i D,i.map Br.r=y.rules/\DM w' B rb mb tb p y j o C t i D
 | .error f=>BW f e
def DM.EL{w:nS}{rb:Nat}{l:List Tk}{x:Bl}{i j p:nU}{o:List Br}(h:DM w B rb mb tb l x i j p rv o D)(R:List PR):DM w B rb mb tb l {x with rules:=R} i j p rv o D:=by obtain⟨⟨t,J,P,T,U,a6,a7,a8,a9,C,I⟩,b2,b3,b4,b5,b6,b7,b8⟩:=h;exact⟨⟨t,J,P,T,U,a6,a7,a8,a9,C,I⟩,b2,b3,b4,b5,b6,b7,b8⟩
def bK{w:nS}{rb:Nat}{l:List Tk}(h:Da w B rb (nC nK 0 0) (.map (nJ mb)) tb l ⟨[],[],[],[]⟩ (nC nK 0 0) (nC nK 0 0) (nC nK 0 0))(hm:w.ownsMap Tryz.prog 9 (plainElem Tryz.prog 3) mb 0 (.map []:DataW Unit))(b9:mb<B)(aq:mb≠rb)(ax:∀u∈l,u.s.length<=8192):() 86 #[(rb,0)] w (l6 w B rb mb tb l):=by
 have be:l.length<=100000:=by have:=h.ld;simp at this;omega
 have HH:=Hd h;have ak:=Hd ax;have HM:=Hd hm;clear h ax hm;go_enter func86,ntmps86
 go_wp2;go_loopg [] l.length (fun n wr=>∃(x:Bl) (l':List Tk) (dv kv sv:nU),n=l'.length/\Hid (Da wr B rb (nC nK 0 0) (.map (nJ mb)) tb l' x dv kv sv)/\Hid (Aj (fun k=>k=rb\/B<=k) w wr)/\Hid (IZ (F6 (l.length+1) ⟨[],[],[],[]⟩ l) x l')/\Hid ((∀u∈l',u∈l)/\l'.length<=l.length))
 case atStart=>exact⟨⟨[],[],[],[]⟩,l,_,_,_,rfl,HH,Hd (Aj.refl _ _),Hd ⟨l.length+1,mR,rfl⟩,Hd ⟨fun u h=>h,AF _⟩⟩
 case round=>
  obtain⟨x,l',dv,kv,sv,rfl,HR,HC,HT,T⟩:=hrel;obtain⟨a3,r,rfl⟩:=HR.A8.ended.cons;have U:=Hd (HR.A8.is 6 6 rfl);by_cases h6:a3.k=6
  ·have o:(a3.k==6)=true:=by simp[h6]
   rw[o]at U;have ab:=Hd (HT.last (by simpa [Ct] using o));have an:=Hd (HR.A8.take mR);clear o h6;have ai:=Hd (fun(R:nS) (J:Aj (·=rb) wr R) (hs:Cm R rb dv kv sv (nC nK 0 0) (.map (nJ mb)) tb r)=>(⟨HR.Ay J (fun _ h=>h) hs mV,World.ownsRow_nil _ _ _ _,mV,Dq (Dq HM HC mR) J aq,I7.start,b9,aq,by have:=T.2;simp at this ⊢;omega⟩:DM R B rb mb tb r x dv kv sv (nC nK 0 0) [] (.map [])));have al:=Hd (fun u (t:u∈r)=>ak u (T.1 u (List.mem_cons_of_mem _ t)));cases ho:CN r with
   | error f=>
    have j:=Hd ho;clear ho;go_wp2_with (first
     | (go_at_call 119;(with_reducible refine U.out.mono ?_);rintro e w' ⟨rfl,p⟩;subst p)
     | (go_at_call 121;refine an.mono ?_;intro e R i;obtain⟨rfl,P,a1⟩:=i;have a8:=Hd P;have ad:=Hd (NA (ai _ P a1) al);clear P a1)
     | (go_at_call 122;refine ad.mono ?_;intro e w2 i;obtain⟨a5,i⟩:=i;rw[j.out]at i;have i:e=_:=i;subst i))
    refine⟨rfl,(((HC.next (a8.mono (fun _ h=>.inl h))).mono (fun ay hi=>hi.imp id .inl)).next a5),?_⟩;unfold Fq;rw[ab.out];simp only[List.drop_succ_cons,List.drop_zero];rw[j.out];exact BW.of rfl rfl
   | ok a2=>
    obtain⟨r1,C⟩:=a2;have j:=Hd ho;clear ho;go_wp2_with (first
     | (go_at_call 119;(with_reducible refine U.out.mono ?_);rintro e w' ⟨rfl,p⟩;subst p)
     | (go_at_call 121;refine an.mono ?_;intro e R i;obtain⟨rfl,P,a1⟩:=i;have a8:=Hd P;have ad:=Hd (NA (ai _ P a1) al);clear P a1)
     | (
       go_at_call 122;refine ad.mono ?_;intro e w2 i;obtain⟨a5,i⟩:=i;rw[j.out]at i;obtain⟨rfl,bb,q2,D2,ar,av⟩:=i
       have a9:=Hd ((((HC.next (a8.mono (fun _ h=>.inl h))).mono (fun ay hi=>hi.imp id .inl)).next a5:Aj (fun k=>k=rb\/B<=k\/k=mb) w w2));have b4:=Hd ar;have b6:=Hd av;clear a5 ar av))
    go_loopg [] C.length (fun n wx=>∃(rv:nU) (rs:List Br) (D:DataW Unit) (l3:List Tk),n=l3.length/\Hid (DM wx B rb mb tb l3 x dv kv sv rv rs D)/\Hid (Aj (fun k=>k=rb\/B<=k\/k=mb) w wx)/\Hid (Jf (FC (l.length+1) [r1] C) (rs.map Br.r) l3)/\Hid (∀u∈l3,u∈l))
    case atStart=>exact⟨bb,[q2],D2,C,rfl,b6,a9,Hd ⟨l.length+1,by have:=(KX j).1;have:=T.2;simp at this;omega,by rw[<-b4.out];rfl⟩,Hd (fun u t=>T.1 u (List.mem_cons_of_mem _ ((KX j).2 u t)))⟩
    case round=>
     obtain⟨rv,rs,D,l3,rfl,a4,aa,ae,ah⟩:=hrel;obtain⟨t3,r3,rfl⟩:=a4.By.A8.ended.cons;have a0:=Hd (a4.By.A8.is 0 0 rfl);have aj:=Hd (NA a4 (fun u t=>ak u (ah u t)));have b0:Hid (∀a,FC (l.length+1) [r1] C=.ok a->Fq l=.ok {x with rules:=a}):=Hd (fun a ha=>by unfold Fq;rw[ab.out];simp only[List.drop_succ_cons,List.drop_zero];rw[j.out];simp only;rw[ha])
     have b1:Hid (∀f,FC (l.length+1) [r1] C=.error f->Fq l=.error f):=Hd (fun f ha=>by unfold Fq;rw[ab.out];simp only[List.drop_succ_cons,List.drop_zero];rw[j.out];simp only;rw[ha])
     by_cases h0:t3.k=0
     ·have o:(t3.k==0)=true:=by simp[h0]
      rw[o]at a0;have b3:=Hd (ae.last (by simpa [Ct] using o));clear o h0;go_wp2_with (go_at_call 119;(with_reducible refine a0.out.mono ?_);rintro e w' ⟨rfl,p⟩;subst p)
      go_end0
      refine⟨aa,?_⟩;rw[b0.out _ b3.out];exact⟨rfl,_,_,_,_,_,_,_,rfl,a4.EL _⟩
     ·have o:(t3.k==0)=false:=by simp[h0]
      rw[o]at a0;have HK:=Hd (show Ct 0 (t3::r3)=false by simpa [Ct] using o);clear o h0;cases a7:CN (t3::r3) with
      | error f=>
        have I:=Hd a7;clear a7;go_wp2_with (first
         | (go_at_call 119;(with_reducible refine a0.out.mono ?_);rintro e w' ⟨rfl,p⟩;subst p)
         | (go_at_call 122;refine aj.mono ?_;intro e w4 i;obtain⟨a6,i⟩:=i;rw[I.out]at i;have i:e=_:=i;subst i))
        refine⟨rfl,aa.next a6,?_⟩;rw[b1.out _ (ae.fail HK.out I.out)];exact BW.of rfl rfl
      | ok a2=>
        obtain⟨r4,l4⟩:=a2;have I:=Hd a7;clear a7;go_wp2_with (first
         | (go_at_call 119;(with_reducible refine a0.out.mono ?_);rintro e w' ⟨rfl,p⟩;subst p)
         | (go_at_call 122;refine aj.mono ?_;intro e w4 i;obtain⟨a6,i⟩:=i;rw[I.out]at i;obtain⟨rfl,bc,q4,D4,au,aw⟩:=i;have az:=Hd a6;have b5:=Hd au;have b7:=Hd aw;clear a6 au aw))
        have af:=(KX I).1
        go_roundg l4.length
        case measure=>exact af
        case rel=>exact⟨bc,rs++[q4],D4,l4,rfl,b7,Hd (aa.next az),Hd (by have h:=ae.step HK I;rw[<-b5.out]at h;rw[Bz];exact h),Hd (fun u t=>ah u ((KX I).2 u t))⟩
  ·have o:(a3.k==6)=false:=by simp[h6]
   rw[o]at U;have HK:=Hd (show Ct 6 (a3::r)=false by simpa [Ct] using o);have ag:=Hd (Xu HR);clear o h6;cases he:C0 x (a3::r) with
   | error f=>
    have j:=Hd he;clear he;go_wp2_with (first
     | (go_at_call 119;refine U.mono ?_;rintro e w' ⟨rfl,p⟩;subst p)
     | (go_at_call 120;refine ag.mono ?_;intro e R i;obtain⟨J,i⟩:=i;rw[j.out]at i;have i:e=_:=i;subst i))
    refine⟨rfl,(HC.next J).mono (fun ay hi=>hi.imp id .inl),?_⟩;unfold Fq;rw[HT.fail HK.out j.out];exact BW.of rfl rfl
   | ok a2=>
    obtain⟨x2,C⟩:=a2;have j:=Hd he;clear he;go_wp2_with (first
     | (go_at_call 119;refine U.mono ?_;rintro e w' ⟨rfl,p⟩;subst p)
     | (go_at_call 120;refine ag.mono ?_;intro e R i;obtain⟨J,i⟩:=i;rw[j.out]at i;obtain⟨rfl,b8,ba,bd,ao⟩:=i;have a9:=Hd J;have b2:=Hd ao;clear J ao))
    have af:=(M6 j).1
    go_roundg C.length
    case measure=>exact af
    case rel=>exact⟨x2,C,b8,ba,bd,rfl,b2,Hd (HC.next a9),Hd (HT.step HK j),Hd ⟨fun u t=>T.1 u ((M6 j).2 u t),by have:=T.2;omega⟩⟩
end
section
open Go.RowKit Go.Proofs.Tryz Go.Maps
def Nv(s:List UInt8):nU:=nH (str s)
structure BJ where
 v:nU
 l:List AM
def GO(D:DataW Unit)(L:List AM):Prop:=∀s,D.atKey (Cf s) (.lit (.int nM 0))=.lit (.int nM (if s∈L then L.idxOf s+1 else 0:Nat))
def GO.start:GO (.map []) []:=fun s=>rfl
def GO.next{D:DataW Unit}{L:List AM}(h:GO D L)(o:Maps.Tidy D){s:AM}(l:s ∉ L):GO (D.put (Cf s) (.lit (.int nM (L.length+1:Nat)))) (L++[s]):=by
 intro u;by_cases e:u=s
 ·subst e
  rw[Maps.atKey_put_same o.isMap (Ni _),if_pos mV];rw[List.idxOf_append,if_neg l];simp
 ·rw[Maps.atKey_put_other (fun j=>e (Oh j)),h u]
  by_cases i:u∈L
  ·rw[if_pos i,if_pos (by simp[i]),List.idxOf_append,if_pos i]
  ·rw[if_neg i,if_neg (by simp[i,e])]
structure BQ(w0 w:nS)(bb tm nm rb:Nat)(tv nv gv:nU)(b:Bd)(gs:List BJ)(DT DN:DataW Unit):Prop where
 below:Below w0 w0 w
 Ap:Ah w bb 173 #[(rb,0),.map (nJ tm),.map (nJ nm),tv,nv,nC nK 0 0,nE nM 0,gv]
 ft:w.ownsRow w0 9 1 tv b.T.length (b.T.map Nv)
 fn:w.ownsRow w0 9 1 nv b.N.length (b.N.map Nv)
 fg:w.ownsRow w0 55 1 gv gs.length (gs.map BJ.v)
 names:gs.map BJ.l=b.R
 rows:∀q∈gs,w.ownsRow w0 9 1 q.v q.l.length (q.l.map Nv)
 tn:∀k,tv.ownBlock=nJ k->¬nv.ownBlock=nJ k
 tr:∀q∈gs,∀k,tv.ownBlock=nJ k->¬q.v.ownBlock=nJ k
 nr:∀q∈gs,∀k,nv.ownBlock=nJ k->¬q.v.ownBlock=nJ k
 mt:w.ownsMap Tryz.prog 9 (plainElem Tryz.prog 3) tm b.T.length DT
 mn:w.ownsMap Tryz.prog 9 (plainElem Tryz.prog 3) nm b.N.length DN
 pt:GO DT b.T
 pn:GO DN b.N
 b0:w0.heap.size<=bb/\w0.heap.size<=tm/\w0.heap.size<=nm
 b1:tm≠nm
 lt:b.T.length<=120
 ln:b.N.length<=120
 lr:b.R.length<=300
def Jv{w:nS}(h:w.ownsMap Tryz.prog 9 (plainElem Tryz.prog 3) mb n D)(p:GO D L)(C:s.length<=8192):(Instr.lookup 65 (.map (nJ mb)) (nH (str s)) false).run Tryz.prog w=.ok (nE nM (if s∈L then L.idxOf s+1 else 0:Nat)) w:=by have t:=WideMaps.keyOf_string_mk underlying9 (s:=str s) (by rw[Kj];unfold maxLen;omega);obtain⟨c,j,l,_⟩:=h.lookup_int H0 underlying65 underlying3 (Ll w) t;rw[j];have o:=p s;have i:D.atKey (Cf s) (.lit (.int nM 0))=.lit (.int nM c):=l;rw[o]at i;simp only[DataW.lit.injEq,Lit.int.injEq,true_and]at i;rw[<-i]
def O0{w:nS}(h:w.ownsMap Tryz.prog 9 (plainElem Tryz.prog 3) mb n D)(l:n<=100000)(o:s.length<=8192){c:Nat}(j:c<=100000) :
  ∃w',(Instr.mapUpdate 65 (.map (nJ mb)) (nH (str s)) (nE nM (c:Int))).run Tryz.prog w=.ok () w'/\w'.ownsMap Tryz.prog 9 (plainElem Tryz.prog 3) mb (n+1) (D.put (Cf s) (.lit (.int nM (c:Int))))/\w.grownBy w' (nJ mb):=by
 have i:=WideMaps.keyOf_string_mk underlying9 (s:=str s) (by rw[Kj];unfold maxLen;omega);exact h.update H0 underlying65 mW i (plainElem_int underlying3 (WalkArith.wf_i64 mR))
def FV{w:nS}{n2:Nat}{s:Nat}{v:nU}(h:w.ownsMap Tryz.prog 9 (plainElem Tryz.prog 3) mb n D)(o:w.ownsRow B e s v n2 xs):¬v.ownBlock=nJ mb:=by
 intro j;obtain⟨t,clock,l,_⟩:=h;rcases Bg o with⟨rfl,_⟩|⟨b,c,rfl,_,_,_,_,p,i⟩
 ·cases j
 ·cases j
  unfold Ah at i;rw[l]at i;cases i
def GQ{w:nS}{g:Nat}(h:w.ownsMap Tryz.prog 9 (plainElem Tryz.prog 3) mb n D)(i:Ah w g e cs):mb≠g:=by rintro rfl;obtain⟨l,clock,j,_⟩:=h;unfold Ah at i;rw[j]at i;cases i
def CB{w:nS}{g:Nat}{i:TypeId}{s:Nat}{v:nU}(p:w.ownsRow B e s v n xs)(h:Ah w g i cs)(o:e≠i):¬v.ownBlock=nJ g:=by
 intro j;rcases Bg p with⟨rfl,_⟩|⟨b,c,rfl,_,_,_,_,t,l⟩
 ·cases j
 ·cases j
  exact Ah.Bh (t:=e) l h o rfl
def BQ.Ay{X:Nat->Prop}{U w w':nS}{C T R rb:Nat}{tv nv J:nU}{b:Bd}{I:List BJ}{t p:DataW Unit}(h:BQ U w C T R rb tv nv J b I t p)(i:Aj X w w')(j:∀k,k<w.heap.size->¬X k):BQ U w' C T R rb tv nv J b I t p where
 below:=h.below.trans (i.below h.below.size (fun k hk=>j k (AK hk h.below.size)))
 Ap:=i.Ap h.Ap (j _ h.Ap.lt)
 ft:=i.own h.ft (fun g l=>j g (B0 h.ft g l).2)
 fn:=i.own h.fn (fun g l=>j g (B0 h.fn g l).2)
 fg:=i.own h.fg (fun g l=>j g (B0 h.fg g l).2)
 names:=h.names
 rows q P:=i.own (h.rows q P) (fun g l=>j g (B0 (h.rows q P) g l).2)
 tn:=h.tn
 tr:=h.tr
 nr:=h.nr
 mt:=Dq h.mt i (j _ (by obtain⟨es,c,o,_⟩:=h.mt;exact(aG.1 o).1))
 mn:=Dq h.mn i (j _ (by obtain⟨es,c,o,_⟩:=h.mn;exact(aG.1 o).1))
 pt:=h.pt
 pn:=h.pn
 b0:=h.b0
 b1:=h.b1
 lt:=h.lt
 ln:=h.ln
 lr:=h.lr
end
variable{w w0:nS}{rb:Nat}{gv nv tv v:nU}{b:Bd}{gs:List BJ}{DN DT:DataW Unit}
section
open Go.RowKit Go.Proofs.Tryz Go.Maps
def On:El Tryz.prog 55 9 1 16:=El.of (z:=nH ⟨#[]⟩) underlying55 mU rfl mT
def OZ(y:nS)(s:ByteArray):Ba (y.alloc (nO #[nH s] 9)) (nC (y,0) 1 1) 1 1 [nH s]:=
 Ba.Ap (c:=1) (Ah.new y 9 #[nH s]) rfl mZ
def Ro(h:w.ownsMap Tryz.prog 9 (plainElem Tryz.prog 3) mb n D):mb<w.heap.size:=by obtain⟨j,c,i,_⟩:=h;exact(aG.1 i).1
def Dy(i l j:Nat)(tv nv:nU)(k:Nat):Prop:=k=i\/k=l\/k=j\/tv.ownBlock=nJ k\/nv.ownBlock=nJ k
def BM(w:nS)(v v':nU):Prop:=∀k,v'.ownBlock=nJ k->v.ownBlock=nJ k\/w.heap.size<=k
def BM.refl(w:nS)(v:nU):BM w v v:=fun k h=>.inl h
def dB{U w2 I:nS}{o:Obj}{j p t:Nat}{s:AM}
  (h:BQ U w j p t rb tv nv gv b gs DT DN) (hs:s ∉ b.T) (a8:b.T.length<120)
  (ho:w2.ownsRow U 9 1 (nC A2 (b.T.length+1) c2) (b.T.length+1) (b.T.map Nv++[Nv s]))
  (hg:(w.alloc o).grownBy w2 tv.ownBlock/\((Value.slice A2 (b.T.length+1) c2).ownBlock=tv.ownBlock\/(Value.slice A2 (b.T.length+1) c2).ownBlock=nJ (w.alloc o).heap.size))
  (hm:I.ownsMap Tryz.prog 9 (plainElem Tryz.prog 3) p (b.T.length+1) (DT.put (Cf s) (.lit (.int nM (b.T.length+1:Nat)))))
  (a5:(w2.setCell (j,3) (nC A2 (b.T.length+1) c2)).drew.grownBy I (nJ p)) :
  BQ U I j p t rb (nC A2 (b.T.length+1) c2) nv gv {b with T:=b.T++[s]} gs (DT.put (Cf s) (.lit (.int nM (b.T.length+1:Nat)))) DN/\Aj (Dy j p t tv nv) w I/\BM w tv (nC A2 (b.T.length+1) c2):=by
 have hX:Aj (fun k=>tv.ownBlock=nJ k) w w2:=((Aj.refl _ w).alloc o).next (.Cy hg.1);have a4:Aj (fun k=>tv.ownBlock=nJ k\/k=j) w (w2.setCell (j,3) (nC A2 (b.T.length+1) c2)).drew:=((hX.mono (fun a3 P=>.inl P)).set (p:=⟨j,3,nK⟩) (.inr (.inr rfl)) _).drew;have h4:=Aj.of_map a5;have hY:Aj (fun k=>(tv.ownBlock=nJ k\/k=j)\/k=p) w I:=(a4.mono (fun a3 P=>.inl P)).next (h4.mono (fun a3 P=>.inr P));have a7:=h.Ap.lt;have a9:=Ro h.mt;have e1:¬tv.ownBlock=nJ j:=CB h.ft h.Ap mT;have e2:¬tv.ownBlock=nJ p:=FV h.mt h.ft;have e3:p≠j:=GQ h.mt h.Ap
 have e4:t≠j:=GQ h.mn h.Ap;have e5:¬tv.ownBlock=nJ t:=FV h.mn h.ft;have a2:∀k,(Value.slice A2 (b.T.length+1) c2).ownBlock=nJ k->k≠j/\k≠p:=by
  intro k i;rcases hg.2 with e|e
  ·rw[e]at i
   exact⟨by rintro rfl;exact e1 i,by rintro rfl;exact e2 i⟩
  ·rw[e]at i
   cases i
   exact⟨mX,mX⟩
 have a0:∀{e:TypeId} {C n:Nat} {v:nU} {J:List nU},w.ownsRow U e C v n J->e≠173->(∀k,tv.ownBlock=nJ k->¬v.ownBlock=nJ k)->I.ownsRow U e C v n J:=by
  intro e C n v J T he hd;refine hY.own T ?_;rintro k i ((l|rfl)|rfl)
  ·exact hd k l i
  ·exact CB T h.Ap he i
  ·exact FV h.mt T i
 have a1:∀{v:nU} {B n C:Nat} {e:TypeId} {J:List nU},w.ownsRow B e C v n J->(∀k,tv.ownBlock=nJ k->¬v.ownBlock=nJ k)->∀k,(Value.slice A2 (b.T.length+1) c2).ownBlock=nJ k->¬v.ownBlock=nJ k:=by
  intro v B n C e J T hd k i hv;rcases hg.2 with e|e
  ·rw[e]at i;exact hd k i hv
  ·rw[e]at i
   cases i
   have:=(B0 T _ hv).2;simp at this;omega
 refine⟨?_,hY.mono ?_,?_⟩
 rotate_left
 ·rintro k ((l|rfl)|rfl)
  ·exact .inr (.inr (.inr (.inl l)))
  ·exact .inl rfl
  ·exact .inr (.inl rfl)
 ·intro k i
  rcases hg.2 with e|e
  ·exact .inl (e▸i)
  ·rw[e]at i
   cases i
   exact .inr mV
 refine⟨?_,?_,?_,a0 h.fn mT h.tn,a0 h.fg mT (fun k i a6=>Gt h.ft h.fg mT k i a6),h.names,fun q R=>a0 (h.rows q R) mT (h.tr q R),a1 h.fn h.tn,fun q R=>a1 (h.rows q R) (h.tr q R),h.nr,by simpa using hm,?_,?_,h.pn,h.b0,h.b1,mX,h.ln,h.lr⟩
 ·refine h.below.trans (hY.below h.below.size ?_)
  rintro k i ((l|rfl)|rfl)
  ·have:=(B0 h.ft k l).1;omega
  ·have:=h.b0.1;omega
  ·have:=h.b0.2.1;omega
 ·refine h4.Ap (cs:=#[(rb,0),.map (nJ p),.map (nJ t),nC A2 (b.T.length+1) c2,nv,nC nK 0 0,nE nM 0,gv]) ?_ (fun e=>e3 e.symm)
  have:=(hX.Ap h.Ap e1).AW 3 (nC A2 (b.T.length+1) c2);exact(Aj.refl (fun _=>False) _).drew.Ap (by simpa using this) id
 ·rw[Bz,show (b.T++[s]).length=b.T.length+1 by simp]
  exact h4.own ((Aj.refl (fun _=>False) _).drew.own (Ee (by simpa using ho) (fun e=>(a2 _ e).1 rfl) _) (fun _ _=>id)) (fun k i e=>(a2 k i).2 e)
 ·refine Dq h.mn hY ?_
  rintro((l|l)|l)
  ·exact e5 l
  ·exact e4 l
  ·exact h.b1 l.symm
 ·exact h.pt.next (h.mt.tidy H0) hs
def BQ.cells{I:nS}{i o l:Nat}{j:nU}{C:List BJ}{t p:DataW Unit}(h:BQ I w i o l rb tv nv j b C t p) :
  nQ w (i,0)=nJ (nF (rb,0))/\nQ w (i,1)=nJ (.map (nJ o))/\nQ w (i,2)=nJ (.map (nJ l))/\nQ w (i,3)=nJ tv/\nQ w (i,4)=nJ nv/\nQ w (i,7)=nJ j/\i<w.heap.size:=
 ⟨h.Ap.cell 0,h.Ap.cell 1,h.Ap.cell 2,h.Ap.cell 3,h.Ap.cell 4,h.Ap.cell 7,h.Ap.lt⟩
def BQ.drew{I:nS}{l C t:Nat}{p:nU}{o:List BJ}{j i:DataW Unit}(h:BQ I w l C t rb tv nv p b o j i):BQ I w.drew l C t rb tv nv p b o j i:=h.Ay ((Aj.refl (fun _=>False) w).drew) (fun _ _=>id)
def BQ.alloc{J:nS}{l I C:Nat}{t:nU}{p:List BJ}{j i:DataW Unit}(h:BQ J w l I C rb tv nv t b p j i)(o:Obj):BQ J (w.alloc o) l I C rb tv nv t b p j i:=h.Ay ((Aj.refl (fun _=>False) w).alloc o) (fun _ _=>id)
def NH(i w:nS)(j p l rb:Nat)(tv nv P:nU)(J:List BJ)(r:Except Bn Bd)(e:Ending)(w':nS):Prop:=
 Below i i w'/\match r with
 | .ok b=>e=nP (.tuple #[])/\∃t o I C,BQ i w' j p l rb t o P b J I C/\Aj (Dy j p l tv nv) w w'/\BM w tv t/\BM w nv o
 | .error f=>BW f e
def Hs(b:Bd)(t:Tk):Except Bn Bd:=if 120<=b.T.length then .error (7,t.p) else .ok {b with T:=b.T++[t.s]}
def Na{j tm nm:Nat}(h:BQ w0 w j tm nm rb tv nv gv b gs DT DN)(t:Tk)(ht:t.s.length<=8192)(hs:t.s ∉ b.T) :
  () 203 #[(j,0),.agg #[t.k,nH (str t.s),t.p]] w (NH w0 w j tm nm rb tv nv gv gs (Hs b t)):=by
 obtain⟨A,c,rfl⟩:=BH h.ft;have o:=Hd (h.alloc (nO #[t.k,nH (str t.s),t.p] 216));obtain⟨c0,c1,c2,c3,c4,c7,a5⟩:=h.cells;have a8:=h.below.size;have HS:=Hd hs;have HT:=Hd ht;have aq:=h.lt;by_cases P:120<=b.T.length
 ·have T:(120:Int)<=(b.T.length:Int):=by omega
  have HE:Hid (Hs b t=.error (7,t.p)):=Hd (by simp[Hs,P]);clear h hs ht P;generalize b.T.length=n at *;go_enter func203,ntmps203
  go_wp2_with (go_at_call 166;refine(Ej _ _ _).mono ?_;rintro e w' ⟨rfl,an⟩;subst an)
  refine⟨rfl,o.below,?_⟩;rw[HE.out];exact BW.of rfl rfl
 ·have T:¬(120:Int)<=(b.T.length:Int):=by omega
  have ai:b.T.length<120:=by omega
  have HE:Hid (Hs b t=.ok {b with T:=b.T++[t.s]}):=Hd (by simp[Hs,P]);clear h hs ht P;go_enter func203,ntmps203
  go_wp2;have a0:=Hd (Ah.new w 216 #[t.k,nH (str t.s),t.p]);have ar:w.heap.size<(w.alloc (nO #[t.k,nH (str t.s),t.p] 216)).heap.size:=by simp
  have ab:=Hd (((Aj.refl (Dy j tm nm (nC A b.T.length c) nv) w).alloc (nO #[t.k,nH (str t.s),t.p] 216)).drew);have af:Hid (∀v',BM ((w.alloc (nO #[t.k,nH (str t.s),t.p] 216)).drew) (nC A b.T.length c) v'->BM w (nC A b.T.length c) v'):=Hd (fun v' h k hk=>(h k hk).imp id (fun h=>AY mV h));clear c0 c1 c2 c3 c4 c7 a5 a8;generalize (w.alloc (nO #[t.k,nH (str t.s),t.p] 216))=l at *;generalize w.heap.size=xb at *;obtain⟨c0,c1,c2,c3,c4,c7,a5⟩:=o.cells;have x1:=a0.cell 1
  simp at x1;have a8:=o.below.size;have i:=Hd o.drew;have a4:=Hd (((Aj.refl (fun _=>False) l).drew).Ap a0 id);go_region_law (
   refine Fe On (.tmp 19) (.tmp 22) ?_ ?_ (base:=w0.heap.size) (n:=b.T.length) (m:=1) (N:=b.T.length+1) (v:=nC A b.T.length c) (src:=nC (l,0) 1 1) (xs:=b.T.map Nv) (news:=[nH (str t.s)]) ?_ ?_ ?_ ?_ ?_ ?_ ?_ ?_ ?_
   ·rfl
   ·rfl
   ·rfl
   ·rfl
   ·exact i.ft.alloc _
   ·exact OZ l.drew _
   ·rfl
   ·unfold maxLen;omega
   ·omega
   ·simp;omega
   intro p R U T q2 q3;have a2:=Hd T;have a3:=Hd (show ((l.drew.alloc (nO #[nH (str t.s)] 9)).grownBy U (Value.slice A b.T.length c).ownBlock/\_) from q3);have I:Aj (fun k=>(Value.slice A b.T.length c).ownBlock=nJ k) l.drew U:=((Aj.refl _ l.drew).alloc (nO #[nH (str t.s)] 9)).next (.Cy q3.1);have J:=I.Ap i.Ap (CB i.ft i.Ap mT);have a9:=I.Ap a4 (CB i.ft a4 mT);have z3:=J.cell 3;have zf:=J.frozen 3;simp at z3;have aa:=Hd J;have ag:=Hd a9;have ad:=Hd (Dq i.mt I (FV i.mt i.ft))
   clear T q2 q3 I J a9)
  all_goals go_wp2
  all_goals have aj:xb≠j:=fun e=>Ah.Bh (t:=216) a0 o.Ap mT e
  all_goals have a1:=Hd ((Aj.refl (fun _=>False) _).drew.Ap (aa.AW 3 (nC p (b.T.length+1) R)) id)
  all_goals have ah:=Hd ((Aj.refl (fun _=>False) _).drew.Ap (ag.BC (p:=⟨j,3,nK⟩) (by simpa using aj) (nC p (b.T.length+1) R)) id)
  all_goals have ae:=Hd (Dq ad ((Aj.refl (·=j) U).set (p:=⟨j,3,nK⟩) (.inr rfl) (nC p (b.T.length+1) R)).drew (GQ i.mt i.Ap))
  all_goals obtain⟨w4,ak,a7,a6⟩:=O0 ae mR HT (c:=b.T.length+1) mR
  all_goals have C:=Hd (dB i HS ai a2 a3 a7 a6)
  all_goals clear a7 a6 c0 c1 c2 c3 c4 c7 x1 z3 zf a2 a3
  all_goals generalize ao:World.setCell U (j,3) (nC p (b.T.length+1) R)=w3 at *
  all_goals clear ao
  all_goals have y1:=a1.cell 1
  all_goals have y3:=a1.cell 3
  all_goals have x3:=ah.cell 1
  all_goals simp at y1 y3 x3
  all_goals have al:=ak
  all_goals push_cast at al
  all_goals go_region
  all_goals go_end0
  all_goals refine⟨C.1.below,?_⟩
  all_goals rw[HE.out]
  all_goals exact⟨rfl,_,_,_,_,C.1,ab.next C.2.1,af _ C.2.2,BM.refl _ _⟩
end
section
open Go.RowKit Go.Proofs.Tryz Go.Maps
def DM.later{w':nS}{l:List Tk}{x:Bl}{o p C:nU}{t:List Br}(h:DM w B rb mb tb l x o p C rv t D)(I:Below w w w'):DM w' B rb mb tb l x o p C rv t D:=by have j:Aj (fun _=>False) w w':=.AJ I;have i:=h.By;exact⟨⟨i.A8.Ay j id (fun _ _=>id),j.own i.decl (fun _ _=>id),j.own i.marks (fun _ _=>id),j.own i.starts (fun _ _=>id),i.apart,i.EG,i.GA,AY i.bB j.size,i.ld,i.lm,i.ls⟩,j.own h.rules (fun _ _=>id),fun r J=>(h.Hn r J).Ay j (fun _ _ _=>id),Dq h.map j id,h.Li,h.NX,h.mr,h.lr⟩
def ID(w:nS):Below w w w.drew:=⟨rfl,rfl,rfl,AF _,fun _ _=>rfl⟩
def KK{s:Nat}(h:w.ownsRow B e s v n xs)(p:0<n):∃g c,v=nC (nJ ⟨g,0,nK⟩) n c/\∀j u,xs[j]?=nJ u->nQ w ⟨g,j,nK⟩=nJ u:=by
 rcases h.2 with⟨rfl,rfl⟩|⟨g,cap,o,rfl,_⟩
 ·omega
 ·refine⟨g,cap,rfl,fun j u l=>?_⟩
  have:=h.cells rfl j u l;by_cases i:j=0
  ·subst i;simpa [Addr.add] using this
  ·simpa [Addr.add,i] using this
def RX(i:List Br)(y:Bl)(h:i.map Br.r=y.rules)(s:AM):leftOf y s=decide ((i.map fun r=>r.left.s).count s≠0):=by unfold leftOf;rw[<-h,List.any_map,Bool.eq_iff_iff,List.any_eq_true,decide_eq_true_eq,<-Nat.pos_iff_ne_zero,List.count_pos_iff];simp[Br.r]
def S0(w:nS)(r:Except Bn Unit)(e:Ending)(w':nS):Prop:=
 Below w w w'/\match r with
 | .ok _=>e=nP (.tuple #[])
 | .error f=>BW f e
def iW{I:Nat}{l:List Tk}{x:Bl}{P U sv:nU}{j:List Br}(h:DM w B rb mb tb l x P U sv rv j D)(hb:nQ w (I,0)=nJ (nF (rb,0)))(J:j.map Br.r=x.rules){st:Tk}{sr:List Tk}(i:x.starts=st::sr)(R:st.s.length<=8192):() 202 #[(I,0)] w (S0 w (EB (leftOf x) st)):=by
 obtain⟨_,_,c3,_,c5,_⟩:=h.By.A8.cells;obtain⟨g,c,rfl,p⟩:=KK h.By.starts (by rw[i];simp);have g1:=p 1 (nH (str st.s)) (by rw[i];rfl);have g2:=p 2 st.p (by rw[i];rfl);have a0:=NU (Dq h.map ((Aj.refl (fun _=>False) w).drew) id) h.Li R;have hn:(0:Int)<(x.starts.length:Int):=by rw[i,List.length_cons];omega
 have C:=Hd (RX j x J st.s);clear p i h J;generalize x.starts.length=n at *;generalize (j.map fun r=>r.left.s).count st.s=t at *;by_cases h0:t=0
 ·have o:Hid (EB (leftOf x) st=.error (9,st.p)):=Hd (by simp[EB,C.out,h0])
  have q1:((t:Int)==0)=true:=by simp[h0]
  clear h0;go_enter func202,ntmps202
  go_wp2_with fail
  go_region
  go_wp2_with (go_at_call 166;refine(Ej _ _ _).mono ?_;rintro e w' ⟨rfl,T⟩;subst T)
  refine⟨rfl,ID w,?_⟩;rw[o.out];exact BW.of rfl rfl
 ·have o:Hid (EB (leftOf x) st=.ok ()):=Hd (by simp[EB,C.out,h0])
  have q1:((t:Int)==0)=false:=by simp;omega
  clear h0;go_enter func202,ntmps202
  go_wp2_with fail
  go_region
  go_wp2
  go_end0
  refine⟨ID w,?_⟩;rw[o.out]
theorem iK{p:Nat}{l:List Tk}{x:Bl}{C J T:nU}{R:List Br}(h:DM w B rb mb tb l x C J T rv R D)(hb:nQ w (p,0)=nJ (nF (rb,0))):() 165 #[(p,0)] w fun e w'=>e=nP (nE nM (DJ x.marks))/\w'=w:=by
 obtain⟨_,c2,_,_,_,_⟩:=h.By.A8.cells;by_cases i:x.marks.length<2
 ·obtain⟨A,c,rfl⟩:=BH h.By.marks
  have j:Hid (DJ x.marks=8193):=Hd (by
   match I:x.marks,i with
   | [],_=>rfl
   | [a],_=>rfl
   | a::b::r,i=>simp at i;omega)
  have P:(x.marks.length:Int)<2:=by omega
  clear h i;generalize x.marks.length=n at *;go_enter func165,ntmps165
  go_wp2;go_ret;exact⟨by rw[j.out];rfl,rfl⟩
 ·obtain⟨g,c,rfl,t⟩:=KK h.By.marks mR
  obtain⟨a,m,r,o⟩:∃a m r,x.marks=a::m::r:=by
   match I:x.marks,i with
   | [],i=>simp at i
   | [a],i=>simp at i
   | a::b::r,_=>exact⟨a,b,r,rfl⟩
  have U:=t 1 (nE nM m) (by rw[o];rfl);have j:Hid (DJ x.marks=m):=Hd (by rw[o];rfl);have P:¬(x.marks.length:Int)<2:=by omega
  have q2:(1:Int)<(x.marks.length:Int):=by omega
  clear h i t o;generalize x.marks.length=n at *;go_enter func165,ntmps165
  go_wp2;go_ret;exact⟨by rw[j.out];rfl,rfl⟩
end
section
open Go.RowKit Go.Proofs.Tryz Go.Maps
def eM{R tm nm:Nat}(h:BQ w0 w R tm nm rb tv nv gv b gs DT DN){l:List Tk}{x:Bl}{dv kv sv:nU}{rs:List Br}(hr:DM w0 B rb mb tb l x dv kv sv rv rs D)(a4:rs.map Br.r=x.rules)(t:Tk)(C:t.s.length<=8192)(k:Nat)(K:Int)(hK:K=(k:Int)) :
  () 168 #[(R,0),.agg #[t.k,nH (str t.s),t.p],K] w (NH w0 w R tm nm rb tv nv gv gs (D9 (leftOf x) b t k)):=by
 have o:=Hd (h.alloc (nO #[t.k,nH (str t.s),t.p] 216));have a1:=Hd (((Aj.refl (Dy R tm nm tv nv) w).alloc (nO #[t.k,nH (str t.s),t.p] 216)).drew);have a6:Hid (∀v v',BM ((w.alloc (nO #[t.k,nH (str t.s),t.p] 216)).drew) v v'->BM w v v'):=Hd (fun v v' h k hk=>(h k hk).imp id (fun h=>AY mV h));have a3:=Hd (Ah.new w 216 #[t.k,nH (str t.s),t.p]);have HT:=Hd C;have HL:=Hd (RX rs x a4 t.s);by_cases T:8<=k
 ·have q1:(8:Int)<=K:=by omega
  have p:Hid (D9 (leftOf x) b t k=.error (7,t.p)):=Hd (by simp[D9,T]);clear h hr a4 C hK T;go_enter func168,ntmps168
  go_wp2_with (go_at_call 166;refine(Ej _ _ _).mono ?_;rintro e w' ⟨rfl,a5⟩;subst a5)
  refine⟨rfl,o.below,?_⟩;rw[p.out];exact BW.of rfl rfl
 ·have q1:¬(8:Int)<=K:=by omega
  have P:Hid (D9 (leftOf x) b t k=if b.T.contains t.s then .ok b else if t.k=2 then Hs b t else if leftOf x t.s then .ok b else .error (9,t.p)):=Hd (by simp[D9,T,Hs]);clear T hK h;have a2:=Hd (hr.later o.below);clear hr a4;generalize ah:(w.alloc (nO #[t.k,nH (str t.s),t.p] 216))=w1 at *;have a8:=Jv o.drew.mt o.pt C;obtain⟨c0,c1,c2,c3,c4,c7,af⟩:=o.cells;have x0:=a3.cell 0;have x1:=a3.cell 1;have x2:=a3.cell 2;simp at x0 x1 x2;by_cases j:t.s∈b.T
  ·have p:Hid (D9 (leftOf x) b t k=.ok b):=Hd (by rw[P.out,if_pos (by simpa using j)])
   rw[if_pos j]at a8;generalize hn:b.T.idxOf t.s+1=n1 at *;have q2:(0:Int)<(n1:Int):=by omega
   clear j hn C;go_enter func168,ntmps168
   go_wp2
   go_region
   go_wp2
   go_end0
   refine⟨o.drew.below,?_⟩;rw[p.out];exact⟨rfl,_,_,_,_,o.drew,a1,BM.refl _ _,BM.refl _ _⟩
  ·rw[if_neg j,show ((0:Nat):Int)=0 from rfl]at a8
   have HC:=Hd j;by_cases I:t.k=2
   ·have p:Hid (D9 (leftOf x) b t k=Hs b t):=Hd (by rw[P.out,if_neg (by simpa using j),if_pos I])
    have a7:=Hd (Na o.drew t HT j);have q2:((t.k:Int)==2)=true:=by simp[I]
    clear j C I;cases a0:Hs b t with
    | error f=>
     have J:=Hd a0;clear a0;go_enter func168,ntmps168
     go_wp2
     go_region
     go_wp2_with (go_at_call 203;refine a7.mono ?_;intro e w2 i;obtain⟨U,i⟩:=i;rw[J.out]at i;have i:e=_:=i;subst i)
     refine⟨rfl,U,?_⟩;rw[p.out,J.out];exact BW.of rfl rfl
    | ok b2=>
     have J:=Hd a0;clear a0;go_enter func168,ntmps168
     go_wp2
     go_region
     go_wp2_with (go_at_call 203;refine a7.mono ?_;intro e w2 i;obtain⟨U,i⟩:=i;rw[J.out]at i;obtain⟨rfl,i⟩:=i;have ab:=Hd U;have HX:=Hd i;clear U i)
     go_end0
     refine⟨ab,?_⟩;rw[p.out,J.out];obtain⟨ae,ad,aa,a9,z1,z2,z3,z4⟩:=HX.out;exact⟨rfl,ae,ad,aa,a9,z1,a1.next z2,a6 _ _ z3,a6 _ _ z4⟩
   ·have q2:((t.k:Int)==2)=false:=by simp;omega
    have ag:=NU (Dq a2.map ((Aj.refl (fun _=>False) w1).drew.drew) id) a2.Li C;obtain⟨_,_,_,_,c5,_⟩:=a2.By.A8.cells;generalize (rs.map fun r=>r.left.s).count t.s=n0 at *;by_cases h0:n0=0
    ·have p:Hid (D9 (leftOf x) b t k=.error (9,t.p)):=Hd (by rw[P.out,if_neg (by simpa using j),if_neg I,HL.out];simp[h0])
     have q3:((n0:Int)==0)=true:=by simp[h0]
     clear j C I h0;go_enter func168,ntmps168
     go_wp2
     go_region
     go_wp2
     go_region
     go_wp2_with (go_at_call 166;refine(Ej _ _ _).mono ?_;rintro e w' ⟨rfl,a5⟩;subst a5)
     refine⟨rfl,o.drew.drew.below,?_⟩;rw[p.out];exact BW.of rfl rfl
    ·have p:Hid (D9 (leftOf x) b t k=.ok b):=Hd (by rw[P.out,if_neg (by simpa using j),if_neg I,HL.out];simp[h0])
     have q3:((n0:Int)==0)=false:=by simp;omega
     clear j C I h0;go_enter func168,ntmps168
     go_wp2
     go_region
     go_wp2
     go_region
     go_wp2
     go_end0
     refine⟨o.drew.drew.below,?_⟩;rw[p.out];exact⟨rfl,_,_,_,_,o.drew.drew,a1.drew,BM.refl _ _,BM.refl _ _⟩
end
section
open Go.RowKit Go.Proofs.Tryz Go.Maps
def X7{w2 J:nS}{o:Obj}{j I p:Nat}{s:AM}
  (h:BQ w0 w j I p rb tv nv gv b gs DT DN) (hs:s ∉ b.N) (a7:b.N.length<120)
  (ho:w2.ownsRow w0 9 1 (nC A2 (b.N.length+1) c2) (b.N.length+1) (b.N.map Nv++[Nv s]))
  (hg:(w.alloc o).grownBy w2 nv.ownBlock/\((Value.slice A2 (b.N.length+1) c2).ownBlock=nv.ownBlock\/(Value.slice A2 (b.N.length+1) c2).ownBlock=nJ (w.alloc o).heap.size))
  (hm:J.ownsMap Tryz.prog 9 (plainElem Tryz.prog 3) p (b.N.length+1) (DN.put (Cf s) (.lit (.int nM (b.N.length+1:Nat)))))
  (a5:(w2.setCell (j,4) (nC A2 (b.N.length+1) c2)).drew.grownBy J (nJ p)) :
  BQ w0 J j I p rb tv (nC A2 (b.N.length+1) c2) gv {b with N:=b.N++[s]} gs DT (DN.put (Cf s) (.lit (.int nM (b.N.length+1:Nat))))/\Aj (Dy j I p tv nv) w J/\BM w nv (nC A2 (b.N.length+1) c2):=by
 have hX:Aj (fun k=>nv.ownBlock=nJ k) w w2:=((Aj.refl _ w).alloc o).next (.Cy hg.1);have a4:Aj (fun k=>nv.ownBlock=nJ k\/k=j) w (w2.setCell (j,4) (nC A2 (b.N.length+1) c2)).drew:=((hX.mono (fun a3 R=>.inl R)).set (p:=⟨j,4,nK⟩) (.inr (.inr rfl)) _).drew;have h4:=Aj.of_map a5;have hY:Aj (fun k=>(nv.ownBlock=nJ k\/k=j)\/k=p) w J:=(a4.mono (fun a3 R=>.inl R)).next (h4.mono (fun a3 R=>.inr R));have a6:=h.Ap.lt;have a8:=Ro h.mn;have e1:¬nv.ownBlock=nJ j:=CB h.fn h.Ap mT;have e2:¬nv.ownBlock=nJ p:=FV h.mn h.fn;have e3:p≠j:=GQ h.mn h.Ap
 have e4:I≠j:=GQ h.mt h.Ap;have e5:¬nv.ownBlock=nJ I:=FV h.mt h.fn;have a2:∀k,(Value.slice A2 (b.N.length+1) c2).ownBlock=nJ k->k≠j/\k≠p:=by
  intro k i;rcases hg.2 with e|e
  ·rw[e]at i
   exact⟨by rintro rfl;exact e1 i,by rintro rfl;exact e2 i⟩
  ·rw[e]at i
   cases i
   exact⟨mX,mX⟩
 have a0:∀{e:TypeId} {C n:Nat} {v:nU} {P:List nU},w.ownsRow w0 e C v n P->e≠173->(∀k,nv.ownBlock=nJ k->¬v.ownBlock=nJ k)->J.ownsRow w0 e C v n P:=by
  intro e C n v P U he hd;refine hY.own U ?_;rintro k i ((l|rfl)|rfl)
  ·exact hd k l i
  ·exact CB U h.Ap he i
  ·exact FV h.mn U i
 have a1:∀{v:nU} {B n C:Nat} {e:TypeId} {P:List nU},w.ownsRow B e C v n P->(∀k,nv.ownBlock=nJ k->¬v.ownBlock=nJ k)->∀k,(Value.slice A2 (b.N.length+1) c2).ownBlock=nJ k->¬v.ownBlock=nJ k:=by
  intro v B n C e P U hd k i hv;rcases hg.2 with e|e
  ·rw[e]at i;exact hd k i hv
  ·rw[e]at i
   cases i
   have:=(B0 U _ hv).2;simp at this;omega
 refine⟨?_,hY.mono ?_,?_⟩
 rotate_left
 ·rintro k ((l|rfl)|rfl)
  ·exact .inr (.inr (.inr (.inr l)))
  ·exact .inl rfl
  ·exact .inr (.inr (.inl rfl))
 ·intro k i
  rcases hg.2 with e|e
  ·exact .inl (e▸i)
  ·rw[e]at i
   cases i
   exact .inr mV
 refine⟨?_,?_,a0 h.ft mT (fun k i t=>h.tn k t i),?_,a0 h.fg mT (fun k i t=>Gt h.fn h.fg mT k i t),h.names,fun q T=>a0 (h.rows q T) mT (h.nr q T),fun k i t=>a1 h.ft (fun k i t=>h.tn k t i) k t i,h.tr,fun q T=>a1 (h.rows q T) (h.nr q T),?_,by simpa using hm,h.pt,?_,h.b0,h.b1,h.lt,mX,h.lr⟩
 ·refine h.below.trans (hY.below h.below.size ?_)
  rintro k i ((l|rfl)|rfl)
  ·have:=(B0 h.fn k l).1;omega
  ·have:=h.b0.1;omega
  ·have:=h.b0.2.2;omega
 ·refine h4.Ap (cs:=#[(rb,0),.map (nJ I),.map (nJ p),tv,nC A2 (b.N.length+1) c2,nC nK 0 0,nE nM 0,gv]) ?_ (fun e=>e3 e.symm)
  have:=(hX.Ap h.Ap e1).AW 4 (nC A2 (b.N.length+1) c2);exact(Aj.refl (fun _=>False) _).drew.Ap (by simpa using this) id
 ·rw[Bz,show (b.N++[s]).length=b.N.length+1 by simp]
  exact h4.own ((Aj.refl (fun _=>False) _).drew.own (Ee (by simpa using ho) (fun e=>(a2 _ e).1 rfl) _) (fun _ _=>id)) (fun k i e=>(a2 k i).2 e)
 ·refine Dq h.mt hY ?_
  rintro((l|l)|l)
  ·exact e5 l
  ·exact e4 l
  ·exact h.b1 l
 ·exact h.pn.next (h.mn.tidy H0) hs
theorem Th(s:AM):∀(L:List AM) (D:Nat),s∈L.take D<->s∈L/\L.idxOf s<D:=by
 intro L;induction L with
 | nil=>intro D;simp
 | cons a L l=>
  intro D;cases D with
  | zero=>simp
  | succ D=>
   rw[List.take_succ_cons,List.mem_cons,List.mem_cons,l D,List.idxOf_cons];by_cases e:a=s
   ·subst e;simp
   ·have i:(a==s)=false:=by simpa using e
    have j:¬s=a:=fun h=>e h.symm
    simp[i,j]
end
section
open Go.RowKit Go.Proofs.Tryz Go.Maps
def fJ{l tm nm:Nat}(h:BQ w0 w l tm nm rb tv nv gv b gs DT DN)(t:Tk)(P:t.s.length<=8192)(d:Nat)(K:Int)(hK:K=(d:Int)) :
  () 124 #[(l,0),.agg #[t.k,nH (str t.s),t.p],K] w (NH w0 w l tm nm rb tv nv gv gs (ET d b t)):=by
 obtain⟨A,c,rfl⟩:=BH h.fn;have j:=Hd (h.alloc (nO #[t.k,nH (str t.s),t.p] 216));have a9:=Hd ((((Aj.refl (Dy l tm nm tv (nC A b.N.length c)) w).alloc (nO #[t.k,nH (str t.s),t.p] 216)).drew).drew);have an:Hid (∀v',BM ((w.alloc (nO #[t.k,nH (str t.s),t.p] 216)).drew.drew.drew) (nC A b.N.length c) v'->BM w (nC A b.N.length c) v'):=Hd (fun v' h k hk=>(h k hk).imp id (fun h=>AY mV h));have a2:=Hd (Ah.new w 216 #[t.k,nH (str t.s),t.p])
 have b2:w.heap.size<(w.alloc (nO #[t.k,nH (str t.s),t.p] 216)).heap.size:=by simp
 have HT:=Hd P;have az:=h.ln;clear h;generalize b1:(w.alloc (nO #[t.k,nH (str t.s),t.p] 216))=w1 at *;have a0:=Jv j.drew.mt j.pt P;obtain⟨c0,c1,c2,c3,c4,c7,ae⟩:=j.cells;have x0:=a2.cell 0;have x1:=a2.cell 1;have x2:=a2.cell 2;simp at x0 x1 x2;by_cases C:t.s∈b.T.take d
 ·have J:Hid (ET d b t=.error (8,t.p)):=Hd (by simp only[ET];rw[if_pos (by simpa using C)])
  obtain⟨af,ar⟩:=(Th _ _ _).1 C;rw[if_pos af]at a0;have p:(0:Int)<((b.T.idxOf t.s+1:Nat):Int):=by omega
  have q2:((b.T.idxOf t.s+1:Nat):Int)<=K:=by omega
  generalize b.T.idxOf t.s+1=T at *;clear C af ar P hK;go_enter func124,ntmps124
  go_wp2
  go_region
  go_wp2_with (go_at_call 166;refine(Ej _ _ _).mono ?_;rintro e w' ⟨rfl,a7⟩;subst a7)
  refine⟨rfl,j.drew.below,?_⟩;rw[J.out];exact BW.of rfl rfl
 ·have R:∃T:Nat,(Instr.lookup 65 (.map (nJ tm)) (nH (str t.s)) false).run Tryz.prog w1.drew=.ok (nE nM (T:Int)) w1.drew/\(decide ((0:Int)<(T:Int))=false\/decide ((0:Int)<(T:Int))=true/\decide ((T:Int)<=K)=false):=by
   refine⟨_,a0,?_⟩;by_cases I:t.s∈b.T
   ·rw[if_pos I]
    have:¬b.T.idxOf t.s<d:=fun e=>C ((Th _ _ _).2 ⟨I,e⟩)
    exact .inr ⟨by rw[decide_eq_true_eq];omega,by rw[decide_eq_false_iff_not];omega⟩
   ·rw[if_neg I]
    exact .inl rfl
  clear a0;obtain⟨T,a0,R⟩:=R;simp only[decide_eq_false_iff_not,decide_eq_true_eq]at R;have a5:Hid (ET d b t=if b.N.contains t.s then .ok b else if 120<=b.N.length then .error (7,t.p) else .ok {b with N:=b.N++[t.s]}):=Hd (by simp only[ET];rw[if_neg (by simpa using C)]);have a6:=Jv j.drew.drew.mn j.pn P;by_cases o:t.s∈b.N
  ·have J:Hid (ET d b t=.ok b):=Hd (by rw[a5.out,if_pos (by simpa using o)])
   rw[if_pos o]at a6;have U:(0:Int)<((b.N.idxOf t.s+1:Nat):Int):=by omega
   generalize b.N.idxOf t.s+1=n2 at *;clear C o P hK;rcases R with p|⟨p,q2⟩
   all_goals
    go_enter func124,ntmps124
    go_wp2
    go_region
    go_wp2
    go_region
    go_wp2
   all_goals refine bodyPost_ret (results_none rfl _ _ _) rfl ⟨j.drew.drew.below,?_⟩
   all_goals rw[J.out]
   all_goals exact⟨rfl,_,_,_,_,j.drew.drew,a9,BM.refl _ _,BM.refl _ _⟩
  ·rw[if_neg o,show ((0:Nat):Int)=0 from rfl]at a6
   have HC:=Hd o;by_cases I:120<=b.N.length
   ·have J:Hid (ET d b t=.error (7,t.p)):=Hd (by rw[a5.out,if_neg (by simpa using o),if_pos I])
    have U:(120:Int)<=(b.N.length:Int):=by omega
    clear C o P hK I;generalize b.N.length=n at *;rcases R with p|⟨p,q2⟩
    all_goals
     go_enter func124,ntmps124
     go_wp2
     go_region
     go_wp2
     go_region
     go_wp2_with (go_at_call 166;refine(Ej _ _ _).mono ?_;rintro e w' ⟨rfl,a7⟩;subst a7)
    all_goals refine⟨rfl,j.drew.drew.below,?_⟩
    all_goals rw[J.out]
    all_goals exact BW.of rfl rfl
   ·have J:Hid (ET d b t=.ok {b with N:=b.N++[t.s]}):=Hd (by rw[a5.out,if_neg (by simpa using o),if_neg I])
    have U:¬(120:Int)<=(b.N.length:Int):=by omega
    have au:b.N.length<120:=by omega
    clear C o P hK I;rcases R with p|⟨p,q2⟩
    all_goals
     go_enter func124,ntmps124
     go_wp2
     go_region
     go_wp2
     go_region
     go_wp2
    all_goals have a1:=Hd j.drew.drew
    all_goals have a3:=Hd (((Aj.refl (fun _=>False) w1).drew.drew).Ap a2 id)
    all_goals clear a0 a6 c0 c1 c2 c3 c4 c7 ae x0 x1 x2
    all_goals generalize w1.drew.drew=wy at *
    all_goals obtain⟨c0,c1,c2,c3,c4,c7,ae⟩:=a1.cells
    all_goals have x1:=a3.cell 1
    all_goals simp at x1
    all_goals have b0:=a1.below.size
    all_goals have b3:=a3.lt
    all_goals have i:=Hd a1.drew
    all_goals have ad:=Hd (((Aj.refl (fun _=>False) wy).drew).Ap a3 id)
    all_goals generalize w.heap.size=xb at *
    all_goals go_region_law (
     refine Fe On (.tmp 47) (.tmp 50) ?_ ?_ (base:=w0.heap.size) (n:=b.N.length) (m:=1) (N:=b.N.length+1) (v:=nC A b.N.length c) (src:=nC (wy,0) 1 1) (xs:=b.N.map Nv) (news:=[nH (str t.s)]) ?_ ?_ ?_ ?_ ?_ ?_ ?_ ?_ ?_
     ·rfl
     ·rfl
     ·rfl
     ·rfl
     ·exact i.fn.alloc _
     ·exact OZ wy.drew _
     ·rfl
     ·unfold maxLen;omega
     ·omega
     ·simp;omega
     intro A2 k2 w2 p q2 U;have aa:=Hd p;have ab:=Hd (show ((wy.drew.alloc (nO #[nH (str t.s)] 9)).grownBy w2 (Value.slice A b.N.length c).ownBlock/\_) from U);have hX:Aj (fun k=>(Value.slice A b.N.length c).ownBlock=nJ k) wy.drew w2:=((Aj.refl _ wy.drew).alloc (nO #[nH (str t.s)] 9)).next (.Cy U.1);have a4:=hX.Ap i.Ap (CB i.fn i.Ap mT);have ai:=hX.Ap ad (CB i.fn ad mT);have z3:=a4.cell 4;have zf:=a4.frozen 4;simp at z3;have aj:=Hd a4;have ao:=Hd ai;have ak:=Hd (Dq i.mn hX (FV i.mn i.fn))
     clear p q2 U hX a4 ai)
    all_goals go_wp2
    all_goals have av:xb≠l:=fun e=>Ah.Bh (t:=216) a3 a1.Ap mT e
    all_goals have a8:=Hd ((Aj.refl (fun _=>False) _).drew.Ap (aj.AW 4 (nC A2 (b.N.length+1) k2)) id)
    all_goals have aq:=Hd ((Aj.refl (fun _=>False) _).drew.Ap (ao.BC (p:=⟨l,4,nK⟩) (by simpa using av) (nC A2 (b.N.length+1) k2)) id)
    all_goals have al:=Hd (Dq ak ((Aj.refl (·=l) w2).set (p:=⟨l,4,nK⟩) (.inr rfl) (nC A2 (b.N.length+1) k2)).drew (GQ i.mn i.Ap))
    all_goals obtain⟨w4,aw,ah,ag⟩:=O0 al mR HT (c:=b.N.length+1) mR
    all_goals have HF:=Hd (X7 i HC au aa ab ah ag)
    all_goals clear ah ag c0 c1 c2 c3 c4 c7 x1 z3 zf aa ab
    all_goals generalize ay:World.setCell w2 (l,4) (nC A2 (b.N.length+1) k2)=w3 at *
    all_goals clear ay
    all_goals have y2:=a8.cell 2
    all_goals have y4:=a8.cell 4
    all_goals have x3:=aq.cell 1
    all_goals simp at y2 y4 x3
    all_goals have ax:=aw
    all_goals push_cast at ax
    all_goals go_region
    all_goals go_end0
    all_goals refine⟨HF.1.below,?_⟩
    all_goals rw[J.out]
    all_goals exact⟨rfl,_,_,_,_,HF.1,a9.drew.next HF.2.1,BM.refl _ _,an _ HF.2.2⟩
end
section
open Go.RowKit Go.Proofs.Tryz Go.Maps
def Lb(a b:List AM)(k:Nat):Prop:=∀j x y,j<k->a[j]?=nJ x->b[j]?=nJ y->x=y
def Lb.next{a b:List AM}{k:Nat}{x y:AM}(h:Lb a b k)(p:a[k]?=nJ x)(t:b[k]?=nJ y)(o:x=y):Lb a b (k+1):=by
 intro j C I J i l;by_cases e:j=k
 ·subst e
  rw[p]at i;rw[t]at l;cases i;cases l;exact o
 ·exact h j C I mR i l
def Lb.all{a b:List AM}(l:a.length=b.length)(h:Lb a b a.length):(a==b)=true:=by
 rw[beq_iff_eq];apply List.ext_getElem?;intro j;by_cases i:j<a.length
 ·rw[eG i,eG mR]
  rw[h j _ _ i (eG i) (eG mR)]
 ·rw[nG mR,nG mR]
def XX{a b:List AM}{x y:AM}(l:a[k]?=nJ x)(i:b[k]?=nJ y)(j:¬x=y):(a==b)=false:=by
 rw[bN];rintro rfl;rw[l]at i;cases i
 exact j rfl
def str_inj{a b:List UInt8}(h:str a=str b):a=b:=by have:=congrArg (fun x:ByteArray=>x.data.toList) h;simpa [str] using this
def U1{a b:ByteArray}(h:a.toList=b.toList):a=b:=by rw[ByteArray.toList_eq,ByteArray.toList_eq]at h;exact ByteArray.ext (Array.ext' h)
def dI{B1 B2:Nat}{u:nU}{a b:List AM}(ha:w.ownsRow B1 9 1 u a.length (a.map Nv))(t:w.ownsRow B2 9 1 v b.length (b.map Nv)):() 171 #[u,v] w fun e w'=>e=nP (.bool (a==b))/\∃q,w'=w.drewN q:=by
 obtain⟨A,c,hu⟩:=BH ha;obtain⟨A2,c2,hv⟩:=BH t;have a2:=Hd (fun(h:0<a.length)=>KK ha h);have P:=Hd (fun(h:0<b.length)=>KK t h);have a5:a.length<=9223372036854775807:=by
  rcases Bg ha with⟨_,h0⟩|⟨_,c3,_,_,_,h1,h2,_⟩
  ·omega
  ·unfold maxLen at h2;omega
 subst hu;subst hv;clear ha t;by_cases l:a.length=b.length
 ·rw[<-l]
  have J:=Hd l;rw[<-l]at P;clear l;go_enter func171,ntmps171
  go_wp2;go_loopw [5,13] (fun _ i wr=>∃k:Nat,k<=a.length/\i=nE nM k/\Hid (Lb a b k)/\Hid (∃q,wr=w.drewN q)) (fun _ i _=>a.length-(intOf i).toNat)
  case atStart=>exact⟨0,A0 _,rfl,Hd (fun a6 x y hj=>absurd hj (Nat.not_lt_zero _)),Hd ⟨0,rfl⟩⟩
  case round=>
   obtain⟨k,hk,rfl,R,p⟩:=hrel;by_cases a4:k<a.length
   ·have C:=eG a4
    have I:=eG (show k<b.length by have:=J.out;omega);generalize a[k]=x at C;generalize b[k]'(by have:=J.out;omega)=y at I;obtain⟨g1,d1,e1,a0⟩:=a2 mR;obtain⟨g2,d2,e2,a1⟩:=P mR;cases e1
    cases e2
    have T:=Hd C;have U:=Hd I;have e1:nQ wr (g1,k)=nJ (nH (str x)):=by obtain⟨q,rfl⟩:=p.out;exact a0 k _ (by rw[pG,C];rfl)
    have e2:nQ wr (g2,k)=nJ (nH (str y)):=by obtain⟨q,rfl⟩:=p.out;exact a1 k _ (by rw[pG,I];rfl)
    clear C I a0 a1;by_cases o:x=y
    ·have j:=Hd (R.next T U o)
     have t:((str x).toList==(str y).toList)=true:=by subst o;exact beq_self_eq_true _
     generalize str x=sx at *;generalize str y=sy at *;clear o;go_wp2;go_quiet (fail)
     have a3:Hid (∃q,wr.drewN nq=w.drewN q):=Hd (by obtain⟨q,hq⟩:=p.out;exact⟨q+nq,by rw[hq,World.drewN_drewN]⟩)
     go_wp2;go_roundw
     case rel=>exact⟨k+1,mR,mY,j,a3⟩
     case measure=>simp[intOf];omega
    ·have j:=Hd (XX T U o)
     have t:((str x).toList==(str y).toList)=false:=bN.2 (fun h=>o (str_inj (U1 h)));generalize str x=sx at *;generalize str y=sy at *;clear o;go_wp2;go_quiet (fail)
     go_wp2;go_ret;obtain⟨q,rfl⟩:=p.out;exact⟨C9 j.symm,_,World.drewN_drewN _ _ _⟩
   ·obtain rfl:k=a.length:=by omega
    have j:=Hd (R.all J);go_wp2;go_ret;exact⟨C9 j.symm,p⟩
 ·have q1:((a.length:Int) != (b.length:Int))=true:=bne_iff_ne.2 mR
  have j:Hid ((a==b)=false):=Hd (by rw[bN];rintro rfl;exact l rfl);clear l;generalize a.length=n1 at *;generalize b.length=n2 at *;go_enter func171,ntmps171
  go_wp2;go_ret;exact⟨C9 j.symm,0,rfl⟩
end
section
open Go.RowKit Go.Proofs.Tryz Go.Maps
theorem idxOf_hit{s x:AM}(i:L[k]?=nJ x)(I:s=x)(C:∀j y,j<k->L[j]?=nJ y->s≠y):s∈L/\L.idxOf s=k:=by
 subst I;have o:=mG i;refine⟨o,?_⟩;obtain⟨R,e⟩:=sG.1 i;have l:=List.idxOf_lt_length_of_mem o;have p:=List.getElem_idxOf l;have P:¬L.idxOf s<k:=fun h=>C _ _ h (eG l) p.symm
 have t:∀(L:List AM) (k:Nat),L[k]?=nJ s->L.idxOf s<=k:=by
  intro L;induction L with
  | nil=>intro k h;simp at h
  | cons a r J=>
   intro k h;rw[List.idxOf_cons];cases k with
   | zero=>simp at h;simp[h]
   | succ k=>
    have:=J k (by simpa using h);cases a==s
    ·simp only[cond_false];omega
    ·simp only[cond_true];omega
 have:=t L k i;omega
def Kz(L:List AM)(s:AM):Int:=if s∈L then(L.idxOf s:Nat) else -1
def Uo(H:w.ownsRow B 9 1 v L.length (L.map Nv))(s:AM):() 172 #[v,nH (str s)] w fun e w'=>e=nP (nE nM (Kz L s))/\w'=w:=by
 obtain⟨A,c,rfl⟩:=BH H;have a2:L.length<=9223372036854775807:=by
  rcases Bg H with⟨_,h0⟩|⟨_,c3,_,_,_,R,I,_⟩
  ·omega
  ·unfold maxLen at I;omega
 have T:=Hd (fun(h:0<L.length)=>KK H h);clear H;go_enter func172,ntmps172
 go_wp2
 go_loop [5,8] (fun _ i=>∃k:Nat,k<=L.length/\i=nE nM k/\Hid (∀j y,j<k->L[j]?=nJ y->s≠y)) (fun _ i=>L.length-(intOf i).toNat)
 case atStart=>exact⟨0,A0 _,rfl,Hd (fun j y p=>absurd p (Nat.not_lt_zero _))⟩
 case round=>
  obtain⟨k,hk,rfl,t⟩:=hrel;by_cases a1:k<L.length
  ·have o:=eG a1
   generalize L[k]=x at o;obtain⟨b,c2,e1,J⟩:=T mR;cases e1
   have a0:=J k (Nv x) (by rw[pG,o];rfl);unfold Nv at a0;by_cases l:s=x
   ·have C:Hid (Kz L s=(k:Int)):=Hd (by obtain⟨R,I⟩:=idxOf_hit o l t;unfold Kz;rw[if_pos R,I])
    have hb:((str s).toList==(str x).toList)=true:=by subst l;exact beq_self_eq_true _
    generalize str s=ss at *;generalize str x=sx at *;clear o J l;go_wp2;go_ret;rw[C.out];exact⟨rfl,rfl⟩
   ·have U:Hid (∀j y,j<k+1->L[j]?=nJ y->s≠y):=Hd (fun j y p P=>by
     by_cases e:j=k
     ·subst e;rw[o]at P;cases P;exact l
     ·exact t j y mR P)
    have hb:((str s).toList==(str x).toList)=false:=bN.2 (fun h=>l (str_inj (U1 h)));generalize str s=ss at *;generalize str x=sx at *;clear o J l;go_wp2
    go_round
    case rel=>exact⟨k+1,mR,mY,U⟩
    case measure=>simp[intOf];omega
  ·obtain rfl:k=L.length:=by omega
   have C:Hid (Kz L s = -1):=Hd (by unfold Kz;rw[if_neg];intro hm;obtain⟨j,p⟩:=List.mem_iff_getElem?.1 hm;exact t j s (sG.1 p).1 p rfl)
   go_wp2;go_ret;rw[C.out];exact⟨rfl,rfl⟩
def YH{T N:List AM}{P:Int}(I:w.ownsRow B 9 1 tv T.length (T.map Nv))(C:w.ownsRow B 9 1 nv N.length (N.map Nv))(a1:T.length<=120)(a0:N.length<=120)(s:AM) :
  () 126 #[.agg #[tv,nv,rv,P],nH (str s)] w fun e w'=>e=nP (nE nM (B6 T N s))/\Below w w w':=by
 obtain⟨A,c,rfl⟩:=BH I;obtain⟨R,c2,rfl⟩:=BH C;have J:Aj (fun _=>False) w (w.alloc (nO #[nC A T.length c,nC R N.length c2,rv,P] 58)):=(Aj.refl _ w).alloc _;have j:=Hd (Uo (J.own I (fun _ _=>id)) s);have o:=Hd (Uo (J.own C (fun _ _=>id)) s);have U:=AE w (nO #[nC A T.length c,nC R N.length c2,rv,P] 58);have t:=Hd U;have hT:T.idxOf s<=T.length:=List.idxOf_le_length;have hN:N.idxOf s<=N.length:=List.idxOf_le_length;unfold Kz at j o;clear I C J U;by_cases i:s∈T
 ·have p:Hid (B6 T N s=T.idxOf s+1):=Hd (by unfold B6;rw[if_pos (by simpa using i)])
  rw[if_pos i]at j;clear i;generalize T.idxOf s=n1 at *;generalize N.length=nN at *;generalize T.length=nT at *;go_enter func126,ntmps126
  go_wp2_with (go_at_call 172;refine j.mono ?_;rintro e w' ⟨rfl,rfl⟩)
  go_ret;rw[p.out];exact⟨by first|rfl|(push_cast;rfl),t⟩
 ·rw[if_neg i]at j
  by_cases l:s∈N
  ·have p:Hid (B6 T N s=T.length+N.idxOf s+1):=Hd (by unfold B6;rw[if_neg (by simpa using i),if_pos (by simpa using l)])
   rw[if_pos l]at o;clear i l;generalize N.idxOf s=n1 at *;generalize N.length=nN at *;generalize T.length=nT at *;go_enter func126,ntmps126
   go_wp2_with (first
    | (go_at_call 172;(with_reducible refine j.out.mono ?_);rintro e w' ⟨rfl,rfl⟩)
    | (go_at_call 172;(with_reducible refine o.out.mono ?_);rintro e w' ⟨rfl,rfl⟩))
   go_ret;rw[p.out];exact⟨by first|rfl|(push_cast;rfl),t⟩
  ·have p:Hid (B6 T N s=0):=Hd (by unfold B6;rw[if_neg (by simpa using i),if_neg (by simpa using l)])
   rw[if_neg l]at o;clear i l;generalize N.length=nN at *;generalize T.length=nT at *;go_enter func126,ntmps126
   go_wp2_with (first
    | (go_at_call 172;(with_reducible refine j.out.mono ?_);rintro e w' ⟨rfl,rfl⟩)
    | (go_at_call 172;(with_reducible refine o.out.mono ?_);rintro e w' ⟨rfl,rfl⟩))
   go_ret;rw[p.out];exact⟨rfl,t⟩
end
def TQ(t:Tk):Prop:=t.s.length<=8192/\t.p<=8192
def SQ(s:PS):Prop:=(∀t∈s.l,TQ t)/\s.l.length<=100000
def RQ(r:PR):Prop:=TQ r.left/\∀s∈r.GL,SQ s
structure Ql(l:List Tk):Prop where
 ended:Ic l
 all:∀t∈l,TQ t
 len:l.length<=100000
variable{l:List Tk}
structure Bl.q(x:Bl):Prop where
 decl:∀t∈x.decl,TQ t
 marks:∀m∈x.marks,m<=8192
 starts:∀t∈x.starts,TQ t
 same:x.marks.length=x.starts.length
variable{x:Bl}
def Ql.tail{t:Tk}(h:Ql (t::r))(i:t.k≠0):Ql r:=
 ⟨(h.ended.tail i).1,fun u j=>h.all u (by simp[j]),by have:=h.len;simp at this;omega⟩
theorem Ql.IF:∀{l:List Tk},Ql l->Ql (l.dropWhile Bj)
 | [],h=>h.ended.elim
 | t::r,h=>by
  rw[List.dropWhile_cons];split
  ·rename_i i;exact Ql.IF (h.tail (Oz i))
  ·exact h
def Ql.bad(h:Ql l):(DH l).1≠0:=by obtain⟨t,r,rfl⟩:=h.ended.cons;unfold DH;simp only;split<;>simp
def Ql.take(h:Ql l):(∀t∈l.takeWhile Bj,TQ t)/\(l.takeWhile Bj).length<=100000:=
 ⟨fun t i=>h.all t ((List.takeWhile_sublist Bj).mem i),AY (List.takeWhile_sublist Bj).length_le h.len⟩
theorem JL(h:Ct k l=true):∃t r,l=t::r/\t.k=k:=by
 cases l with
 | nil=>cases h
 | cons t r=>exact⟨t,r,rfl,by simpa [Ct] using h⟩
theorem ZS(o:x.q)(j:Ql l):match C0 x l with | .error f=>f.1≠0 | .ok (x',T)=>x'.q/\Ql T/\T.length<l.length:=by
 cases i:C0 x l with
 | error f=>
  simp only;unfold C0 at i;obtain⟨t,r,rfl⟩:=j.ended.cons;simp only at i;split at i
  ·rename_i P
   split at i
   ·injection i with i;rw[<-i];exact(j.tail mR).bad
   ·cases i
  split at i
  ·rename_i U
   split at i
   ·cases i
   ·injection i with i;rw[<-i];exact(j.tail mR).bad
  ·injection i with i;rw[<-i];exact j.bad
 | ok q=>
  obtain⟨x',T⟩:=q;simp only;refine⟨?_,?_,(M6 i).1⟩;all_goals
   unfold C0 at i;obtain⟨t,r,rfl⟩:=j.ended.cons;simp only at i;split at i
  ·rename_i P
   split at i
   ·cases i
   ·injection i with i
    obtain⟨rfl,rfl⟩:=Prod.mk.inj i;have I:=j.tail mR;refine⟨fun u J=>?_,o.marks,o.starts,o.same⟩;rcases mA.1 J with J|J
    ·exact o.decl u J
    ·exact I.take.1 u J
  ·rename_i P
   split at i
   ·rename_i U
    split at i
    ·rename_i R
     injection i with i;obtain⟨rfl,rfl⟩:=Prod.mk.inj i;have I:=j.tail mR;obtain⟨u,r2,rfl,a0⟩:=JL R;refine⟨o.decl,fun m C=>?_,fun v p=>?_,by simp[o.same]⟩
     ·rcases mA.1 C with C|C
      ·exact o.marks m C
      ·rw[mS.1 C];exact(j.all t mV).2
     ·rcases mA.1 p with p|p
      ·exact o.starts v p
      ·simp at p;rw[p];exact I.all u mV
    ·cases i
   ·cases i
  ·rename_i P
   split at i
   ·cases i
   ·injection i with i
    obtain⟨rfl,rfl⟩:=Prod.mk.inj i;exact(j.tail mR).IF
  ·rename_i P
   split at i
   ·rename_i U
    split at i
    ·rename_i R
     injection i with i;obtain⟨rfl,rfl⟩:=Prod.mk.inj i;have I:=j.tail mR;obtain⟨u,r2,rfl,a0⟩:=JL R;exact I.tail mR
    ·cases i
   ·cases i
theorem UB:∀(f:Nat) {x:Bl} {l:List Tk},x.q->Ql l->l.length<f->match F6 f x l with | .error f=>f.1≠0 | .ok (t,o)=>t.q/\Ql o/\o.length<=l.length
 | 0,x,l,_,_,U=>by omega
 | f+1,x,l,P,I,U=>by
  have j:=ZS P I;unfold F6;by_cases p:Ct 6 l=true
  ·rw[if_pos p]
   obtain⟨a1,r,rfl,ht⟩:=JL p;exact⟨P,I.tail mR,mV⟩
  ·rw[if_neg p]
   cases C:C0 x l with
   | error e=>rw[C]at j;exact j
   | ok q=>
    obtain⟨t,o⟩:=q;rw[C]at j;obtain⟨R,T,g3⟩:=j;have i:=UB f R T mR;simp only;cases J:F6 f t o with
    | error e=>rw[J]at i;exact i
    | ok a0=>obtain⟨x2,l2⟩:=a0;rw[J]at i;exact⟨i.1,i.2.1,by have:=i.2.2;omega⟩
def N9(h:Ql l):SQ (BU l):=by unfold SQ;rw[PJ];exact h.take
theorem OV:∀(f:Nat) {a:List PS} {l:List Tk},(∀s∈a,SQ s)->Ql l->(∀s∈(DO f a l).1,SQ s)/\Ql (DO f a l).2
 | 0,a,l,j,o=>⟨j,o⟩
 | f+1,a,l,j,o=>by
  unfold DO;by_cases p:Ct 4 l=true
  ·rw[if_pos p]
   obtain⟨t,r,rfl,I⟩:=JL p;have C:=o.tail mR;refine OV f ?_ C.IF;intro s i;rcases mA.1 i with i|i
   ·exact j s i
   ·rw[mS.1 i];exact N9 C
  ·rw[if_neg p];exact⟨j,o⟩
theorem TJ(p:Ql l):match CN l with | .error f=>f.1≠0 | .ok (r,R)=>RQ r/\Ql R/\R.length<l.length:=by
 cases i:CN l with
 | error f=>
  simp only;obtain⟨t,r,rfl⟩:=p.ended.cons;unfold CN at i;simp only at i;split at i
  ·injection i with i;rw[<-i];exact p.bad
  rename_i U;have I:=p.tail mR;split at i
  ·rename_i J
   obtain⟨u,o,rfl,hu⟩:=JL J;have C:=I.tail mR;have j:=OV (u::o).length (a:=[BU o]) (l:=o.dropWhile Bj) (fun s j=>by rw[mS.1 j];exact N9 C) C.IF;split at i
   ·cases i
   ·injection i with i;rw[<-i];exact j.2.bad
  ·injection i with i;rw[<-i];exact I.bad
 | ok q=>
  obtain⟨r1,R⟩:=q;simp only;have a0:=(KX i).1;obtain⟨t,r,rfl⟩:=p.ended.cons;unfold CN at i;simp only at i;split at i
  ·cases i
  rename_i U;have I:=p.tail mR;split at i
  ·rename_i J
   obtain⟨u,o,rfl,hu⟩:=JL J;have C:=I.tail mR;have j:=OV (u::o).length (a:=[BU o]) (l:=o.dropWhile Bj) (fun s j=>by rw[mS.1 j];exact N9 C) C.IF;split at i
   ·rename_i T
    injection i with i;obtain⟨rfl,rfl⟩:=Prod.mk.inj i;refine⟨⟨p.all t mV,j.1⟩,?_,a0⟩;obtain⟨v,r3,P,a1⟩:=JL T;simp only[List.drop_succ_cons,List.drop_zero]at P T ⊢;rw[P];have:=j.2;rw[P]at this;exact this.tail mR
   ·cases i
  ·cases i
theorem S5:∀(f:Nat) {a:List PR} {l:List Tk},(∀r∈a,RQ r)->Ql l->l.length<f->match FC f a l with | .error f=>f.1≠0 | .ok J=>∀r∈J,RQ r
 | 0,a,l,_,_,C=>by omega
 | f+1,a,l,ha,I,C=>by
  have j:=TJ I;unfold FC;by_cases h0:Ct 0 l=true
  ·rw[if_pos h0];exact ha
  ·rw[if_neg h0]
   cases o:CN l with
   | error e=>rw[o]at j;exact j
   | ok q=>
    obtain⟨r,R⟩:=q;rw[o]at j;obtain⟨p,t,P⟩:=j;refine S5 f ?_ t mR;intro u i;rcases mA.1 i with i|i
    ·exact ha u i
    ·rw[mS.1 i];exact p
theorem ZY(P:Ql l):match Fq l with | .error f=>f.1≠0 | .ok x=>x.q/\∀r∈x.rules,RQ r:=by
 have j:=UB (l.length+1) (x:=⟨[],[],[],[]⟩) ⟨mV,mV,mV,rfl⟩ P mR;unfold Fq;cases t:F6 (l.length+1) ⟨[],[],[],[]⟩ l with
 | error e=>rw[t]at j;exact j
 | ok q=>
  obtain⟨x,l1⟩:=q;rw[t]at j;obtain⟨i,J,g3⟩:=j;have o:=TJ J;simp only;cases I:CN l1 with
  | error e=>rw[I]at o;exact o
  | ok q=>
   obtain⟨r,l2⟩:=q;rw[I]at o;obtain⟨T,U,k3⟩:=o;have p:=S5 (l.length+1) (a:=[r]) (fun u R=>by rw[mS.1 R];exact T) U mR;simp only;cases C:FC (l.length+1) [r] l2 with
   | error e=>rw[C]at p;exact p
   | ok rs=>rw[C]at p;exact⟨⟨i.decl,i.marks,i.starts,i.same⟩,p⟩
theorem QF{sz:Nat}(R:sz<=8192):∀(f p:Nat) (l:List UInt8) {o:List Tk},p+l.length=sz->E5 sz f p l=.ok o->Ic o/\(∀t∈o,TQ t)/\o.length<=l.length+1
 | 0,_,_,_,_,i=>by cases i
 | f+1,p,l,o,hp,i=>by
  simp only[E5]at i;split at i
  ·injection i with i;subst i
   exact⟨rfl,fun t j=>by rw[mS.1 j];exact⟨mV,R⟩,mV⟩
  ·rename_i a1
   have a0:0<l.length:=by cases l with|nil=>simp at a1|cons _ _=>simp
   cases I:GY sz p l with
   | error e=>rw[I]at i;cases i
   | ok q=>
    obtain⟨k,n⟩:=q;have hn:=(Px I).2 a0;have a2:=Qs I mR;rw[I]at i;simp only at i;cases J:E5 sz f (p+n) (l.drop n) with
    | error e=>rw[J]at i;cases i
    | ok a3=>
     rw[J]at i;injection i with i;obtain⟨C,P,T⟩:=QF R f (p+n) (l.drop n) (by rw[List.length_drop];omega) J;rw[List.length_drop]at T;subst i;split
     ·exact⟨C,P,mR⟩
     ·rename_i U
      refine⟨?_,fun t j=>?_,mX⟩
      ·obtain⟨u,r,hu⟩:=C.cons
       rw[hu]at C ⊢;exact⟨U,C⟩
      ·rcases List.mem_cons.1 j with rfl|j
       ·exact⟨mX,by show p<=8192;omega⟩
       ·exact P t j
def bC{l:List UInt8}(h:tokens l=.ok i):Ql i:=by
 unfold tokens at h;split at h
 ·cases h
 ·rename_i t
  obtain⟨j,o,p⟩:=QF mR _ 0 l mR h;exact⟨j,o,mR⟩
theorem PK{C:AM->Bool}:∀(l:List Tk) (m:Option (Nat×Tk)) (T:List AM) {f:Bn},BI C m l T=.error f->f.1≠0
 | [],nK,T,f,h=>by cases h
 | [],nJ (m,I),T,f,h=>by
  unfold BI EB at h;by_cases p:C I.s=true
  ·rw[if_pos p]at h;cases h
  ·rw[if_neg p]at h;injection h with h;rw[<-h];simp
 | t::l,nK,T,f,h=>by
  unfold BI at h;cases i:Cv T t with
  | error e=>
   rw[i]at h;injection h with h;rw[<-h];unfold Cv at i;split at i
   ·injection i with i;rw[<-i];simp
   split at i
   ·injection i with i;rw[<-i];simp
   ·cases i
  | ok j=>rw[i]at h;exact PK l nK j h
 | t::l,nJ (m,I),T,f,h=>by
  have J:∀(o:Option (Nat×Tk)),(match Cv T t with | .error e=>Except.error e | .ok j=>BI C o l j)=.error f->f.1≠0:=by
   intro o h;cases i:Cv T t with
   | error e=>
    rw[i]at h;injection h with h;rw[<-h];unfold Cv at i;split at i
    ·injection i with i;rw[<-i];simp
    split at i
    ·injection i with i;rw[<-i];simp
    ·cases i
   | ok j=>rw[i]at h;exact PK l o j h
  unfold BI at h;split at h
  ·unfold EB at h
   by_cases p:C I.s=true
   ·rw[if_pos p]at h;exact J nK h
   ·rw[if_neg p]at h;injection h with h;rw[<-h];simp
  ·exact J (nJ (m,I)) h
theorem Vv(h:Gx x=.error f):f.1≠0:=by
 unfold Gx at h;cases i:BI (leftOf x) (BY x) x.decl [] with
 | error e=>
  rw[i]at h;simp only at h;split at h
  ·injection h with h;rw[<-h];simp
  ·injection h with h;rw[<-h];exact PK _ _ _ i
 | ok T=>
  rw[i]at h;simp only at h;split at h
  ·injection h with h;rw[<-h];simp
  ·cases h
theorem U2{j:AM->Bool}:∀(l:List Tk) (b:Bd) (k:Nat) {f:Bn},DV j b k l=.error f->f.1≠0
 | [],b,k,f,h=>by cases h
 | t::l,b,k,f,h=>by
  unfold DV at h;cases i:D9 j b t k with
  | error e=>
   rw[i]at h;injection h with h;rw[<-h];unfold D9 at i;split at i
   ·injection i with i;rw[<-i];simp
   split at i
   ·cases i
   split at i
   ·split at i
    ·injection i with i;rw[<-i];simp
    ·cases i
   split at i
   ·cases i
   ·injection i with i;rw[<-i];simp
  | ok o=>rw[i]at h;exact U2 l o (k+1) h
theorem cM{j:AM->Bool}{left:AM}{s:PS}(h:DY j b left s=.error f):f.1≠0:=by
 unfold DY at h;split at h
 ·injection h with h;rw[<-h];simp
 cases i:DV j b 0 s.l with
 | error e=>rw[i]at h;injection h with h;rw[<-h];exact U2 _ _ _ i
 | ok l=>
  rw[i]at h;simp only at h;split at h
  ·injection h with h;rw[<-h];simp
  ·cases h
theorem QD{j:AM->Bool}{left:AM}:∀(l:List PS) (b:Bd) {f:Bn},Fl j left b l=.error f->f.1≠0
 | [],b,f,h=>by cases h
 | s::l,b,f,h=>by
  unfold Fl at h;cases i:DY j b left s with
  | error e=>rw[i]at h;injection h with h;rw[<-h];exact cM i
  | ok o=>rw[i]at h;exact QD l o h
theorem Qg{o:AM->Bool}{D:Nat}:∀(l:List PR) (b:Bd) {f:Bn},Dg o D b l=.error f->f.1≠0
 | [],b,f,h=>by cases h
 | r::l,b,f,h=>by
  unfold Dg JY at h;cases i:ET D b r.left with
  | error e=>
   rw[i]at h;injection h with h;rw[<-h];unfold ET at i;split at i
   ·injection i with i;rw[<-i];simp
   split at i
   ·cases i
   split at i
   ·injection i with i;rw[<-i];simp
   ·cases i
  | ok p=>
   rw[i]at h;simp only at h;cases j:Fl o r.left.s p r.GL with
   | error e=>rw[j]at h;injection h with h;rw[<-h];exact QD _ _ j
   | ok t=>rw[j]at h;exact Qg l t h
theorem eL(h:Gn x=.error f):f.1≠0:=by
 unfold Gn at h;cases i:Gx x with
 | error e=>rw[i]at h;injection h with h;rw[<-h];exact Vv i
 | ok T=>
  rw[i]at h;simp only at h;cases j:Dg (leftOf x) T.length ⟨T,[],[]⟩ x.rules with
  | error e=>rw[j]at h;injection h with h;rw[<-h];exact Qg _ _ j
  | ok b=>rw[j]at h;cases h
def gW(h:x.q):DJ x.marks<=100000:=by
 have i:=h.marks;unfold DJ;split
 ·rename_i a m r e
  have:=i m (by rw[e];simp);omega
 ·omega
