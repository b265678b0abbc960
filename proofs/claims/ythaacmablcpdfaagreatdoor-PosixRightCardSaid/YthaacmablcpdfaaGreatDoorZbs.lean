/- What is possible in a state ahead of a terminal. A row that is being built in a box. -/
import Derived.Test.YthaacmablcpdfaaGreatDoorZbg
import Derived.Test.YthaacmablcpdfaaGreatDoorZbr
import Derived.Test.YthaacmablcpdfaaGreatDoorZbe
import Derived.TacticsIn
import Derived.TacticsInMore
import Derived.LoopNIn
import Derived.LoopIn
import Derived.OwnWalkIn
import Derived.Test.YthaacmablcpdfaaGreatDoorNm
namespace Go.Proofs.YthaacmablcpdfaaGreatDoor
open Go.RowKit
set_option linter.unusedVariables false
set_option maxRecDepth 100000
attribute [local go_sem] Oper.semAt_some
theorem Same.cell{A:Nat→Prop}{w w':World}(h:Same A w w'){b:Nat}(hb:A b)(j:Nat):w'.cell? ⟨b,j,none⟩=w.cell? ⟨b,j,none⟩:=World.cell?_of_block (h b hb)
theorem RowA.keep{A A':Nat→Prop}{w w':World}{v:Value}{n sz:Nat}{f f':Nat→Nat→Value→Prop}(h:RowA A w v n sz f)(hA:∀b,A b→A' b)(hs:w.heap.size≤w'.heap.size)(hm:Same A w w')(hf:∀k j x,k<n→j<sz→f k j x→f' k j x):RowA A' w' v n sz f':=by obtain⟨Ad,c,hv,hn,hm2,hr⟩:=h;refine⟨Ad,c,hv,hn,hm2,fun k hk=>?_⟩;obtain⟨b,off,hAd,hb,hlt,hx⟩:=hr k hk;refine⟨b,off,hAd,hA b hb,ltL hlt hs,fun j hj=>?_⟩;obtain⟨x,h1,h2⟩:=hx j hj;exact⟨x,(hm.cell hb _).trans h1,hf k j x hk hj h2⟩
theorem NumsA.keep{A A':Nat→Prop}{w w':World}{v:Value}{l:List Nat}(h:NumsA A w v l)(hA:∀b,A b→A' b)(hs:w.heap.size≤w'.heap.size)(hm:Same A w w'):NumsA A' w' v l:=by obtain⟨⟨⟨Ad,c,hv,hcc⟩,hsh,hro⟩,hb⟩:=h;refine⟨⟨⟨Ad,c,hv,fun k x hx=>?_⟩,hsh,hro⟩,fun b hb2 hl=>hA b (hb b hb2 hl)⟩;obtain⟨b,off,hAd,hlt,hcell⟩:=hcc k x hx;have hk:=(sG.1 hx).1;have h1:=hb b (by rw[hv,hAd];rfl) (by omega);exact⟨b,off,hAd,ltL hlt hs,(hm.cell h1 _).trans hcell⟩
def PrsA(A:Nat→Prop)(w:World)(v:Value)(l:List It):Prop:=RowA A w v l.length 2 (fun k j x=>x=.int .i64 ((if j=0 then(l.getD k (0,0)).1 else(l.getD k (0,0)).2:Nat):Int))
def LkA(A:Nat→Prop)(w:World)(m:Nat)(v:Value)(l:List (Nat×Nat)):Prop:=RowA A w v l.length 2 (fun k j x=>if j=0 then x=.int .i64 ((l.getD k (0,0)).1:Nat) else NumsA A w x (bitsL m (l.getD k (0,0)).2))
theorem PrsA.keep{A A':Nat→Prop}{w w':World}{v:Value}{l:List It}(h:PrsA A w v l)(hA:∀b,A b→A' b)(hs:w.heap.size≤w'.heap.size)(hm:Same A w w'):PrsA A' w' v l:=RowA.keep h hA hs hm (fun _ _ _ _ _ h=>h)
theorem LkA.keep{A A':Nat→Prop}{w w':World}{m:Nat}{v:Value}{l:List (Nat×Nat)}(h:LkA A w m v l)(hA:∀b,A b→A' b)(hs:w.heap.size≤w'.heap.size)(hm:Same A w w'):LkA A' w' m v l:=RowA.keep h hA hs hm (fun k j x _ _ hx=>by
 split at hx
 ·rename_i hj;rw[if_pos hj];exact hx
 ·rename_i hj;rw[if_neg hj];exact hx.keep hA hs hm)
theorem PrsA.form{A:Nat→Prop}{w:World}{v:Value}{l:List It}(h:PrsA A w v l):∃Ad c,v=.slice Ad l.length c∧l.length≤1000000:=by obtain⟨Ad,c,hv,-,h2,-⟩:=h;exact⟨Ad,c,hv,h2⟩
theorem LkA.form{A:Nat→Prop}{w:World}{m:Nat}{v:Value}{l:List (Nat×Nat)}(h:LkA A w m v l):∃Ad c,v=.slice Ad l.length c∧l.length≤1000000:=by obtain⟨Ad,c,hv,-,h2,-⟩:=h;exact⟨Ad,c,hv,h2⟩
theorem PrsA.at_{A:Nat→Prop}{w:World}{Ad:Option Addr}{n c:Nat}{l:List It}(h:PrsA A w (.slice Ad n c) l){k:Nat}{x:It}(hx:l[k]?=some x):∃b off,Ad=some ⟨b,off,none⟩∧A b∧b<w.heap.size∧w.cell? ⟨b,off+k*2,none⟩=some (.int .i64 x.1)∧w.cell? ⟨b,off+k*2+1,none⟩=some (.int .i64 x.2):=by
 obtain⟨Ad',c',hv,-,-,hr⟩:=h;cases hv
 have hk:=(sG.1 hx).1;obtain⟨b,off,hA,hAb,hlt,hc⟩:=hr k hk;obtain⟨y0,h0,e0⟩:=hc 0 (by omega);obtain⟨y1,h1,e1⟩:=hc 1 (by omega);have hg:l.getD k (0,0)=x:=by rw[dG,hx];rfl
 rw[hg]at e0 e1;refine⟨b,off,hA,hAb,hlt,?_,?_⟩
 ·rw[←Nat.add_zero (off+k*2),h0,e0];rfl
 ·rw[h1,e1];rfl
theorem LkA.at_{A:Nat→Prop}{w:World}{m:Nat}{Ad:Option Addr}{n c:Nat}{l:List (Nat×Nat)}(h:LkA A w m (.slice Ad n c) l){k:Nat}{x:Nat×Nat}(hx:l[k]?=some x):∃b off u,Ad=some ⟨b,off,none⟩∧A b∧b<w.heap.size∧w.cell? ⟨b,off+k*2,none⟩=some (.int .i64 x.1)∧w.cell? ⟨b,off+k*2+1,none⟩=some u∧NumsA A w u (bitsL m x.2):=by
 obtain⟨Ad',c',hv,-,-,hr⟩:=h;cases hv
 have hk:=(sG.1 hx).1;obtain⟨b,off,hA,hAb,hlt,hc⟩:=hr k hk;obtain⟨y0,h0,e0⟩:=hc 0 (by omega);obtain⟨y1,h1,e1⟩:=hc 1 (by omega);have hg:l.getD k (0,0)=x:=by rw[dG,hx];rfl
 rw[hg]at e0 e1;refine⟨b,off,y1,hA,hAb,hlt,?_,h1,?_⟩
 ·rw[←Nat.add_zero (off+k*2),h0,e0]
 ·rw[if_neg (by omega)]at e1;exact e1
def shO(t:Nat)(tr:List It):List It:=(if 0<t then tr.filter (fun x=>x.1==t) else[]).map fun x=>(1,x.2)
def acO(own t:Nat)(lk:List (Nat×Nat)):List It:=(lk.filter fun x=>x.1==own&&x.2.testBit t).map fun _=>(3,0)
def reO(own t:Nat)(lk:List (Nat×Nat)):List It:=(lk.filter fun x=>x.1 != own&&x.2.testBit t).map fun x=>(2,x.1)
theorem actsK_eq(g:Gz)(tr:List It)(lk:List (Nat×Nat))(t:Nat):g.actsK tr lk t=shO t tr++acO g.R.length t lk++reO g.R.length t lk:=rfl
theorem shO_take{t:Nat}{tr:List It}{k:Nat}{x:It}(h:tr[k]?=some x):shO t (tr.take (k+1))=shO t (tr.take k)++(if 0<t∧x.1=t then[(1,x.2)] else[]):=by
 unfold shO;rw[List.take_add_one,h];by_cases ht:0<t
 ·simp only[if_pos ht,Option.toList_some,List.filter_append,mpA]
  by_cases hx:x.1=t
  ·simp[hx,ht]
  ·simp[hx]
 ·simp[ht]
theorem acO_take{own t:Nat}{lk:List (Nat×Nat)}{k:Nat}{x:Nat×Nat}(h:lk[k]?=some x):acO own t (lk.take (k+1))=acO own t (lk.take k)++(if x.1=own∧x.2.testBit t=true then[(3,0)] else[]):=by
 unfold acO;rw[List.take_add_one,h];simp only[Option.toList_some,List.filter_append,mpA];by_cases hx:x.1=own
 ·cases hb:x.2.testBit t<;>simp[hx,hb]
 ·simp[hx]
theorem reO_take{own t:Nat}{lk:List (Nat×Nat)}{k:Nat}{x:Nat×Nat}(h:lk[k]?=some x):reO own t (lk.take (k+1))=reO own t (lk.take k)++(if x.1≠own∧x.2.testBit t=true then[(2,x.1)] else[]):=by
 unfold reO;rw[List.take_add_one,h];simp only[Option.toList_some,List.filter_append,mpA];by_cases hx:x.1=own
 ·simp[hx]
 ·cases hb:x.2.testBit t<;>simp[hx,hb]
theorem take_pre{β:Type}{f:List It→List β}{l:List It}(hf:∀k x,l[k]?=some x→f (l.take k) <+: f (l.take (k+1))):∀n,n≤l.length→f (l.take (l.length-n)) <+: f l
 | 0,_=>by simp
 | n+1,h=>by have h1:=take_pre hf n (by omega);have h2:=hf (l.length-(n+1)) _ (eG (by omega));rw[show l.length-(n+1)+1=l.length-n by omega]at h2;exact h2.trans h1
theorem shO_pre(t:Nat)(tr:List It)(k:Nat)(hk:k≤tr.length):shO t (tr.take k) <+: shO t tr:=by have:=take_pre (f:=shO t) (l:=tr) (fun k x h=>by rw[shO_take h];exact List.prefix_append _ _) (tr.length-k) (by omega);rwa [show tr.length-(tr.length-k)=k by omega]at this
theorem acO_pre(own t:Nat)(lk:List (Nat×Nat))(k:Nat)(hk:k≤lk.length):acO own t (lk.take k) <+: acO own t lk:=by have:=take_pre (f:=acO own t) (l:=lk) (fun k x h=>by rw[acO_take h];exact List.prefix_append _ _) (lk.length-k) (by omega);rwa [show lk.length-(lk.length-k)=k by omega]at this
theorem reO_pre(own t:Nat)(lk:List (Nat×Nat))(k:Nat)(hk:k≤lk.length):reO own t (lk.take k) <+: reO own t lk:=by have:=take_pre (f:=reO own t) (l:=lk) (fun k x h=>by rw[reO_take h];exact List.prefix_append _ _) (lk.length-k) (by omega);rwa [show lk.length-(lk.length-k)=k by omega]at this
theorem mem_bits{m S t:Nat}(h:t<m):(t∈bitsL m S)↔S.testBit t=true:=by unfold bitsL;simp[h]
theorem bits_dec{m S t:Nat}(h:t<m):decide (t∈bitsL m S)=S.testBit t:=by
 cases hb:S.testBit t with
 | true=>exact decide_eq_true ((mem_bits h).2 hb)
 | false=>exact decide_eq_false (fun h2=>by rw[(mem_bits h).1 h2]at hb;cases hb)
def encA(x:It):Array Value:=#[.agg #[.int .i64 x.1,.int .i64 x.2]]
set_option maxHeartbeats 3200000 in
theorem poss1_seq{A:Nat→Prop}{w:World}{sb tb kb ob own t m:Nat}{iv tv kv:Value}{tr:List It}{lk:List (Nat×Nat)}(ht:t<m)(hm:m≤1000)(hA:∀b,A b→b<w.heap.size)(a1:A sb)(a2:A tb)(a3:A kb)(a4:A ob)
  (b1:Blk w sb 71 #[iv,tv]) (b2:Blk w tb 3 #[.int .i64 t]) (b3:Blk w kb 76 #[kv]) (b4:Blk w ob 3 #[.int .i64 own]) (htr:PrsA A w tv tr) (hlk:LkA A w m kv lk) :
  Seq Tryz.prog 63 #[.pointer (some ⟨sb,0,none⟩),.pointer (some ⟨tb,0,none⟩),.pointer (some ⟨kb,0,none⟩),.pointer (some ⟨ob,0,none⟩)] encA (shO t tr++acO own t lk++reO own t lk) A w:=by
 intro l J Jx W hW hJ hJx hY h0;obtain⟨At,ct,rfl,hlt⟩:=htr.form;obtain⟨Ak,ck,rfl,hlk2⟩:=hlk.form;have hws:=hW.size;have hsm0:Same A w W:=fun b hb=>hW.block b (hA b hb) id
 have hAW:∀b,A b→b<W.heap.size:=fun b hb=>ltL (hA b hb) hws
 have hTR:=htr.keep (fun _=>id) hws hsm0;have hLK:=hlk.keep (fun _=>id) hws hsm0;obtain⟨n,hn⟩:∃n,tr.length=n:=⟨_,rfl⟩
 obtain⟨q,hq⟩:∃q,lk.length=q:=⟨_,rfl⟩
 rw[hn]at hTR hlt;rw[hq]at hLK hlk2;have HBX:Hid (∀y:World,W.heap.size≤y.heap.size→Same A W y→sb<y.heap.size∧tb<y.heap.size∧kb<y.heap.size∧ob<y.heap.size∧y.cell? ⟨sb,1,none⟩=some (.slice At n ct)∧y.cell? ⟨tb,0,none⟩=some (.int .i64 t)∧y.cell? ⟨kb,0,none⟩=some (.slice Ak q ck)∧y.cell? ⟨ob,0,none⟩=some (.int .i64 own)):=Hd (fun y hy hs=>by
  refine⟨ltL (hAW _ a1) hy,ltL (hAW _ a2) hy,ltL (hAW _ a3) hy,ltL (hAW _ a4) hy,?_,?_,?_,?_⟩
  ·rw[hs.cell a1,hsm0.cell a1,←hn];exact b1.cell 1
  ·rw[hs.cell a2,hsm0.cell a2];exact b2.cell 0
  ·rw[hs.cell a3,hsm0.cell a3,←hq];exact b3.cell 0
  ·rw[hs.cell a4,hsm0.cell a4];exact b4.cell 0)
 have HY:=Hd hY;have HJ:=Hd hJ;have HJX:=Hd hJx;have HJ0:=Hd h0;have HTR:=Hd hTR;have HLK:=Hd hLK;have HAW:=Hd hAW;have HN:=Hd hn;have HQ:=Hd hq;have HT:=Hd ht;have HM:=Hd hm;obtain⟨xs,hxs⟩:∃xs,shO t tr++acO own t lk++reO own t lk=xs:=⟨_,rfl⟩
 rw[hxs]at HY ⊢;have HXS:=Hd hxs;have HYY:Hid (∀(pre:List It) (x:It) (y:World) (o:Obj),pre++[x] <+: xs→W.heap.size≤y.heap.size→Same A W y→J pre A y→YieldAt Fence.wide 0 Tryz.prog l (encA x) (y.alloc o) fun e W'=>
   W.heap.size≤W'.heap.size∧Same A W W'∧((e=.returned (.bool true)∧J (pre++[x]) A W')∨(e=.returned (.bool false)∧Jx () A W'))):=Hd (fun pre x y o hp hy hs hj=>by
  have hb:=below_alloc y o;have hlt:∀b,A b→b<y.heap.size:=fun b hb=>ltL (HAW.out b hb) hy
  refine(HY.out pre x A (y.alloc o) (HJ.out.step hj (Chg.of_below hb)) hp (fun _=>id) (fun b hb2=>ltL (hlt b hb2) hb.size)).mono ?_;rintro e W' ⟨h1,h2,h3⟩;exact⟨leT hy (leT hb.size h1),hs.trans (Same.trans (fun b hb2=>hb.block b (hlt b hb2)) h2),h3⟩)
 obtain⟨s1,s2,s3,s4,c1,c2,c3,c4⟩:=HBX.out W (leR _) (Same.refl _ _);clear hY hJ hJx h0 hTR hLK hAW hn hq ht hm hxs HY hW hws hsm0 htr hlk hA a1 a2 a3 a4 b1 b2 b3 b4;refine callsIn_of_wp Tryz.func63 rfl trivial ?_ rfl;simp only[Tryz.ntmps63,List.size_toArray,List.length_cons,List.length_nil,Nat.reduceAdd,Nat.reduceSub,Array.replicate_succ,Array.replicate_zero,List.push_toArray,List.append_toArray,List.nil_append,List.cons_append]
 gi_wp2
 gi_loopw [15] (fun i wr=>∃k:Nat,k≤n∧i=.int .i64 k∧Hid (W.heap.size≤wr.heap.size∧Same A W wr∧J (shO t (tr.take k)) A wr)) (fun i _=>n-(intOf i).toNat)
 case atStart=>exact⟨0,zeL _,rfl,Hd ⟨leR _,Same.refl _ _,by simpa [shO] using HJ0.out⟩⟩
 case round=>
  obtain⟨k,hk,rfl,HS⟩:=hrel;obtain⟨s1,s2,s3,s4,c1,c2,c3,c4⟩:=HBX.out wr HS.out.1 HS.out.2.1;by_cases hlt1:k<n
  ·obtain⟨⟨x1,x2⟩,hx⟩:∃x,tr[k]?=some x:=⟨_,eG (by rw[HN.out];exact hlt1)⟩
   obtain⟨b,off,rfl,hAb,hb0,d0,d1⟩:=(HTR.out.keep (A':=A) (fun _=>id) HS.out.1 HS.out.2.1).at_ hx;have hsn:=shO_take (t:=t) hx;have hpp:shO t (tr.take (k+1)) <+: xs:=by rw[←HXS.out,List.append_assoc];exact(shO_pre t tr (k+1) (by rw[HN.out];omega)).trans (List.prefix_append _ _)
   simp only at d0 d1 hsn;have HSN:=Hd hsn;have HPP:=Hd hpp;clear hsn hpp hx;have HNO:Hid (¬(0<t∧x1=t)→∀y,Below wr.heap.size wr y→W.heap.size≤y.heap.size∧Same A W y∧J (shO t (tr.take (k+1))) A y):=Hd (fun hno y hy=>by rw[HSN.out,if_neg hno,List.append_nil];exact⟨leT HS.out.1 hy.size,HS.out.2.1.trans (fun b hb=>hy.block b (ltL (HAW.out b hb) HS.out.1)),HJ.out.step HS.out.2.2 (Chg.of_below hy)⟩)
   by_cases hz:0<t
   ·have hz1:(0:Int)<(t:Int):=by omega
    by_cases he:x1=t
    ·have he1:((x1:Int)==(t:Int))=true:=by rw[he];simp
     have hy:=HYY.out (shO t (tr.take k)) (1,x2) wr (.cells #[.int .i64 x1,.int .i64 x2] 127) (by have h:=HPP.out;rw[HSN.out,if_pos ⟨hz,he⟩]at h;exact h) HS.out.1 HS.out.2.1 HS.out.2.2;obtain⟨fn,tmps,assign,body,hy,hR⟩:=hy;rw[show encA (1,x2)=#[.agg #[.int .i64 1,.int .i64 x2]] from rfl]at hy;have HR:=Hd hR;have HE:=Hd (And.intro hz he);clear hR he hz
     gi_wp2_with fail
     refine⟨rfl,HR.out.mono ?_⟩;rintro e w3 ⟨hs3,hsm3,(⟨rfl,hJ3⟩|⟨rfl,hJ3⟩)⟩
     ·have H3:Hid (W.heap.size≤w3.heap.size∧Same A W w3∧J (shO t (tr.take (k+1))) A w3):=Hd ⟨hs3,hsm3,by rw[HSN.out,if_pos HE.out];exact hJ3⟩
      clear hs3 hsm3 hJ3 HR hy
      gi_wp2
      go_roundw
      case rel=>exact⟨k+1,by omega,by go_num,H3⟩
      case measure=>simp[intOf];omega
     ·have H3:=Hd (And.intro hs3 (And.intro hsm3 hJ3))
      clear hs3 hsm3 hJ3 HR hy
      gi_wp2
      refine bodyPost_ret (results_none rfl _ _ _) rfl ?_;exact⟨⟨_,rfl⟩,A,fun _=>id,fun b hb=>ltL (HAW.out b hb) H3.out.1,.inr H3.out.2.2⟩
    ·have he1:((x1:Int)==(t:Int))=false:=by rw[bN];omega
     have HE:=Hd he;clear he
     gi_wp2
     repeat (first|(refine⟨fun _ h=>(by cases h),?_⟩;try gi_wp2)|(refine⟨trivial,?_⟩;try gi_wp2))
     refine⟨⟨k+1,by omega,by go_num,Hd (HNO.out (fun h=>HE.out h.2) _ (below_alloc _ _))⟩,?_⟩;simp[intOf];omega
   ·have hz1:¬(0:Int)<(t:Int):=by omega
    have HZ:=Hd hz;clear hz
    gi_wp2
    repeat (first|(refine⟨fun _ h=>(by cases h),?_⟩;try gi_wp2)|(refine⟨trivial,?_⟩;try gi_wp2))
    refine⟨⟨k+1,by omega,by go_num,Hd (HNO.out (fun h=>HZ.out h.1) _ (below_alloc _ _))⟩,?_⟩;simp[intOf];omega
  ·obtain rfl:k=n:=by omega
   have H1:Hid (W.heap.size≤wr.heap.size∧Same A W wr∧J (shO t tr) A wr):=Hd (by have h:=HS.out;rw[tkL (by rw[HN.out];exact leR _)]at h;exact h)
   clear HS;rename World=>w1
   gi_wp2
   gi_loopw [38] (fun i wr=>∃k:Nat,k≤q∧i=.int .i64 k∧Hid (W.heap.size≤wr.heap.size∧Same A W wr∧J (shO t tr++acO own t (lk.take k)) A wr)) (fun i _=>q-(intOf i).toNat)
   case atStart=>exact⟨0,zeL _,rfl,Hd ⟨H1.out.1,H1.out.2.1,by simpa [acO] using H1.out.2.2⟩⟩
   case round=>
    obtain⟨k,hk,rfl,HS⟩:=hrel;obtain⟨s1,s2,s3,s4,c1,c2,c3,c4⟩:=HBX.out wr HS.out.1 HS.out.2.1;by_cases hlt2:k<q
    ·obtain⟨⟨x1,x2⟩,hx⟩:∃x,lk[k]?=some x:=⟨_,eG (by rw[HQ.out];exact hlt2)⟩
     obtain⟨b,off,u,rfl,hAb,hb0,d0,d1,hu⟩:=(HLK.out.keep (A':=A) (fun _=>id) HS.out.1 HS.out.2.1).at_ hx;have hsn:=acO_take (own:=own) (t:=t) hx;have hpp:shO t tr++acO own t (lk.take (k+1)) <+: xs:=by rw[←HXS.out];exact(List.prefix_append_right_inj _ |>.2 (acO_pre own t lk (k+1) (by rw[HQ.out];omega))).trans (List.prefix_append _ _)
     simp only at d0 d1 hsn hu;obtain⟨Au,cu,rfl⟩:=hu.shape;have HC:Hid (∀y,Below wr.heap.size wr y→Calls Tryz.prog 64 #[.slice Au (bitsL m x2).length cu,.int .i64 t] y fun e w'=>e=.returned (.bool (x2.testBit t))∧w'=y):=Hd (fun y hy=>by have h:=contains_any (hu.1.later hy) (leT (bitsL_len m x2) (by have:=HM.out;omega)) t;rwa [show decide (t∈bitsL m x2)=x2.testBit t from bits_dec HT.out]at h)
     have HSN:=Hd hsn;have HPP:=Hd hpp;clear hsn hpp hx hu;generalize (bitsL m x2).length=nu at *;have HNO:Hid (¬(x1=own∧x2.testBit t=true)→∀y,Below wr.heap.size wr y→W.heap.size≤y.heap.size∧Same A W y∧J (shO t tr++acO own t (lk.take (k+1))) A y):=Hd (fun hno y hy=>by rw[HSN.out,if_neg hno,List.append_nil];exact⟨leT HS.out.1 hy.size,HS.out.2.1.trans (fun b hb=>hy.block b (ltL (HAW.out b hb) HS.out.1)),HJ.out.step HS.out.2.2 (Chg.of_below hy)⟩)
     by_cases he:x1=own
     ·have he1:((x1:Int)==(own:Int))=true:=by rw[he];simp
      cases hb:x2.testBit t with
      | false=>
       rw[hb]at HC;have HE:=Hd hb;clear hb he
       gi_wp2_with (refine⟨trivial,rfl,?_⟩;gi_at_call 64;refine(callsIn_wide.2 (HC.out _ (below_alloc _ _))).mono ?_;rintro e w1 ⟨rfl,rfl⟩)
       gi_wp2
       repeat (first|(refine⟨fun _ h=>(by cases h),?_⟩;try gi_wp2)|(refine⟨trivial,?_⟩;try gi_wp2))
       refine⟨⟨k+1,by omega,by go_num,Hd (HNO.out (fun h=>by have h2:=h.2;rw[HE.out]at h2;cases h2) _ (below_alloc _ _))⟩,?_⟩;simp[intOf];omega
      | true=>
       rw[hb]at HC;have hy:=HYY.out (shO t tr++acO own t (lk.take k)) (3,0) wr (.cells #[.int .i64 x1,.slice Au nu cu] 129) (by have h:=HPP.out;rw[HSN.out,if_pos ⟨he,hb⟩,←List.append_assoc]at h;exact h) HS.out.1 HS.out.2.1 HS.out.2.2;obtain⟨fn,tmps,assign,body,hy,hR⟩:=hy;rw[show encA (3,0)=#[.agg #[.int .i64 3,.int .i64 0]] from rfl]at hy;have HR:=Hd hR;have HE:=Hd (And.intro he hb);clear hR he hb
       gi_wp2_with (refine⟨trivial,rfl,?_⟩;gi_at_call 64;refine(callsIn_wide.2 (HC.out _ (below_alloc _ _))).mono ?_;rintro e w1 ⟨rfl,rfl⟩)
       refine⟨rfl,HR.out.mono ?_⟩;rintro e w3 ⟨hs3,hsm3,(⟨rfl,hJ3⟩|⟨rfl,hJ3⟩)⟩
       ·have H3:Hid (W.heap.size≤w3.heap.size∧Same A W w3∧J (shO t tr++acO own t (lk.take (k+1))) A w3):=Hd ⟨hs3,hsm3,by rw[HSN.out,if_pos HE.out,←List.append_assoc];exact hJ3⟩
        clear hs3 hsm3 hJ3 HR hy
        gi_wp2
        go_roundw
        case rel=>exact⟨k+1,by omega,by go_num,H3⟩
        case measure=>simp[intOf];omega
       ·have H3:=Hd (And.intro hs3 (And.intro hsm3 hJ3))
        clear hs3 hsm3 hJ3 HR hy
        gi_wp2
        refine bodyPost_ret (results_none rfl _ _ _) rfl ?_;exact⟨⟨_,rfl⟩,A,fun _=>id,fun b hb=>ltL (HAW.out b hb) H3.out.1,.inr H3.out.2.2⟩
     ·have he1:((x1:Int)==(own:Int))=false:=by rw[bN];omega
      have HE:=Hd he;clear he
      gi_wp2
      repeat (first|(refine⟨fun _ h=>(by cases h),?_⟩;try gi_wp2)|(refine⟨trivial,?_⟩;try gi_wp2))
      refine⟨⟨k+1,by omega,by go_num,Hd (HNO.out (fun h=>HE.out h.1) _ (below_alloc _ _))⟩,?_⟩;simp[intOf];omega
    ·obtain rfl:q=k:=by omega
     have H2:Hid (W.heap.size≤wr.heap.size∧Same A W wr∧J (shO t tr++acO own t lk) A wr):=Hd (by have h:=HS.out;rw[tkL (by rw[HQ.out];exact leR _)]at h;exact h)
     clear HS;rename World=>w2
     gi_wp2
     gi_loopw [61] (fun i wr=>∃k:Nat,k≤q∧i=.int .i64 k∧Hid (W.heap.size≤wr.heap.size∧Same A W wr∧J (shO t tr++acO own t lk++reO own t (lk.take k)) A wr)) (fun i _=>q-(intOf i).toNat)
     case atStart=>exact⟨0,zeL _,rfl,Hd ⟨H2.out.1,H2.out.2.1,by simpa [reO] using H2.out.2.2⟩⟩
     case round=>
      obtain⟨k,hk,rfl,HS⟩:=hrel;obtain⟨s1,s2,s3,s4,c1,c2,c3,c4⟩:=HBX.out wr HS.out.1 HS.out.2.1;by_cases hlt3:k<q
      ·obtain⟨⟨x1,x2⟩,hx⟩:∃x,lk[k]?=some x:=⟨_,eG (by rw[HQ.out];exact hlt3)⟩
       obtain⟨b,off,u,rfl,hAb,hb0,d0,d1,hu⟩:=(HLK.out.keep (A':=A) (fun _=>id) HS.out.1 HS.out.2.1).at_ hx;have hsn:=reO_take (own:=own) (t:=t) hx;have hpp:shO t tr++acO own t lk++reO own t (lk.take (k+1)) <+: xs:=by rw[←HXS.out];exact(List.prefix_append_right_inj _).2 (reO_pre own t lk (k+1) (by rw[HQ.out];omega))
       simp only at d0 d1 hsn hu;obtain⟨Au,cu,rfl⟩:=hu.shape;have HC:Hid (∀y,Below wr.heap.size wr y→Calls Tryz.prog 64 #[.slice Au (bitsL m x2).length cu,.int .i64 t] y fun e w'=>e=.returned (.bool (x2.testBit t))∧w'=y):=Hd (fun y hy=>by have h:=contains_any (hu.1.later hy) (leT (bitsL_len m x2) (by have:=HM.out;omega)) t;rwa [show decide (t∈bitsL m x2)=x2.testBit t from bits_dec HT.out]at h)
       have HSN:=Hd hsn;have HPP:=Hd hpp;clear hsn hpp hx hu;generalize (bitsL m x2).length=nu at *;have HNO:Hid (¬(x1≠own∧x2.testBit t=true)→∀y,Below wr.heap.size wr y→W.heap.size≤y.heap.size∧Same A W y∧J (shO t tr++acO own t lk++reO own t (lk.take (k+1))) A y):=Hd (fun hno y hy=>by rw[HSN.out,if_neg hno,List.append_nil];exact⟨leT HS.out.1 hy.size,HS.out.2.1.trans (fun b hb=>hy.block b (ltL (HAW.out b hb) HS.out.1)),HJ.out.step HS.out.2.2 (Chg.of_below hy)⟩)
       by_cases he:x1=own
       ·have he1:((x1:Int) != (own:Int))=false:=by rw[he];simp
        have HE:=Hd he;clear he
        gi_wp2
        repeat (first|(refine⟨fun _ h=>(by cases h),?_⟩;try gi_wp2)|(refine⟨trivial,?_⟩;try gi_wp2))
        refine⟨⟨k+1,by omega,by go_num,Hd (HNO.out (fun h=>h.1 HE.out) _ (below_alloc _ _))⟩,?_⟩;simp[intOf];omega
       ·have he1:((x1:Int) != (own:Int))=true:=by rw[bne_iff_ne];omega
        cases hb:x2.testBit t with
        | false=>
         rw[hb]at HC;have HE:=Hd hb;clear hb he
         gi_wp2_with (refine⟨trivial,rfl,?_⟩;gi_at_call 64;refine(callsIn_wide.2 (HC.out _ (below_alloc _ _))).mono ?_;rintro e w1 ⟨rfl,rfl⟩)
         gi_wp2
         repeat (first|(refine⟨fun _ h=>(by cases h),?_⟩;try gi_wp2)|(refine⟨trivial,?_⟩;try gi_wp2))
         refine⟨⟨k+1,by omega,by go_num,Hd (HNO.out (fun h=>by have h2:=h.2;rw[HE.out]at h2;cases h2) _ (below_alloc _ _))⟩,?_⟩;simp[intOf];omega
        | true=>
         rw[hb]at HC;have hy:=HYY.out (shO t tr++acO own t lk++reO own t (lk.take k)) (2,x1) wr (.cells #[.int .i64 x1,.slice Au nu cu] 129) (by have h:=HPP.out;rw[HSN.out,if_pos ⟨he,hb⟩,←List.append_assoc]at h;exact h) HS.out.1 HS.out.2.1 HS.out.2.2;obtain⟨fn,tmps,assign,body,hy,hR⟩:=hy;rw[show encA (2,x1)=#[.agg #[.int .i64 2,.int .i64 x1]] from rfl]at hy;have HR:=Hd hR;have HE:=Hd (And.intro he hb);clear hR he hb
         gi_wp2_with (refine⟨trivial,rfl,?_⟩;gi_at_call 64;refine(callsIn_wide.2 (HC.out _ (below_alloc _ _))).mono ?_;rintro e w1 ⟨rfl,rfl⟩)
         refine⟨rfl,HR.out.mono ?_⟩;rintro e w3 ⟨hs3,hsm3,(⟨rfl,hJ3⟩|⟨rfl,hJ3⟩)⟩
         ·have H3:Hid (W.heap.size≤w3.heap.size∧Same A W w3∧J (shO t tr++acO own t lk++reO own t (lk.take (k+1))) A w3):=Hd ⟨hs3,hsm3,by rw[HSN.out,if_pos HE.out,←List.append_assoc];exact hJ3⟩
          clear hs3 hsm3 hJ3 HR hy
          gi_wp2
          go_roundw
          case rel=>exact⟨k+1,by omega,by go_num,H3⟩
          case measure=>simp[intOf];omega
         ·have H3:=Hd (And.intro hs3 (And.intro hsm3 hJ3))
          clear hs3 hsm3 hJ3 HR hy
          gi_wp2
          refine bodyPost_ret (results_none rfl _ _ _) rfl ?_;exact⟨⟨_,rfl⟩,A,fun _=>id,fun b hb=>ltL (HAW.out b hb) H3.out.1,.inr H3.out.2.2⟩
      ·obtain rfl:k=q:=by omega
       have H1:Hid (W.heap.size≤wr.heap.size∧Same A W wr∧J xs A wr):=Hd (by have h:=HS.out;rw[tkL (by rw[HQ.out];exact leR _),HXS.out]at h;exact h)
       gi_wp2
       refine bodyPost_end (results_none rfl _ _ _) rfl ?_;exact⟨⟨_,rfl⟩,A,fun _=>id,fun b hb=>ltL (HAW.out b hb) H1.out.1,.inl H1.out.2.2⟩
attribute [local go_sem] Oper.semAt_some
def OutM(T m:Nat)(w:World)(n:Nat)(xs:List Value)(o:Value)(wr:World):Prop:=∃A c,o=.slice A n c∧wr.ownsRow w.heap.size T m (.slice A n c) n xs∧Below w.heap.size w wr
def OutBox(T m tb:Nat)(w:World)(bx n:Nat)(xs:List Value)(A:Nat→Prop)(wr:World):Prop:=
 w.heap.size≤bx∧¬A bx∧∃o,Blk wr bx tb #[o]∧OutM T m w n xs o wr∧∀b,o.ownBlock=some b→¬A b
theorem OutBox.shy{T m tb bx n B:Nat}{w W W':World}{xs:List Value}{A A':Nat→Prop}(h:OutBox T m tb w bx n xs A W)(hB:w.heap.size≤B)(hc:Chg (fun b=>B≤b∧A b) W W')(hA:∀b,A' b→A b∨W.heap.size≤b):OutBox T m tb w bx n xs A' W':=by obtain⟨h1,h2,o,h3,h4,h5⟩:=h;obtain⟨Ao,c,rfl,h6,h7⟩:=h4;refine⟨h1,fun h=>(hA _ h).elim h2 (by have:=h3.lt;omega),_,hc.blk h3 (fun h=>h2 h.2),⟨Ao,c,rfl,hc.own h6 (fun g hg h=>h5 g hg h.2),h7.trans (hc.below h7.size (fun k hk h=>by omega))⟩,fun b hb h=>(hA _ h).elim (h5 b hb) (by have:=(own_lt h6 b hb).1;omega)⟩
theorem OutBox.put{T m tb bx n N:Nat}{w W W1 W2:World}{xs ys:List Value}{A:Nat→Prop}{A2:Option Addr}{c2:Nat}{v:Value}(hbx:w.heap.size≤bx)(hA:¬A bx)(hb:Blk W bx tb #[v])(hv:∀b,v.ownBlock=some b→¬A b)(hlt:∀b,A b→b<W.heap.size)(ho:W.ownsRow w.heap.size T m v n xs)
  (hw:Below w.heap.size w W) (h1:Chg (fun _=>False) W W1) (r2:W1.grownBy W2 v.ownBlock) (r3:(Value.slice A2 N c2).ownBlock=v.ownBlock∨(Value.slice A2 N c2).ownBlock=some W1.heap.size) (r1:W2.ownsRow w.heap.size T m (.slice A2 N c2) N ys) (hT:T≠tb) :
  OutBox T m tb w bx N ys A (W2.setCell ⟨bx,0,none⟩ (.slice A2 N c2))∧Chg (fun b=>w.heap.size≤b∧¬A b) W (W2.setCell ⟨bx,0,none⟩ (.slice A2 N c2)):=by
 have hgx:v.ownBlock≠some bx:=own_blk_ne ho hb hT;have hz1:=h1.size;have hblt:=hb.lt;have hb2:Blk W2 bx tb #[v]:=(Chg.of_grown r2).blk (h1.blk hb id) hgx;have hgx2:(Value.slice A2 N c2).ownBlock≠some bx:=by
  rcases r3 with r3|r3<;>rw[r3]
  ·exact hgx
  ·intro h
   have:=Option.some.inj h;omega
 have hX:∀b,v.ownBlock=some b→w.heap.size≤b∧¬A b:=fun b h=>⟨(own_lt ho b h).2,hv b h⟩
 have hX2:∀b,(Value.slice A2 N c2).ownBlock=some b→w.heap.size≤b∧¬A b:=fun b h=>by
  rcases r3 with r3|r3
  ·exact hX b (by rw[←r3];exact h)
  ·rw[r3]at h
   have:=Option.some.inj h;have hs:=hw.size;exact⟨by omega,fun hA'=>by have:=hlt b hA';omega⟩
 have hc3:Chg (fun b=>w.heap.size≤b∧¬A b) W W2:=(h1.mono (fun _=>False.elim)).next ((Chg.of_grown r2).mono hX);have hc4:Chg (fun b=>w.heap.size≤b∧¬A b) W (W2.setCell ⟨bx,0,none⟩ (.slice A2 N c2)):=hc3.set (p:=⟨bx,0,none⟩) (.inr ⟨hbx,hA⟩) _;refine⟨⟨hbx,hA,_,by simpa using hb2.set_ 0 (.slice A2 N c2),⟨A2,c2,rfl,own_far r1 (p:=⟨bx,0,none⟩) hgx2 _,hw.trans (hc4.below hw.size (fun k hk h=>by omega))⟩,fun b hb=>(hX2 b hb).2⟩,hc4⟩
theorem same_of_chg{A:Nat→Prop}{B:Nat}{W W':World}(h:Chg (fun b=>B≤b∧¬A b) W W')(hlt:∀b,A b→b<W.heap.size):Same A W W':=fun b hb=>h.block b (hlt b hb) (fun h=>h.2 hb)
theorem OutBox.fin2{T m tb bx n:Nat}{w W:World}{xs:List Value}{A:Nat→Prop}(h:OutBox T m tb w bx n xs A W){D:Nat}(hD:w.heap.size≤D)(hAD:A D)(o':Obj):∃o,W.cell? ⟨bx,0,none⟩=some o∧OutM T m w n xs o (W.putObj D o'):=by
 have h2:OutBox T m tb w bx n xs A (W.putObj D o'):=h.shy (leR _) ((Chg.refl _ _).put (.inr ⟨hD,hAD⟩) _) (fun _=>.inl);have hDb:D≠bx:=fun e=>h.2.1 (e▸hAD)
 obtain⟨-,-,o,hbo,hoo,-⟩:=h;obtain⟨-,-,o2,hbo2,hoo2,-⟩:=h2;have ho2:o2=o:=by have:=hbo2;unfold Blk at this;rw[World.putObj_heap_other (fun h=>hDb h.symm),show W.heap[bx]?=some (.cells #[o] tb (0,0)) from hbo]at this;simpa using this.symm
 have b0:=hbo.cell 0;simp at b0;exact⟨o,b0,by rw[←ho2];exact hoo2⟩
section
variable {F:Fence} {k:Nat}
theorem wpIn_app{P:Program}{w:World}{o:Oper}{a:Act}{K:Act→World→Prop}{Q:Exit→Act→World→Prop}{t e:TypeId}{size bytes:Nat}(E:El P t e size bytes)(s x:Operand)
  (ho:o.op=.call {callee:=.builtin .append,args:=#[s,x],argTypes:=#[t,t]}) {base n m N:Nat} {v src:Value} {xs news:List Value} (hs:a.eval s=v) (hx:a.eval x=src)
  (hown:w.ownsRow base e size v n xs) (hsrc:SrcOK w src m size news) (hN:n+m=N) (h63:N≤maxLen) (hbytes:N*bytes≤140737488355328) (hbase:base≤w.heap.size)
  (h:∀A c w',w'.ownsRow base e size (.slice A N c) N (xs++news)→Keeps base [e] w w'→(w.grownBy w' v.ownBlock∧((Value.slice A N c).ownBlock=v.ownBlock∨(Value.slice A N c).ownBlock=some w.heap.size))→K (a.put o.dst (.slice A N c)) w'):o.wpIn F k P a w K Q:=by
 obtain⟨A,c,w',hr,r1,r2,r3⟩:=run_app (P:=P) (ty:=o.type) E hown hsrc hN h63 hbytes hbase;unfold Oper.wpIn;refine⟨?_,?_⟩
 ·simp[Oper.about,ho,resolve,Target.leads,Sem.run_pure]
 ·rw[Oper.semAt_plain F _ _ (by rw[ho];intro c hc';cases hc')]
  simp only[execOp,ho,resolve,invoke,builtin,Sem.run_bind,Sem.run_pure,Result.andThen_ok,List.map_toArray,List.map_cons,List.map_nil,hs,hx,hr];exact h A c w' r1 r2 r3
theorem wpListIn_app{P:Program}{w:World}{ops:Array Oper}{rest:List Oper}{o:Oper}{a:Act}{Q:Exit→Act→World→Prop}{t e:TypeId}{size bytes:Nat}(E:El P t e size bytes)(s x:Operand)(hgd:o.guard=none)
  (ho:o.op=.call {callee:=.builtin .append,args:=#[s,x],argTypes:=#[t,t]}) {base n m N:Nat} {v src:Value} {xs news:List Value} (hs:a.eval s=v) (hx:a.eval x=src)
  (hown:w.ownsRow base e size v n xs) (hsrc:SrcOK w src m size news) (hN:n+m=N) (h63:N≤maxLen) (hbytes:N*bytes≤140737488355328) (hbase:base≤w.heap.size)
  (h:∀A c w',w'.ownsRow base e size (.slice A N c) N (xs++news)→Keeps base [e] w w'→(w.grownBy w' v.ownBlock∧((Value.slice A N c).ownBlock=v.ownBlock∨(Value.slice A N c).ownBlock=some w.heap.size))→wpListIn F k P ops Q rest (a.put o.dst (.slice A N c)) w'):wpListIn F k P ops Q (o::rest) a w:=
 wpListIn_plain hgd fun _ hK=>wpIn_app E s x ho hs hx hown hsrc hN h63 hbytes hbase fun A c w' r1 r2 r3=>hK _ _ (h A c w' r1 r2 r3)
end
def MarksAt(B:Nat)(w:World):List Deferred→Prop
 | []=>True
 | d::ds=>(∃D,B≤D∧d={target:=.collected D,args:=#[]}∧w.heap[D]?=some (.deferred (some []))∧∀x∈ds,x≠d)∧MarksAt B w ds
theorem MarksAt.keep{B:Nat}{w w':World}:∀{ds:List Deferred},MarksAt B w ds→(∀D,B≤D→w.heap[D]?=some (.deferred (some []))→({target:=.collected D,args:=#[]}:Deferred)∈ds→w'.heap[D]?=some (.deferred (some [])))→MarksAt B w' ds
 | [],_,_=>trivial
 | d::ds,⟨⟨D,h1,h2,h3,h4⟩,h5⟩,h=>⟨⟨D,h1,h2,h D h1 h3 (by rw[h2];simp),h4⟩,h5.keep (fun D hD hx hm=>h D hD hx (by simp[hm]))⟩
theorem MarksAt.chg{X:Nat→Prop}{B:Nat}{w w':World}{ds:List Deferred}(h:MarksAt B w ds)(hc:Chg X w w')(hX:∀D,B≤D→w.heap[D]?=some (.deferred (some []))→¬X D):MarksAt B w' ds:=
 h.keep fun D hD hx _=>(hc.block D (aG.1 hx).1 (hX D hD hx)).trans hx
theorem MarksAt.lt{B:Nat}{w:World}:∀{ds:List Deferred},MarksAt B w ds→∀D,({target:=.collected D,args:=#[]}:Deferred)∈ds→D<w.heap.size
 | d::ds,⟨⟨D,h1,h2,h3,h4⟩,h5⟩,D',hm=>by
  rcases List.mem_cons.1 hm with e|e
  ·rw[h2]at e
   cases e
   exact(aG.1 h3).1
  ·exact h5.lt D' e
theorem MarksAt.more{B D:Nat}{w:World}{ds:List Deferred}(h:MarksAt B w ds)(hB:B≤D)(hD:w.heap[D]?=some (.deferred (some [])))(hn:∀D',({target:=.collected D',args:=#[]}:Deferred)∈ds→D' < D):MarksAt B w ({target:=.collected D,args:=#[]}::ds):=by refine⟨⟨D,hB,rfl,hD,fun x hx e=>?_⟩,h⟩;subst e;exact Nat.lt_irrefl _ (hn D hx)
theorem leaves_marks{F:Fence}{n:Nat}{P:Program}{fn:Func}{tmps:Array Value}{R:Ending→World→Prop}{B:Nat}:∀{ds:List Deferred} {w:World},MarksAt B w ds→(∀w',Chg (fun b=>B≤b∧w.heap[b]?=some (.deferred (some []))) w w'→LeavesInM F n P fn tmps R [] .returning w')→LeavesInM F n P fn tmps R ds .returning w
 | [],w,_,h=>h w (Chg.refl _ _)
 | d::ds,w,⟨⟨D,h1,h2,h3,h4⟩,h5⟩,h=>by
  subst h2;refine⟨by simp,.inl ⟨D,_,rfl,run_takeDeferred h3,?_⟩⟩;have hlt:=(aG.1 h3).1;have hput:Chg (fun b=>B≤b∧w.heap[b]?=some (.deferred (some []))) w (w.putObj D (.deferred none)):=(Chg.refl _ _).put (.inr ⟨h1,h3⟩) _;refine leaves_marks (B:=B) (h5.keep (fun D' hD' hx hm=>?_)) (fun w' hc=>h w' (hput.next (hc.mono (fun b hb=>⟨hb.1,?_⟩))))
  ·have hne:D'≠D:=fun e=>h4 _ hm (by rw[e])
   exact(World.putObj_heap_other hne).trans hx
  ·have hne:b≠D:=fun e=>by
    have h6:=hb.2;rw[e,World.putObj_heap_same hlt]at h6;cases h6
   rw[←World.putObj_heap_other hne];exact hb.2
end Go.Proofs.YthaacmablcpdfaaGreatDoor
