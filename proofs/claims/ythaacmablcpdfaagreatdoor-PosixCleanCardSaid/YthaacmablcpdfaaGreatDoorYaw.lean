/- What is possible in a state ahead of a t. A row that is being built in a box. -/
import Derived.Test.YthaacmablcpdfaaGreatDoorYat
import Derived.Test.YthaacmablcpdfaaGreatDoorYav
import Derived.Test.YthaacmablcpdfaaGreatDoorYac
import Derived.TacticsIn
import Derived.TacticsInMore
import Derived.LoopNIn
import Derived.LoopIn
import Derived.OwnWalkIn
import Derived.Test.YthaacmablcpdfaaGreatDoorYn
set_option linter.unusedVariables false
set_option maxRecDepth 100000
set_option maxHeartbeats 16000000
namespace Go.Proofs.YthaacmablcpdfaaGreatDoor
open Go.RowKit
section
attribute [local go_sem] Oper.semAt_some
theorem BQ.cell{A:Nat->Prop}{w w':World}(h:BQ A w w'){b:Nat}(i:A b)(j:Nat):w'.cell? ⟨b,j,none⟩=w.cell? ⟨b,j,none⟩:=World.cell?_of_block (h b i)
theorem Bk.BZ{A A':Nat->Prop}{w w':World}{v:Value}{n sz:Nat}{f f':Nat->Nat->Value->Prop}(h:Bk A w v n sz f)(I:∀b,A b->A' b)(hs:w.heap.size<=w'.heap.size)(T:BQ A w w')(P:∀k j x,k<n->j<sz->f k j x->f' k j x):Bk A' w' v n sz f':=by obtain⟨p,c,hv,hn,U,hr⟩:=h;refine⟨p,c,hv,hn,U,fun k o=>?_⟩;obtain⟨b,off,J,i,R,hx⟩:=hr k o;refine⟨b,off,J,I b i,A0 R hs,fun j l=>?_⟩;obtain⟨x,t,C⟩:=hx j l;exact⟨x,(T.cell i _).trans t,P k j x o l C⟩
theorem B0.BZ{A A':Nat->Prop}{w w':World}{v:Value}{l:List Nat}(h:B0 A w v l)(I:∀b,A b->A' b)(hs:w.heap.size<=w'.heap.size)(hm:BQ A w w'):B0 A' w' v l:=by obtain⟨⟨⟨t,c,o,P⟩,a1,a0⟩,j⟩:=h;refine⟨⟨⟨t,c,o,fun k x p=>?_⟩,a1,a0⟩,fun b J T=>I b (j b J T)⟩;obtain⟨b,off,i,U,R⟩:=P k x p;have hk:=(sG.1 p).1;have C:=j b (by rw[o,i];rfl) (by omega);exact⟨b,off,i,A0 U hs,(hm.cell C _).trans R⟩
def D5(A:Nat->Prop)(w:World)(v:Value)(l:List It):Prop:=Bk A w v l.length 2 (fun k j x=>x=.int .i64 ((if j=0 then(l.getD k (0,0)).1 else(l.getD k (0,0)).2:Nat):Int))
def H0(A:Nat->Prop)(w:World)(m:Nat)(v:Value)(l:List (Nat×Nat)):Prop:=Bk A w v l.length 2 (fun k j x=>if j=0 then x=.int .i64 ((l.getD k (0,0)).1:Nat) else B0 A w x (Bl m (l.getD k (0,0)).2))
theorem D5.BZ{A A':Nat->Prop}{w w':World}{v:Value}{l:List It}(h:D5 A w v l)(i:∀b,A b->A' b)(o:w.heap.size<=w'.heap.size)(j:BQ A w w'):D5 A' w' v l:=Bk.BZ h i o j (fun _ _ _ _ _ h=>h)
theorem H0.BZ{A A':Nat->Prop}{w w':World}{m:Nat}{v:Value}{l:List (Nat×Nat)}(h:H0 A w m v l)(p:∀b,A b->A' b)(C:w.heap.size<=w'.heap.size)(t:BQ A w w'):H0 A' w' m v l:=Bk.BZ h p C t (fun k j x _ _ o=>by
 split at o
 ·rename_i i;rw[if_pos i];exact o
 ·rename_i i;rw[if_neg i];exact o.BZ p C t)
theorem D5.form{A:Nat->Prop}{w:World}{v:Value}{l:List It}(h:D5 A w v l):∃i c,v=.slice i l.length c/\l.length<=1000000:=by obtain⟨i,c,o,-,j,-⟩:=h;exact⟨i,c,o,j⟩
theorem H0.form{A:Nat->Prop}{w:World}{m:Nat}{v:Value}{l:List (Nat×Nat)}(h:H0 A w m v l):∃i c,v=.slice i l.length c/\l.length<=1000000:=by obtain⟨i,c,o,-,j,-⟩:=h;exact⟨i,c,o,j⟩
theorem D5.at_{A:Nat->Prop}{w:World}{i:Option Addr}{n c:Nat}{l:List It}(h:D5 A w (.slice i n c) l){k:Nat}{x:It}(t:l[k]?=some x):∃b off,i=some ⟨b,off,none⟩/\A b/\b<w.heap.size/\w.cell? ⟨b,off+k*2,none⟩=some (.int .i64 x.1)/\w.cell? ⟨b,off+k*2+1,none⟩=some (.int .i64 x.2):=by
 obtain⟨a0,c',hv,-,-,U⟩:=h;cases hv
 have R:=(sG.1 t).1;obtain⟨b,off,I,J,T,p⟩:=U k R;obtain⟨y0,h0,j⟩:=p 0 (by omega);obtain⟨y1,C,o⟩:=p 1 (by omega);have P:l.getD k (0,0)=x:=by rw[dG,t];rfl
 rw[P]at j o;refine⟨b,off,I,J,T,?_,?_⟩
 ·rw[<-Nat.add_zero (off+k*2),h0,j];rfl
 ·rw[C,o];rfl
theorem H0.at_{A:Nat->Prop}{w:World}{m:Nat}{j:Option Addr}{n c:Nat}{l:List (Nat×Nat)}(h:H0 A w m (.slice j n c) l){k:Nat}{x:Nat×Nat}(t:l[k]?=some x):∃b off u,j=some ⟨b,off,none⟩/\A b/\b<w.heap.size/\w.cell? ⟨b,off+k*2,none⟩=some (.int .i64 x.1)/\w.cell? ⟨b,off+k*2+1,none⟩=some u/\B0 A w u (Bl m x.2):=by
 obtain⟨a0,c',hv,-,-,U⟩:=h;cases hv
 have R:=(sG.1 t).1;obtain⟨b,off,I,J,T,p⟩:=U k R;obtain⟨y0,h0,o⟩:=p 0 (by omega);obtain⟨y1,C,i⟩:=p 1 (by omega);have P:l.getD k (0,0)=x:=by rw[dG,t];rfl
 rw[P]at o i;refine⟨b,off,y1,I,J,T,?_,C,?_⟩
 ·rw[<-Nat.add_zero (off+k*2),h0,o]
 ·rw[if_neg (by omega)]at i;exact i
def Co(t:Nat)(i:List It):List It:=(if 0<t then i.filter (fun x=>x.1==t) else[]).map fun x=>(1,x.2)
def C8(own t:Nat)(i:List (Nat×Nat)):List It:=(i.filter fun x=>x.1==own&&x.2.testBit t).map fun _=>(3,0)
def Eb(own t:Nat)(i:List (Nat×Nat)):List It:=(i.filter fun x=>x.1 != own&&x.2.testBit t).map fun x=>(2,x.1)
theorem T0(g:Gz)(j:List It)(i:List (Nat×Nat))(t:Nat):g.JD j i t=Co t j++C8 g.R.length t i++Eb g.R.length t i:=rfl
theorem Pv{t:Nat}{j:List It}{k:Nat}{x:It}(h:j[k]?=some x):Co t (j.take (k+1))=Co t (j.take k)++(if 0<t/\x.1=t then[(1,x.2)] else[]):=by
 unfold Co;rw[List.take_add_one,h];by_cases i:0<t
 ·simp only[if_pos i,Option.toList_some,List.filter_append,By]
  by_cases l:x.1=t
  ·simp[l,i]
  ·simp[l]
 ·simp[i]
theorem O9{own t:Nat}{i:List (Nat×Nat)}{k:Nat}{x:Nat×Nat}(h:i[k]?=some x):C8 own t (i.take (k+1))=C8 own t (i.take k)++(if x.1=own/\x.2.testBit t=true then[(3,0)] else[]):=by
 unfold C8;rw[List.take_add_one,h];simp only[Option.toList_some,List.filter_append,By];by_cases j:x.1=own
 ·cases l:x.2.testBit t<;>simp[j,l]
 ·simp[j]
theorem S1{own t:Nat}{i:List (Nat×Nat)}{k:Nat}{x:Nat×Nat}(h:i[k]?=some x):Eb own t (i.take (k+1))=Eb own t (i.take k)++(if x.1≠own/\x.2.testBit t=true then[(2,x.1)] else[]):=by
 unfold Eb;rw[List.take_add_one,h];simp only[Option.toList_some,List.filter_append,By];by_cases j:x.1=own
 ·simp[j]
 ·cases l:x.2.testBit t<;>simp[j,l]
theorem Md{p:Type}{f:List It->List p}{l:List It}(j:∀k x,l[k]?=some x->f (l.take k) <+: f (l.take (k+1))):∀n,n<=l.length->f (l.take (l.length-n)) <+: f l
 | 0,_=>by simp
 | n+1,h=>by have o:=Md j n (by omega);have i:=j (l.length-(n+1)) _ (eG (by omega));rw[show l.length-(n+1)+1=l.length-n by omega]at i;exact i.trans o
theorem Zu(t:Nat)(i:List It)(k:Nat)(j:k<=i.length):Co t (i.take k) <+: Co t i:=by have:=Md (f:=Co t) (l:=i) (fun k x h=>by rw[Pv h];exact List.prefix_append _ _) (i.length-k) (by omega);rwa [show i.length-(i.length-k)=k by omega]at this
theorem gW(own t:Nat)(i:List (Nat×Nat))(k:Nat)(j:k<=i.length):C8 own t (i.take k) <+: C8 own t i:=by have:=Md (f:=C8 own t) (l:=i) (fun k x h=>by rw[O9 h];exact List.prefix_append _ _) (i.length-k) (by omega);rwa [show i.length-(i.length-k)=k by omega]at this
theorem VA(own t:Nat)(i:List (Nat×Nat))(k:Nat)(j:k<=i.length):Eb own t (i.take k) <+: Eb own t i:=by have:=Md (f:=Eb own t) (l:=i) (fun k x h=>by rw[S1 h];exact List.prefix_append _ _) (i.length-k) (by omega);rwa [show i.length-(i.length-k)=k by omega]at this
theorem Sy{m S t:Nat}(h:t<m):(t∈Bl m S)<->S.testBit t=true:=by unfold Bl;simp[h]
theorem Tb{m S t:Nat}(h:t<m):decide (t∈Bl m S)=S.testBit t:=by
 cases i:S.testBit t with
 | true=>exact decide_eq_true ((Sy h).2 i)
 | false=>exact decide_eq_false (fun j=>by rw[(Sy h).1 j]at i;cases i)
def JL(x:It):Array Value:=#[.agg #[.int .i64 x.1,.int .i64 x.2]]
theorem SU{A:Nat->Prop}{w:World}{sb tb kb ob own t m:Nat}{iv tv kv:Value}{p:List It}{o:List (Nat×Nat)}(ht:t<m)(hm:m<=1000)(hA:∀b,A b->b<w.heap.size)(a1:A sb)(a2:A tb)(a3:A kb)(a4:A ob)
  (b1:Ah w sb 71 #[iv,tv]) (b2:Ah w tb 3 #[.int .i64 t]) (b3:Ah w kb 76 #[kv]) (b4:Ah w ob 3 #[.int .i64 own]) (aw:D5 A w tv p) (av:H0 A w m kv o) :
  Seq Tryz.prog 63 #[.pointer (some ⟨sb,0,none⟩),.pointer (some ⟨tb,0,none⟩),.pointer (some ⟨kb,0,none⟩),.pointer (some ⟨ob,0,none⟩)] JL (Co t p++C8 own t o++Eb own t o) A w:=by
 intro bf J Jx W hW hJ b5 hY h0;obtain⟨At,ct,rfl,ak⟩:=aw.form;obtain⟨Ak,ck,rfl,ba⟩:=av.form;have al:=hW.size;have ad:BQ A w W:=fun b l=>hW.block b (hA b l) id
 have ae:∀b,A b->b<W.heap.size:=fun b l=>A0 (hA b l) al
 have ar:=aw.BZ (fun _=>id) al ad;have aq:=av.BZ (fun _=>id) al ad;obtain⟨n,hn⟩:∃n,p.length=n:=⟨_,rfl⟩
 obtain⟨q,hq⟩:∃q,o.length=q:=⟨_,rfl⟩
 rw[hn]at ar ak;rw[hq]at aq ba;have ai:Hid (∀y:World,W.heap.size<=y.heap.size->BQ A W y->sb<y.heap.size/\tb<y.heap.size/\kb<y.heap.size/\ob<y.heap.size/\y.cell? ⟨sb,1,none⟩=some (.slice At n ct)/\y.cell? ⟨tb,0,none⟩=some (.int .i64 t)/\y.cell? ⟨kb,0,none⟩=some (.slice Ak q ck)/\y.cell? ⟨ob,0,none⟩=some (.int .i64 own)):=Hd (fun y i hs=>by
  refine⟨A0 (ae _ a1) i,A0 (ae _ a2) i,A0 (ae _ a3) i,A0 (ae _ a4) i,?_,?_,?_,?_⟩
  ·rw[hs.cell a1,ad.cell a1,<-hn];exact b1.cell 1
  ·rw[hs.cell a2,ad.cell a2];exact b2.cell 0
  ·rw[hs.cell a3,ad.cell a3,<-hq];exact b3.cell 0
  ·rw[hs.cell a4,ad.cell a4];exact b4.cell 0)
 have HY:=Hd hY;have HJ:=Hd hJ;have bh:=Hd b5;have b8:=Hd h0;have b9:=Hd ar;have ay:=Hd aq;have a9:=Hd ae;have HN:=Hd hn;have HQ:=Hd hq;have HT:=Hd ht;have HM:=Hd hm;obtain⟨xs,ax⟩:∃xs,Co t p++C8 own t o++Eb own t o=xs:=⟨_,rfl⟩
 rw[ax]at HY ⊢;have aj:=Hd ax;have ao:Hid (∀(pre:List It) (x:It) (y:World) (an:Obj),pre++[x] <+: xs->W.heap.size<=y.heap.size->BQ A W y->J pre A y->YieldAt Fence.wide 0 Tryz.prog bf (JL x) (y.alloc an) fun e W'=>
   W.heap.size<=W'.heap.size/\BQ A W W'/\((e=.returned (.bool true)/\J (pre++[x]) A W')\/(e=.returned (.bool false)/\Jx () A W'))):=Hd (fun pre x y an hp i hs hj=>by
  have l:=Ay y an;have ak:∀b,A b->b<y.heap.size:=fun b l=>A0 (a9.out b l) i
  refine(HY.out pre x A (y.alloc an) (HJ.out.step hj (Aj.AH l)) hp (fun _=>id) (fun b au=>A0 (ak b au) l.size)).mono ?_;rintro e W' ⟨h1,h2,h3⟩;exact⟨AX i (AX l.size h1),hs.trans (BQ.trans (fun b au=>l.block b (ak b au)) h2),h3⟩)
 obtain⟨s1,s2,s3,s4,c1,c2,c3,c4⟩:=ai.out W (AG _) (BQ.refl _ _);clear hY hJ b5 h0 ar aq ae hn hq ht hm ax HY hW al ad aw av hA a1 a2 a3 a4 b1 b2 b3 b4;refine callsIn_of_wp Tryz.func63 rfl trivial ?_ rfl;simp only[Tryz.ntmps63,List.size_toArray,List.length_cons,List.length_nil,Nat.reduceAdd,Nat.reduceSub,Array.replicate_succ,Array.replicate_zero,List.push_toArray,List.append_toArray,List.nil_append,List.cons_append]
 gi_wp2
 gi_loopw [15] (fun a8 wr=>∃k:Nat,k<=n/\a8=.int .i64 k/\Hid (W.heap.size<=wr.heap.size/\BQ A W wr/\J (Co t (p.take k)) A wr)) (fun a8 _=>n-(intOf a8).toNat)
 case atStart=>exact⟨0,AP _,rfl,Hd ⟨AG _,BQ.refl _ _,by simpa [Co] using b8.out⟩⟩
 case round=>
  obtain⟨k,hk,rfl,j⟩:=hrel;obtain⟨s1,s2,s3,s4,c1,c2,c3,c4⟩:=ai.out wr j.out.1 j.out.2.1;by_cases bb:k<n
  ·obtain⟨⟨P,I⟩,hx⟩:∃x,p[k]?=some x:=⟨_,eG (by rw[HN.out];exact bb)⟩
   obtain⟨b,off,rfl,b0,b6,d0,d1⟩:=(b9.out.BZ (A':=A) (fun _=>id) j.out.1 j.out.2.1).at_ hx;have a7:=Pv (t:=t) hx;have ab:Co t (p.take (k+1)) <+: xs:=by rw[<-aj.out,List.append_assoc];exact(Zu t p (k+1) (by rw[HN.out];omega)).trans (List.prefix_append _ _)
   simp only at d0 d1 a7;have a6:=Hd a7;have af:=Hd ab;clear a7 ab hx;have aa:Hid (¬(0<t/\P=t)->∀y,Below wr.heap.size wr y->W.heap.size<=y.heap.size/\BQ A W y/\J (Co t (p.take (k+1))) A y):=Hd (fun ah y i=>by rw[a6.out,if_neg ah,List.append_nil];exact⟨AX j.out.1 i.size,j.out.2.1.trans (fun b l=>i.block b (A0 (a9.out b l) j.out.1)),HJ.out.step j.out.2.2 (Aj.AH i)⟩)
   by_cases hz:0<t
   ·have be:(0:Int)<(t:Int):=by omega
    by_cases C:P=t
    ·have ag:((P:Int)==(t:Int))=true:=by rw[C];simp
     have i:=ao.out (Co t (p.take k)) (1,I) wr (.cells #[.int .i64 P,.int .i64 I] 127) (by have h:=af.out;rw[a6.out,if_pos ⟨hz,C⟩]at h;exact h) j.out.1 j.out.2.1 j.out.2.2;obtain⟨fn,b7,assign,az,i,hR⟩:=i;rw[show JL (1,I)=#[.agg #[.int .i64 1,.int .i64 I]] from rfl]at i;have HR:=Hd hR;have T:=Hd (And.intro hz C);clear hR C hz
     gi_wp2_with fail
     refine⟨rfl,HR.out.mono ?_⟩;rintro e w3 ⟨a0,a5,(⟨rfl,R⟩|⟨rfl,R⟩)⟩
     ·have U:Hid (W.heap.size<=w3.heap.size/\BQ A W w3/\J (Co t (p.take (k+1))) A w3):=Hd ⟨a0,a5,by rw[a6.out,if_pos T.out];exact R⟩
      clear a0 a5 R HR i
      gi_wp2
      go_roundw
      case rel=>exact⟨k+1,by omega,by go_num,U⟩
      case measure=>simp[intOf];omega
     ·have U:=Hd (And.intro a0 (And.intro a5 R))
      clear a0 a5 R HR i
      gi_wp2
      refine bodyPost_ret (results_none rfl _ _ _) rfl ?_;exact⟨⟨_,rfl⟩,A,fun _=>id,fun b l=>A0 (a9.out b l) U.out.1,.inr U.out.2.2⟩
    ·have ag:((P:Int)==(t:Int))=false:=by rw[bN];omega
     have T:=Hd C;clear C
     gi_wp2
     repeat (first|(refine⟨fun _ h=>(by cases h),?_⟩;try gi_wp2)|(refine⟨trivial,?_⟩;try gi_wp2))
     refine⟨⟨k+1,by omega,by go_num,Hd (aa.out (fun h=>T.out h.2) _ (Ay _ _))⟩,?_⟩;simp[intOf];omega
   ·have be:¬(0:Int)<(t:Int):=by omega
    have HZ:=Hd hz;clear hz
    gi_wp2
    repeat (first|(refine⟨fun _ h=>(by cases h),?_⟩;try gi_wp2)|(refine⟨trivial,?_⟩;try gi_wp2))
    refine⟨⟨k+1,by omega,by go_num,Hd (aa.out (fun h=>HZ.out h.1) _ (Ay _ _))⟩,?_⟩;simp[intOf];omega
  ·obtain rfl:k=n:=by omega
   have H1:Hid (W.heap.size<=wr.heap.size/\BQ A W wr/\J (Co t p) A wr):=Hd (by have h:=j.out;rw[Ds (by rw[HN.out];exact AG _)]at h;exact h)
   clear j;rename World=>w1
   gi_wp2
   gi_loopw [38] (fun a8 wr=>∃k:Nat,k<=q/\a8=.int .i64 k/\Hid (W.heap.size<=wr.heap.size/\BQ A W wr/\J (Co t p++C8 own t (o.take k)) A wr)) (fun a8 _=>q-(intOf a8).toNat)
   case atStart=>exact⟨0,AP _,rfl,Hd ⟨H1.out.1,H1.out.2.1,by simpa [C8] using H1.out.2.2⟩⟩
   case round=>
    obtain⟨k,hk,rfl,j⟩:=hrel;obtain⟨s1,s2,s3,s4,c1,c2,c3,c4⟩:=ai.out wr j.out.1 j.out.2.1;by_cases bc:k<q
    ·obtain⟨⟨P,I⟩,hx⟩:∃x,o[k]?=some x:=⟨_,eG (by rw[HQ.out];exact bc)⟩
     obtain⟨b,off,u,rfl,b0,b6,d0,d1,hu⟩:=(ay.out.BZ (A':=A) (fun _=>id) j.out.1 j.out.2.1).at_ hx;have a7:=O9 (own:=own) (t:=t) hx;have ab:Co t p++C8 own t (o.take (k+1)) <+: xs:=by rw[<-aj.out];exact(List.prefix_append_right_inj _ |>.2 (gW own t o (k+1) (by rw[HQ.out];omega))).trans (List.prefix_append _ _)
     simp only at d0 d1 a7 hu;obtain⟨Au,cu,rfl⟩:=hu.shape;have HC:Hid (∀y,Below wr.heap.size wr y->Calls Tryz.prog 64 #[.slice Au (Bl m I).length cu,.int .i64 t] y fun e w'=>e=.returned (.bool (I.testBit t))/\w'=y):=Hd (fun y i=>by have h:=Tf (hu.1.later i) (AX (Kc m I) (by have:=HM.out;omega)) t;rwa [show decide (t∈Bl m I)=I.testBit t from Tb HT.out]at h)
     have a6:=Hd a7;have af:=Hd ab;clear a7 ab hx hu;generalize (Bl m I).length=nu at *;have aa:Hid (¬(P=own/\I.testBit t=true)->∀y,Below wr.heap.size wr y->W.heap.size<=y.heap.size/\BQ A W y/\J (Co t p++C8 own t (o.take (k+1))) A y):=Hd (fun ah y i=>by rw[a6.out,if_neg ah,List.append_nil];exact⟨AX j.out.1 i.size,j.out.2.1.trans (fun b l=>i.block b (A0 (a9.out b l) j.out.1)),HJ.out.step j.out.2.2 (Aj.AH i)⟩)
     by_cases C:P=own
     ·have ag:((P:Int)==(own:Int))=true:=by rw[C];simp
      cases l:I.testBit t with
      | false=>
       rw[l]at HC;have T:=Hd l;clear l C
       gi_wp2_with (refine⟨trivial,rfl,?_⟩;gi_at_call 64;refine(callsIn_wide.2 (HC.out _ (Ay _ _))).mono ?_;rintro e w1 ⟨rfl,rfl⟩)
       gi_wp2
       repeat (first|(refine⟨fun _ h=>(by cases h),?_⟩;try gi_wp2)|(refine⟨trivial,?_⟩;try gi_wp2))
       refine⟨⟨k+1,by omega,by go_num,Hd (aa.out (fun h=>by have h2:=h.2;rw[T.out]at h2;cases h2) _ (Ay _ _))⟩,?_⟩;simp[intOf];omega
      | true=>
       rw[l]at HC;have i:=ao.out (Co t p++C8 own t (o.take k)) (3,0) wr (.cells #[.int .i64 P,.slice Au nu cu] 129) (by have h:=af.out;rw[a6.out,if_pos ⟨C,l⟩,<-List.append_assoc]at h;exact h) j.out.1 j.out.2.1 j.out.2.2;obtain⟨fn,b7,assign,az,i,hR⟩:=i;rw[show JL (3,0)=#[.agg #[.int .i64 3,.int .i64 0]] from rfl]at i;have HR:=Hd hR;have T:=Hd (And.intro C l);clear hR C l
       gi_wp2_with (refine⟨trivial,rfl,?_⟩;gi_at_call 64;refine(callsIn_wide.2 (HC.out _ (Ay _ _))).mono ?_;rintro e w1 ⟨rfl,rfl⟩)
       refine⟨rfl,HR.out.mono ?_⟩;rintro e w3 ⟨a0,a5,(⟨rfl,R⟩|⟨rfl,R⟩)⟩
       ·have U:Hid (W.heap.size<=w3.heap.size/\BQ A W w3/\J (Co t p++C8 own t (o.take (k+1))) A w3):=Hd ⟨a0,a5,by rw[a6.out,if_pos T.out,<-List.append_assoc];exact R⟩
        clear a0 a5 R HR i
        gi_wp2
        go_roundw
        case rel=>exact⟨k+1,by omega,by go_num,U⟩
        case measure=>simp[intOf];omega
       ·have U:=Hd (And.intro a0 (And.intro a5 R))
        clear a0 a5 R HR i
        gi_wp2
        refine bodyPost_ret (results_none rfl _ _ _) rfl ?_;exact⟨⟨_,rfl⟩,A,fun _=>id,fun b l=>A0 (a9.out b l) U.out.1,.inr U.out.2.2⟩
     ·have ag:((P:Int)==(own:Int))=false:=by rw[bN];omega
      have T:=Hd C;clear C
      gi_wp2
      repeat (first|(refine⟨fun _ h=>(by cases h),?_⟩;try gi_wp2)|(refine⟨trivial,?_⟩;try gi_wp2))
      refine⟨⟨k+1,by omega,by go_num,Hd (aa.out (fun h=>T.out h.1) _ (Ay _ _))⟩,?_⟩;simp[intOf];omega
    ·obtain rfl:q=k:=by omega
     have H2:Hid (W.heap.size<=wr.heap.size/\BQ A W wr/\J (Co t p++C8 own t o) A wr):=Hd (by have h:=j.out;rw[Ds (by rw[HQ.out];exact AG _)]at h;exact h)
     clear j;rename World=>w2
     gi_wp2
     gi_loopw [61] (fun a8 wr=>∃k:Nat,k<=q/\a8=.int .i64 k/\Hid (W.heap.size<=wr.heap.size/\BQ A W wr/\J (Co t p++C8 own t o++Eb own t (o.take k)) A wr)) (fun a8 _=>q-(intOf a8).toNat)
     case atStart=>exact⟨0,AP _,rfl,Hd ⟨H2.out.1,H2.out.2.1,by simpa [Eb] using H2.out.2.2⟩⟩
     case round=>
      obtain⟨k,hk,rfl,j⟩:=hrel;obtain⟨s1,s2,s3,s4,c1,c2,c3,c4⟩:=ai.out wr j.out.1 j.out.2.1;by_cases bd:k<q
      ·obtain⟨⟨P,I⟩,hx⟩:∃x,o[k]?=some x:=⟨_,eG (by rw[HQ.out];exact bd)⟩
       obtain⟨b,off,u,rfl,b0,b6,d0,d1,hu⟩:=(ay.out.BZ (A':=A) (fun _=>id) j.out.1 j.out.2.1).at_ hx;have a7:=S1 (own:=own) (t:=t) hx;have ab:Co t p++C8 own t o++Eb own t (o.take (k+1)) <+: xs:=by rw[<-aj.out];exact(List.prefix_append_right_inj _).2 (VA own t o (k+1) (by rw[HQ.out];omega))
       simp only at d0 d1 a7 hu;obtain⟨Au,cu,rfl⟩:=hu.shape;have HC:Hid (∀y,Below wr.heap.size wr y->Calls Tryz.prog 64 #[.slice Au (Bl m I).length cu,.int .i64 t] y fun e w'=>e=.returned (.bool (I.testBit t))/\w'=y):=Hd (fun y i=>by have h:=Tf (hu.1.later i) (AX (Kc m I) (by have:=HM.out;omega)) t;rwa [show decide (t∈Bl m I)=I.testBit t from Tb HT.out]at h)
       have a6:=Hd a7;have af:=Hd ab;clear a7 ab hx hu;generalize (Bl m I).length=nu at *;have aa:Hid (¬(P≠own/\I.testBit t=true)->∀y,Below wr.heap.size wr y->W.heap.size<=y.heap.size/\BQ A W y/\J (Co t p++C8 own t o++Eb own t (o.take (k+1))) A y):=Hd (fun ah y i=>by rw[a6.out,if_neg ah,List.append_nil];exact⟨AX j.out.1 i.size,j.out.2.1.trans (fun b l=>i.block b (A0 (a9.out b l) j.out.1)),HJ.out.step j.out.2.2 (Aj.AH i)⟩)
       by_cases C:P=own
       ·have ag:((P:Int) != (own:Int))=false:=by rw[C];simp
        have T:=Hd C;clear C
        gi_wp2
        repeat (first|(refine⟨fun _ h=>(by cases h),?_⟩;try gi_wp2)|(refine⟨trivial,?_⟩;try gi_wp2))
        refine⟨⟨k+1,by omega,by go_num,Hd (aa.out (fun h=>h.1 T.out) _ (Ay _ _))⟩,?_⟩;simp[intOf];omega
       ·have ag:((P:Int) != (own:Int))=true:=by rw[bne_iff_ne];omega
        cases l:I.testBit t with
        | false=>
         rw[l]at HC;have T:=Hd l;clear l C
         gi_wp2_with (refine⟨trivial,rfl,?_⟩;gi_at_call 64;refine(callsIn_wide.2 (HC.out _ (Ay _ _))).mono ?_;rintro e w1 ⟨rfl,rfl⟩)
         gi_wp2
         repeat (first|(refine⟨fun _ h=>(by cases h),?_⟩;try gi_wp2)|(refine⟨trivial,?_⟩;try gi_wp2))
         refine⟨⟨k+1,by omega,by go_num,Hd (aa.out (fun h=>by have h2:=h.2;rw[T.out]at h2;cases h2) _ (Ay _ _))⟩,?_⟩;simp[intOf];omega
        | true=>
         rw[l]at HC;have i:=ao.out (Co t p++C8 own t o++Eb own t (o.take k)) (2,P) wr (.cells #[.int .i64 P,.slice Au nu cu] 129) (by have h:=af.out;rw[a6.out,if_pos ⟨C,l⟩,<-List.append_assoc]at h;exact h) j.out.1 j.out.2.1 j.out.2.2;obtain⟨fn,b7,assign,az,i,hR⟩:=i;rw[show JL (2,P)=#[.agg #[.int .i64 2,.int .i64 P]] from rfl]at i;have HR:=Hd hR;have T:=Hd (And.intro C l);clear hR C l
         gi_wp2_with (refine⟨trivial,rfl,?_⟩;gi_at_call 64;refine(callsIn_wide.2 (HC.out _ (Ay _ _))).mono ?_;rintro e w1 ⟨rfl,rfl⟩)
         refine⟨rfl,HR.out.mono ?_⟩;rintro e w3 ⟨a0,a5,(⟨rfl,R⟩|⟨rfl,R⟩)⟩
         ·have U:Hid (W.heap.size<=w3.heap.size/\BQ A W w3/\J (Co t p++C8 own t o++Eb own t (o.take (k+1))) A w3):=Hd ⟨a0,a5,by rw[a6.out,if_pos T.out,<-List.append_assoc];exact R⟩
          clear a0 a5 R HR i
          gi_wp2
          go_roundw
          case rel=>exact⟨k+1,by omega,by go_num,U⟩
          case measure=>simp[intOf];omega
         ·have U:=Hd (And.intro a0 (And.intro a5 R))
          clear a0 a5 R HR i
          gi_wp2
          refine bodyPost_ret (results_none rfl _ _ _) rfl ?_;exact⟨⟨_,rfl⟩,A,fun _=>id,fun b l=>A0 (a9.out b l) U.out.1,.inr U.out.2.2⟩
      ·obtain rfl:k=q:=by omega
       have H1:Hid (W.heap.size<=wr.heap.size/\BQ A W wr/\J xs A wr):=Hd (by have h:=j.out;rw[Ds (by rw[HQ.out];exact AG _),aj.out]at h;exact h)
       gi_wp2
       refine bodyPost_end (results_none rfl _ _ _) rfl ?_;exact⟨⟨_,rfl⟩,A,fun _=>id,fun b l=>A0 (a9.out b l) H1.out.1,.inl H1.out.2.2⟩
end
section
attribute [local go_sem] Oper.semAt_some
def Ng(T m:Nat)(w:World)(n:Nat)(xs:List Value)(o:Value)(wr:World):Prop:=∃A c,o=.slice A n c/\wr.ownsRow w.heap.size T m (.slice A n c) n xs/\Below w.heap.size w wr
def Hv(T m tb:Nat)(w:World)(i n:Nat)(xs:List Value)(A:Nat->Prop)(wr:World):Prop:=
 w.heap.size<=i/\¬A i/\∃o,Ah wr i tb #[o]/\Ng T m w n xs o wr/\∀b,o.ownBlock=some b->¬A b
theorem Hv.OC{T m tb l n B:Nat}{w W j:World}{xs:List Value}{A A':Nat->Prop}(h:Hv T m tb w l n xs A W)(hB:w.heap.size<=B)(i:Aj (fun b=>B<=b/\A b) W j)(J:∀b,A' b->A b\/W.heap.size<=b):Hv T m tb w l n xs A' j:=by obtain⟨U,o,a0,p,h4,t⟩:=h;obtain⟨R,c,rfl,C,I⟩:=h4;refine⟨U,fun h=>(J _ h).elim o (by have:=p.lt;omega),_,i.An p (fun h=>o h.2),⟨R,c,rfl,i.own C (fun g hg h=>t g hg h.2),I.trans (i.below I.size (fun k hk h=>by omega))⟩,fun b P h=>(J _ h).elim (t b P) (by have:=(B9 C b P).1;omega)⟩
theorem Hv.put{T m tb i n N:Nat}{w W t o:World}{xs ys:List Value}{A:Nat->Prop}{j:Option Addr}{c2:Nat}{v:Value}(R:w.heap.size<=i)(J:¬A i)(p:Ah W i tb #[v])(hv:∀b,v.ownBlock=some b->¬A b)(a6:∀b,A b->b<W.heap.size)(ho:W.ownsRow w.heap.size T m v n xs)
  (I:Below w.heap.size w W) (C:Aj (fun _=>False) W t) (r2:t.grownBy o v.ownBlock) (l:(Value.slice j N c2).ownBlock=v.ownBlock\/(Value.slice j N c2).ownBlock=some t.heap.size) (r1:o.ownsRow w.heap.size T m (.slice j N c2) N ys) (hT:T≠tb) :
  Hv T m tb w i N ys A (o.setCell ⟨i,0,none⟩ (.slice j N c2))/\Aj (fun b=>w.heap.size<=b/\¬A b) W (o.setCell ⟨i,0,none⟩ (.slice j N c2)):=by
 have a0:v.ownBlock≠some i:=DX ho p hT;have a8:=C.size;have a7:=p.lt;have a3:Ah o i tb #[v]:=(Aj.Cw r2).An (C.An p id) a0;have a5:(Value.slice j N c2).ownBlock≠some i:=by
  rcases l with l|l<;>rw[l]
  ·exact a0
  ·intro h
   have:=Option.some.inj h;omega
 have P:∀b,v.ownBlock=some b->w.heap.size<=b/\¬A b:=fun b h=>⟨(B9 ho b h).2,hv b h⟩
 have a2:∀b,(Value.slice j N c2).ownBlock=some b->w.heap.size<=b/\¬A b:=fun b h=>by
  rcases l with l|l
  ·exact P b (by rw[<-l];exact h)
  ·rw[l]at h
   have:=Option.some.inj h;have hs:=I.size;exact⟨by omega,fun a1=>by have:=a6 b a1;omega⟩
 have a4:Aj (fun b=>w.heap.size<=b/\¬A b) W o:=(C.mono (fun _=>False.elim)).next ((Aj.Cw r2).mono P);have U:Aj (fun b=>w.heap.size<=b/\¬A b) W (o.setCell ⟨i,0,none⟩ (.slice j N c2)):=a4.set (p:=⟨i,0,none⟩) (.inr ⟨R,J⟩) _;refine⟨⟨R,J,_,by simpa using a3.Bn 0 (.slice j N c2),⟨j,c2,rfl,EB r1 (p:=⟨i,0,none⟩) a5 _,I.trans (U.below I.size (fun k hk h=>by omega))⟩,fun b p=>(a2 b p).2⟩,U⟩
theorem cI{A:Nat->Prop}{B:Nat}{W i:World}(h:Aj (fun b=>B<=b/\¬A b) W i)(l:∀b,A b->b<W.heap.size):BQ A W i:=fun b j=>h.block b (l b j) (fun h=>h.2 j)
theorem Hv.cH{T m tb i n:Nat}{w W:World}{xs:List Value}{A:Nat->Prop}(h:Hv T m tb w i n xs A W){D:Nat}(I:w.heap.size<=D)(l:A D)(t:Obj):∃o,W.cell? ⟨i,0,none⟩=some o/\Ng T m w n xs o (W.putObj D t):=by
 have C:Hv T m tb w i n xs A (W.putObj D t):=h.OC (AG _) ((Aj.refl _ _).put (.inr ⟨I,l⟩) _) (fun _=>.inl);have J:D≠i:=fun e=>h.2.1 (e▸l)
 obtain⟨-,-,o,p,a0,-⟩:=h;obtain⟨-,-,o2,P,U,-⟩:=C;have R:o2=o:=by have:=P;unfold Ah at this;rw[World.putObj_heap_other (fun h=>J h.symm),show W.heap[i]?=some (.cells #[o] tb (0,0)) from p]at this;simpa using this.symm
 have j:=p.cell 0;simp at j;exact⟨o,j,by rw[<-R];exact U⟩
section
variable {F:Fence} {k:Nat}
theorem gN{P:Program}{w:World}{o:Oper}{a:Act}{K:Act->World->Prop}{Q:Exit->Act->World->Prop}{t e:TypeId}{size bytes:Nat}(E:El P t e size bytes)(s x:Operand)
  (i:o.op=.call {callee:=.builtin .append,args:=#[s,x],argTypes:=#[t,t]}) {base n m N:Nat} {v src:Value} {xs news:List Value} (T:a.eval s=v) (hx:a.eval x=src)
  (J:w.ownsRow base e size v n xs) (U:Bc w src m size news) (l:n+m=N) (j:N<=maxLen) (C:N*bytes<=140737488355328) (p:base<=w.heap.size)
  (h:∀A c w',w'.ownsRow base e size (.slice A N c) N (xs++news)->AI base [e] w w'->(w.grownBy w' v.ownBlock/\((Value.slice A N c).ownBlock=v.ownBlock\/(Value.slice A N c).ownBlock=some w.heap.size))->K (a.put o.dst (.slice A N c)) w'):o.wpIn F k P a w K Q:=by
 obtain⟨A,c,w',R,r1,r2,r3⟩:=OF (P:=P) (ty:=o.type) E J U l j C p;unfold Oper.wpIn;refine⟨?_,?_⟩
 ·simp[Oper.about,i,resolve,Target.leads,Sem.run_pure]
 ·rw[Oper.semAt_plain F _ _ (by rw[i];intro c I;cases I)]
  simp only[execOp,i,resolve,invoke,builtin,Sem.run_bind,Sem.run_pure,Result.andThen_ok,List.map_toArray,List.map_cons,List.map_nil,T,hx,R];exact h A c w' r1 r2 r3
theorem Yx{P:Program}{w:World}{i:Array Oper}{rest:List Oper}{o:Oper}{a:Act}{Q:Exit->Act->World->Prop}{t e:TypeId}{size bytes:Nat}(E:El P t e size bytes)(s x:Operand)(J:o.guard=none)
  (R:o.op=.call {callee:=.builtin .append,args:=#[s,x],argTypes:=#[t,t]}) {base n m N:Nat} {v src:Value} {xs news:List Value} (U:a.eval s=v) (hx:a.eval x=src)
  (T:w.ownsRow base e size v n xs) (a0:Bc w src m size news) (p:n+m=N) (j:N<=maxLen) (I:N*bytes<=140737488355328) (C:base<=w.heap.size)
  (h:∀A c w',w'.ownsRow base e size (.slice A N c) N (xs++news)->AI base [e] w w'->(w.grownBy w' v.ownBlock/\((Value.slice A N c).ownBlock=v.ownBlock\/(Value.slice A N c).ownBlock=some w.heap.size))->wpListIn F k P i Q rest (a.put o.dst (.slice A N c)) w'):wpListIn F k P i Q (o::rest) a w:=
 wpListIn_plain J fun _ l=>gN E s x R U hx T a0 p j I C fun A c w' r1 r2 r3=>l _ _ (h A c w' r1 r2 r3)
end
def CP(B:Nat)(w:World):List Deferred->Prop
 | []=>True
 | d::i=>(∃D,B<=D/\d={target:=.collected D,args:=#[]}/\w.heap[D]?=some (.deferred (some []))/\∀x∈i,x≠d)/\CP B w i
theorem CP.BZ{B:Nat}{w w':World}:∀{i:List Deferred},CP B w i->(∀D,B<=D->w.heap[D]?=some (.deferred (some []))->({target:=.collected D,args:=#[]}:Deferred)∈i->w'.heap[D]?=some (.deferred (some [])))->CP B w' i
 | [],_,_=>trivial
 | d::i,⟨⟨D,j,l,o,p⟩,t⟩,h=>⟨⟨D,j,l,h D j o (by rw[l];simp),p⟩,t.BZ (fun D C J I=>h D C J (by simp[I]))⟩
theorem CP.Aw{X:Nat->Prop}{B:Nat}{w w':World}{j:List Deferred}(h:CP B w j)(p:Aj X w w')(o:∀D,B<=D->w.heap[D]?=some (.deferred (some []))->¬X D):CP B w' j:=
 h.BZ fun D l i _=>(p.block D (aG.1 i).1 (o D l i)).trans i
theorem CP.lt{B:Nat}{w:World}:∀{i:List Deferred},CP B w i->∀D,({target:=.collected D,args:=#[]}:Deferred)∈i->D<w.heap.size
 | d::i,⟨⟨D,C,l,o,I⟩,p⟩,j,t=>by
  rcases List.mem_cons.1 t with e|e
  ·rw[l]at e
   cases e
   exact(aG.1 o).1
  ·exact p.lt j e
theorem CP.more{B D:Nat}{w:World}{i:List Deferred}(h:CP B w i)(l:B<=D)(o:w.heap[D]?=some (.deferred (some [])))(p:∀j,({target:=.collected j,args:=#[]}:Deferred)∈i->j < D):CP B w ({target:=.collected D,args:=#[]}::i):=by refine⟨⟨D,l,rfl,o,fun x t e=>?_⟩,h⟩;subst e;exact Nat.lt_irrefl _ (p D t)
theorem Rg{F:Fence}{n:Nat}{P:Program}{fn:Func}{tmps:Array Value}{R:Ending->World->Prop}{B:Nat}:∀{i:List Deferred} {w:World},CP B w i->(∀w',Aj (fun b=>B<=b/\w.heap[b]?=some (.deferred (some []))) w w'->LeavesInM F n P fn tmps R [] .returning w')->LeavesInM F n P fn tmps R i .returning w
 | [],w,_,h=>h w (Aj.refl _ _)
 | d::i,w,⟨⟨D,C,I,j,J⟩,T⟩,h=>by
  subst I;refine⟨by simp,.inl ⟨D,_,rfl,run_takeDeferred j,?_⟩⟩;have a0:=(aG.1 j).1;have a1:Aj (fun b=>B<=b/\w.heap[b]?=some (.deferred (some []))) w (w.putObj D (.deferred none)):=(Aj.refl _ _).put (.inr ⟨C,j⟩) _;refine Rg (B:=B) (T.BZ (fun t a2 hx hm=>?_)) (fun w' U=>h w' (a1.next (U.mono (fun b l=>⟨l.1,?_⟩))))
  ·have o:t≠D:=fun e=>J _ hm (by rw[e])
   exact(World.putObj_heap_other o).trans hx
  ·have o:b≠D:=fun e=>by
    have p:=l.2;rw[e,World.putObj_heap_same a0]at p;cases p
   rw[<-World.putObj_heap_other o];exact l.2
end
end Go.Proofs.YthaacmablcpdfaaGreatDoor
