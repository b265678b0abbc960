/- . -/
import Derived.Test.YtiljpamcmmeflaaGreatDoorXav
import Derived.TacticsIn
import Derived.TacticsInMore
import Derived.LoopNIn
import Derived.LoopIn
import Derived.OwnWalkIn
set_option linter.all false
set_option maxRecDepth 100000
set_option maxHeartbeats 16000000
namespace Go.Proofs.YtiljpamcmmeflaaGreatDoor
open Go.RowKit
open Value renaming slice→nC,int→nE
open Option renaming some→nJ,none→nK
open IntKind renaming i64→nM
open Obj renaming cells→nO
open Ending renaming returned→nP
open World renaming cell?→nQ
open Go renaming World→nS,Value→nU
variable{A A':Nat->Prop}{W w w':nS}{v:nU}{B k m n own t tb:Nat}{i l:List (Nat×Nat)}{x:Nat×Nat}{tr:List It}{xs:List nU}{P:Program}{Q:Exit->Act->nS->Prop}
section
attribute [local go_sem] Oper.semAt_some
def Bm.cell(h:Bm A w w'){b:Nat}(i:A b)(j:Nat):w'.cell? (b,j)=nQ w (b,j):=World.cell?_of_block (h b i)
def Bo.Bu{sz:Nat}{f f':Nat->Nat->nU->Prop}(h:Bo A w v n sz f)(I:∀b,A b->A' b)(hs:w.heap.size<=w'.heap.size)(T:Bm A w w')(P:∀k j x,k<n->j<sz->f k j x->f' k j x):Bo A' w' v n sz f':=by obtain⟨p,c,hv,hn,U,hr⟩:=h;refine⟨p,c,hv,hn,U,fun k o=>?_⟩;obtain⟨b,off,J,i,R,hx⟩:=hr k o;refine⟨b,off,J,I b i,AK R hs,fun j l=>?_⟩;obtain⟨x,t,C⟩:=hx j l;exact⟨x,(T.cell i _).trans t,P k j x o l C⟩
def BX.Bu{l:List Nat}(h:BX A w v l)(I:∀b,A b->A' b)(hs:w.heap.size<=w'.heap.size)(hm:Bm A w w'):BX A' w' v l:=by obtain⟨⟨⟨t,c,o,P⟩,a1,a0⟩,j⟩:=h;refine⟨⟨⟨t,c,o,fun k x p=>?_⟩,a1,a0⟩,fun b J T=>I b (j b J T)⟩;obtain⟨b,off,i,U,R⟩:=P k x p;have hk:=(sG.1 p).1;have C:=j b (by rw[o,i];rfl) mR;exact⟨b,off,i,AK U hs,(hm.cell C _).trans R⟩
def D6(A:Nat->Prop)(w:nS)(v:nU)(l:List It):Prop:=Bo A w v l.length 2 (fun k j x=>x=nE nM ((if j=0 then(l.getD k (0,0)).1 else(l.getD k (0,0)).2:Nat):Int))
def Ik(A:Nat->Prop)(w:nS)(m:Nat)(v:nU)(l:List (Nat×Nat)):Prop:=Bo A w v l.length 2 (fun k j x=>if j=0 then x=nE nM ((l.getD k (0,0)).1:Nat) else BX A w x (Bq m (l.getD k (0,0)).2))
def D6.Bu{l:List It}(h:D6 A w v l)(i:∀b,A b->A' b)(o:w.heap.size<=w'.heap.size)(j:Bm A w w'):D6 A' w' v l:=Bo.Bu h i o j (fun _ _ _ _ _ h=>h)
def Ik.Bu(h:Ik A w m v l)(p:∀b,A b->A' b)(C:w.heap.size<=w'.heap.size)(t:Bm A w w'):Ik A' w' m v l:=Bo.Bu h p C t (fun k j x _ _ o=>by
 split at o
 ·rename_i i;rw[if_pos i];exact o
 ·rename_i i;rw[if_neg i];exact o.Bu p C t)
def D6.form{l:List It}(h:D6 A w v l):∃i c,v=nC i l.length c/\l.length<=1000000:=by obtain⟨i,c,o,-,j,-⟩:=h;exact⟨i,c,o,j⟩
def Ik.form(h:Ik A w m v l):∃i c,v=nC i l.length c/\l.length<=1000000:=by obtain⟨i,c,o,-,j,-⟩:=h;exact⟨i,c,o,j⟩
def D6.at_{i:Option Addr}{c:Nat}{l:List It}(h:D6 A w (nC i n c) l){x:It}(t:l[k]?=nJ x):∃b off,i=nJ ⟨b,off,nK⟩/\A b/\b<w.heap.size/\nQ w ⟨b,off+k*2,nK⟩=nJ (nE nM x.1)/\nQ w ⟨b,off+k*2+1,nK⟩=nJ (nE nM x.2):=by
 obtain⟨a0,c',hv,-,-,U⟩:=h;cases hv
 have R:=(sG.1 t).1;obtain⟨b,off,I,J,T,p⟩:=U k R;obtain⟨y0,h0,j⟩:=p 0 mR;obtain⟨y1,C,o⟩:=p 1 mR;have P:l.getD k (0,0)=x:=by rw[dG,t];rfl
 rw[P]at j o;refine⟨b,off,I,J,T,?_,?_⟩
 ·rw[<-Nat.add_zero (off+k*2),h0,j];rfl
 ·rw[C,o];rfl
def Ik.at_{j:Option Addr}{c:Nat}(h:Ik A w m (nC j n c) l)(t:l[k]?=nJ x):∃b off u,j=nJ ⟨b,off,nK⟩/\A b/\b<w.heap.size/\nQ w ⟨b,off+k*2,nK⟩=nJ (nE nM x.1)/\nQ w ⟨b,off+k*2+1,nK⟩=nJ u/\BX A w u (Bq m x.2):=by
 obtain⟨a0,c',hv,-,-,U⟩:=h;cases hv
 have R:=(sG.1 t).1;obtain⟨b,off,I,J,T,p⟩:=U k R;obtain⟨y0,h0,o⟩:=p 0 mR;obtain⟨y1,C,i⟩:=p 1 mR;have P:l.getD k (0,0)=x:=by rw[dG,t];rfl
 rw[P]at o i;refine⟨b,off,y1,I,J,T,?_,C,?_⟩
 ·rw[<-Nat.add_zero (off+k*2),h0,o]
 ·rw[if_neg mR]at i;exact i
def Cu(t:Nat)(tr:List It):List It:=(if 0<t then tr.filter (fun x=>x.1==t) else[]).map fun x=>(1,x.2)
def C7(own t:Nat)(i:List (Nat×Nat)):List It:=(i.filter fun x=>x.1==own&&x.2.testBit t).map fun _=>(3,0)
def Ec(own t:Nat)(i:List (Nat×Nat)):List It:=(i.filter fun x=>x.1 != own&&x.2.testBit t).map fun x=>(2,x.1)
def U8(g:Gz)(tr:List It)(i:List (Nat×Nat))(t:Nat):g.JR tr i t=Cu t tr++C7 g.R.length t i++Ec g.R.length t i:=rfl
def Qo{x:It}(h:tr[k]?=nJ x):Cu t (tr.take (k+1))=Cu t (tr.take k)++(if 0<t/\x.1=t then[(1,x.2)] else[]):=by
 unfold Cu;rw[List.take_add_one,h];by_cases i:0<t
 ·simp only[if_pos i,Option.toList_some,List.filter_append,Bz]
  by_cases j:x.1=t
  ·simp[j,i]
  ·simp[j]
 ·simp[i]
def Qp(h:i[k]?=nJ x):C7 own t (i.take (k+1))=C7 own t (i.take k)++(if x.1=own/\x.2.testBit t=true then[(3,0)] else[]):=by
 unfold C7;rw[List.take_add_one,h];simp only[Option.toList_some,List.filter_append,Bz];by_cases j:x.1=own
 ·cases l:x.2.testBit t<;>simp[j,l]
 ·simp[j]
def Rq(h:i[k]?=nJ x):Ec own t (i.take (k+1))=Ec own t (i.take k)++(if x.1≠own/\x.2.testBit t=true then[(2,x.1)] else[]):=by
 unfold Ec;rw[List.take_add_one,h];simp only[Option.toList_some,List.filter_append,Bz];by_cases j:x.1=own
 ·simp[j]
 ·cases l:x.2.testBit t<;>simp[j,l]
theorem L4{p:Type}{f:List It->List p}{l:List It}(j:∀k x,l[k]?=nJ x->f (l.take k) <+: f (l.take (k+1))):∀n,n<=l.length->f (l.take (l.length-n)) <+: f l
 | 0,_=>by simp
 | n+1,h=>by have o:=L4 j n mR;have i:=j (l.length-(n+1)) _ (eG mR);rw[show l.length-(n+1)+1=l.length-n by omega]at i;exact i.trans o
def Yf(t:Nat)(tr:List It)(k:Nat)(i:k<=tr.length):Cu t (tr.take k) <+: Cu t tr:=by have:=L4 (f:=Cu t) (l:=tr) (fun k x h=>by rw[Qo h];exact List.prefix_append _ _) (tr.length-k) mR;rwa [show tr.length-(tr.length-k)=k by omega]at this
def bY(own t:Nat)(i:List (Nat×Nat))(k:Nat)(j:k<=i.length):C7 own t (i.take k) <+: C7 own t i:=by have:=L4 (f:=C7 own t) (l:=i) (fun k x h=>by rw[Qp h];exact List.prefix_append _ _) (i.length-k) mR;rwa [show i.length-(i.length-k)=k by omega]at this
def kV(own t:Nat)(i:List (Nat×Nat))(k:Nat)(j:k<=i.length):Ec own t (i.take k) <+: Ec own t i:=by have:=L4 (f:=Ec own t) (l:=i) (fun k x h=>by rw[Rq h];exact List.prefix_append _ _) (i.length-k) mR;rwa [show i.length-(i.length-k)=k by omega]at this
def UL{S:Nat}(h:t<m):(t∈Bq m S)<->S.testBit t=true:=by unfold Bq;simp[h]
theorem Tg{S:Nat}(h:t<m):decide (t∈Bq m S)=S.testBit t:=by
 cases i:S.testBit t with
 | true=>exact decide_eq_true ((UL h).2 i)
 | false=>exact decide_eq_false (fun j=>by rw[(UL h).1 j]at i;cases i)
def JD(x:It):Array nU:=#[.agg #[x.1,x.2]]
def SG{sb kb ob:Nat}{iv tv kv:nU}{o:List (Nat×Nat)}(ht:t<m)(hm:m<=1000)(hA:∀b,A b->b<w.heap.size)(a1:A sb)(a2:A tb)(a3:A kb)(a4:A ob)
  (b1:Ah w sb 151 #[iv,tv]) (b2:Ah w tb 3 #[t]) (b3:Ah w kb 156 #[kv]) (b4:Ah w ob 3 #[own]) (av:D6 A w tv tr) (au:Ik A w m kv o) :
  Seq Tryz.prog 117 #[(sb,0),(tb,0),(kb,0),(ob,0)] JD (Cu t tr++C7 own t o++Ec own t o) A w:=by
 intro be J Jx W hW hJ b0 hY h0;obtain⟨At,ct,rfl,aj⟩:=av.form;obtain⟨Ak,ck,rfl,b9⟩:=au.form;have ak:=hW.size;have ab:Bm A w W:=fun b l=>hW.block b (hA b l) id
 have ad:∀b,A b->b<W.heap.size:=fun b l=>AK (hA b l) ak
 have aq:=av.Bu (fun _=>id) ak ab;have ao:=au.Bu (fun _=>id) ak ab;obtain⟨n,hn⟩:∃n,tr.length=n:=⟨_,rfl⟩
 obtain⟨q,hq⟩:∃q,o.length=q:=⟨_,rfl⟩
 rw[hn]at aq aj;rw[hq]at ao b9;have ah:Hid (∀y:nS,W.heap.size<=y.heap.size->Bm A W y->sb<y.heap.size/\tb<y.heap.size/\kb<y.heap.size/\ob<y.heap.size/\nQ y (sb,1)=nJ (nC At n ct)/\nQ y (tb,0)=nJ (nE nM t)/\nQ y (kb,0)=nJ (nC Ak q ck)/\nQ y (ob,0)=nJ (nE nM own)):=Hd (fun y i hs=>by
  refine⟨AK (ad _ a1) i,AK (ad _ a2) i,AK (ad _ a3) i,AK (ad _ a4) i,?_,?_,?_,?_⟩
  ·rw[hs.cell a1,ab.cell a1,<-hn];exact b1.cell 1
  ·rw[hs.cell a2,ab.cell a2];exact b2.cell 0
  ·rw[hs.cell a3,ab.cell a3,<-hq];exact b3.cell 0
  ·rw[hs.cell a4,ab.cell a4];exact b4.cell 0)
 have HY:=Hd hY;have HJ:=Hd hJ;have bf:=Hd b0;have b7:=Hd h0;have b8:=Hd aq;have ax:=Hd ao;have a8:=Hd ad;have HN:=Hd hn;have HQ:=Hd hq;have HT:=Hd ht;have HM:=Hd hm;obtain⟨xs,aw⟩:∃xs,Cu t tr++C7 own t o++Ec own t o=xs:=⟨_,rfl⟩
 rw[aw]at HY ⊢;have ai:=Hd aw;have an:Hid (∀(pre:List It) (x:It) (y:nS) (al:Obj),pre++[x] <+: xs->W.heap.size<=y.heap.size->Bm A W y->J pre A y->YieldAt Fence.wide 0 Tryz.prog be (JD x) (y.alloc al) fun e W'=>
   W.heap.size<=W'.heap.size/\Bm A W W'/\((e=nP (.bool true)/\J (pre++[x]) A W')\/(e=nP (.bool false)/\Jx () A W'))):=Hd (fun pre x y al hp i hs hj=>by
  have l:=AE y al;have aj:∀b,A b->b<y.heap.size:=fun b l=>AK (a8 b l) i
  refine(HY pre x A (y.alloc al) (HJ.step hj (Aj.AJ l)) hp (fun _=>id) (fun b ar=>AK (aj b ar) l.size)).mono ?_;rintro e W' ⟨h1,h2,h3⟩;exact⟨AY i (AY l.size h1),hs.trans (Bm.trans (fun b ar=>l.block b (aj b ar)) h2),h3⟩)
 obtain⟨s1,s2,s3,s4,c1,c2,c3,c4⟩:=ah W (AF _) (Bm.refl _ _);clear hY hJ b0 h0 aq ao ad hn hq ht hm aw HY hW ak ab av au hA a1 a2 a3 a4 b1 b2 b3 b4;refine callsIn_of_wp Tryz.func117 rfl trivial ?_ rfl;simp only[Tryz.ntmps117,List.size_toArray,List.length_cons,List.length_nil,Nat.reduceAdd,Nat.reduceSub,Array.replicate_succ,Array.replicate_zero,List.push_toArray,List.append_toArray,List.nil_append,List.cons_append]
 gi_wp2
 gi_loopw [15] (fun a7 wr=>∃k:Nat,k<=n/\a7=nE nM k/\Hid (W.heap.size<=wr.heap.size/\Bm A W wr/\J (Cu t (tr.take k)) A wr)) (fun a7 _=>n-(intOf a7).toNat)
 case atStart=>exact⟨0,A0 _,rfl,Hd ⟨AF _,Bm.refl _ _,by simpa [Cu] using b7.out⟩⟩
 case round=>
  obtain⟨k,hk,rfl,j⟩:=hrel;obtain⟨s1,s2,s3,s4,c1,c2,c3,c4⟩:=ah wr j.1 j.2.1;by_cases ba:k<n
  ·obtain⟨⟨I,C⟩,hx⟩:∃x,tr[k]?=nJ x:=⟨_,eG (by rw[HN.out];exact ba)⟩
   obtain⟨b,off,rfl,az,b5,d0,d1⟩:=(b8.Bu (A':=A) (fun _=>id) j.1 j.2.1).at_ hx;have a6:=Qo (t:=t) hx;have aa:Cu t (tr.take (k+1)) <+: xs:=by rw[<-ai.out,List.append_assoc];exact(Yf t tr (k+1) (by rw[HN.out];omega)).trans (List.prefix_append _ _)
   simp only at d0 d1 a6;have a5:=Hd a6;have ae:=Hd aa;clear a6 aa hx;have a9:Hid (¬(0<t/\I=t)->∀y,Below wr wr y->W.heap.size<=y.heap.size/\Bm A W y/\J (Cu t (tr.take (k+1))) A y):=Hd (fun ag y i=>by rw[a5.out,if_neg ag,List.append_nil];exact⟨AY j.1 i.size,j.2.1.trans (fun b l=>i.block b (AK (a8 b l) j.1)),HJ.step j.2.2 (Aj.AJ i)⟩)
   by_cases hz:0<t
   ·have bd:(0:Int)<(t:Int):=by omega
    by_cases p:I=t
    ·have af:((I:Int)==(t:Int))=true:=by rw[p];simp
     have i:=an (Cu t (tr.take k)) (1,C) wr (nO #[I,C] 210) (by have h:=ae.out;rw[a5.out,if_pos ⟨hz,p⟩]at h;exact h) j.1 j.2.1 j.2.2;obtain⟨fn,b6,assign,ay,i,hR⟩:=i;rw[show JD (1,C)=#[.agg #[nE nM 1,C]] from rfl]at i;have HR:=Hd hR;have R:=Hd (And.intro hz p);clear hR p hz
     gi_wp2_with fail
     refine⟨rfl,HR.mono ?_⟩;rintro e w3 ⟨U,a0,(⟨rfl,P⟩|⟨rfl,P⟩)⟩
     ·have T:Hid (W.heap.size<=w3.heap.size/\Bm A W w3/\J (Cu t (tr.take (k+1))) A w3):=Hd ⟨U,a0,by rw[a5.out,if_pos R.out];exact P⟩
      clear U a0 P HR i
      gi_wp2
      go_roundw
      case rel=>exact⟨k+1,mR,mY,T⟩
      case measure=>simp[intOf];omega
     ·have T:=Hd (And.intro U (And.intro a0 P))
      clear U a0 P HR i
      gi_wp2
      refine bodyPost_ret (results_none rfl _ _ _) rfl ?_;exact⟨⟨_,rfl⟩,A,fun _=>id,fun b l=>AK (a8 b l) T.1,.inr T.2.2⟩
    ·have af:((I:Int)==(t:Int))=false:=by rw[bN];omega
     have R:=Hd p;clear p
     gi_wp2
     repeat (first|(refine⟨fun _ h=>(by cases h),?_⟩;try gi_wp2)|(refine⟨trivial,?_⟩;try gi_wp2))
     refine⟨⟨k+1,mR,mY,Hd (a9 (fun h=>R h.2) _ (AE _ _))⟩,?_⟩;simp[intOf];omega
   ·have bd:¬(0:Int)<(t:Int):=by omega
    have HZ:=Hd hz;clear hz
    gi_wp2
    repeat (first|(refine⟨fun _ h=>(by cases h),?_⟩;try gi_wp2)|(refine⟨trivial,?_⟩;try gi_wp2))
    refine⟨⟨k+1,mR,mY,Hd (a9 (fun h=>HZ h.1) _ (AE _ _))⟩,?_⟩;simp[intOf];omega
  ·obtain rfl:k=n:=by omega
   have H1:Hid (W.heap.size<=wr.heap.size/\Bm A W wr/\J (Cu t tr) A wr):=Hd (by have h:=j.out;rw[Dd (by rw[HN.out];exact AF _)]at h;exact h)
   clear j;rename nS=>w1
   gi_wp2
   gi_loopw [38] (fun a7 wr=>∃k:Nat,k<=q/\a7=nE nM k/\Hid (W.heap.size<=wr.heap.size/\Bm A W wr/\J (Cu t tr++C7 own t (o.take k)) A wr)) (fun a7 _=>q-(intOf a7).toNat)
   case atStart=>exact⟨0,A0 _,rfl,Hd ⟨H1.1,H1.2.1,by simpa [C7] using H1.2.2⟩⟩
   case round=>
    obtain⟨k,hk,rfl,j⟩:=hrel;obtain⟨s1,s2,s3,s4,c1,c2,c3,c4⟩:=ah wr j.1 j.2.1;by_cases bb:k<q
    ·obtain⟨⟨I,C⟩,hx⟩:∃x,o[k]?=nJ x:=⟨_,eG (by rw[HQ.out];exact bb)⟩
     obtain⟨b,off,u,rfl,az,b5,d0,d1,hu⟩:=(ax.Bu (A':=A) (fun _=>id) j.1 j.2.1).at_ hx;have a6:=Qp (own:=own) (t:=t) hx;have aa:Cu t tr++C7 own t (o.take (k+1)) <+: xs:=by rw[<-ai.out];exact(List.prefix_append_right_inj _ |>.2 (bY own t o (k+1) (by rw[HQ.out];omega))).trans (List.prefix_append _ _)
     simp only at d0 d1 a6 hu;obtain⟨Au,cu,rfl⟩:=hu.shape;have HC:Hid (∀y,Below wr wr y->() 34 #[nC Au (Bq m C).length cu,t] y fun e w'=>e=nP (.bool (C.testBit t))/\w'=y):=Hd (fun y i=>by have h:=Mt (hu.1.later i) (AY (Le m C) (by have:=HM.out;omega)) t;rwa [show decide (t∈Bq m C)=C.testBit t from Tg HT.out]at h)
     have a5:=Hd a6;have ae:=Hd aa;clear a6 aa hx hu;generalize (Bq m C).length=nu at *;have a9:Hid (¬(I=own/\C.testBit t=true)->∀y,Below wr wr y->W.heap.size<=y.heap.size/\Bm A W y/\J (Cu t tr++C7 own t (o.take (k+1))) A y):=Hd (fun ag y i=>by rw[a5.out,if_neg ag,List.append_nil];exact⟨AY j.1 i.size,j.2.1.trans (fun b l=>i.block b (AK (a8 b l) j.1)),HJ.step j.2.2 (Aj.AJ i)⟩)
     by_cases p:I=own
     ·have af:((I:Int)==(own:Int))=true:=by rw[p];simp
      cases l:C.testBit t with
      | false=>
       rw[l]at HC;have R:=Hd l;clear l p
       gi_wp2_with (refine⟨trivial,rfl,?_⟩;gi_at_call 34;refine(callsIn_wide.2 (HC _ (AE _ _))).mono ?_;rintro e w1 ⟨rfl,rfl⟩)
       gi_wp2
       repeat (first|(refine⟨fun _ h=>(by cases h),?_⟩;try gi_wp2)|(refine⟨trivial,?_⟩;try gi_wp2))
       refine⟨⟨k+1,mR,mY,Hd (a9 (fun h=>by have h2:=h.2;rw[R.out]at h2;cases h2) _ (AE _ _))⟩,?_⟩;simp[intOf];omega
      | true=>
       rw[l]at HC;have i:=an (Cu t tr++C7 own t (o.take k)) (3,0) wr (nO #[I,nC Au nu cu] 212) (by have h:=ae.out;rw[a5.out,if_pos ⟨p,l⟩,<-List.append_assoc]at h;exact h) j.1 j.2.1 j.2.2;obtain⟨fn,b6,assign,ay,i,hR⟩:=i;rw[show JD (3,0)=#[.agg #[nE nM 3,nE nM 0]] from rfl]at i;have HR:=Hd hR;have R:=Hd (And.intro p l);clear hR p l
       gi_wp2_with (refine⟨trivial,rfl,?_⟩;gi_at_call 34;refine(callsIn_wide.2 (HC _ (AE _ _))).mono ?_;rintro e w1 ⟨rfl,rfl⟩)
       refine⟨rfl,HR.mono ?_⟩;rintro e w3 ⟨U,a0,(⟨rfl,P⟩|⟨rfl,P⟩)⟩
       ·have T:Hid (W.heap.size<=w3.heap.size/\Bm A W w3/\J (Cu t tr++C7 own t (o.take (k+1))) A w3):=Hd ⟨U,a0,by rw[a5.out,if_pos R.out,<-List.append_assoc];exact P⟩
        clear U a0 P HR i
        gi_wp2
        go_roundw
        case rel=>exact⟨k+1,mR,mY,T⟩
        case measure=>simp[intOf];omega
       ·have T:=Hd (And.intro U (And.intro a0 P))
        clear U a0 P HR i
        gi_wp2
        refine bodyPost_ret (results_none rfl _ _ _) rfl ?_;exact⟨⟨_,rfl⟩,A,fun _=>id,fun b l=>AK (a8 b l) T.1,.inr T.2.2⟩
     ·have af:((I:Int)==(own:Int))=false:=by rw[bN];omega
      have R:=Hd p;clear p
      gi_wp2
      repeat (first|(refine⟨fun _ h=>(by cases h),?_⟩;try gi_wp2)|(refine⟨trivial,?_⟩;try gi_wp2))
      refine⟨⟨k+1,mR,mY,Hd (a9 (fun h=>R h.1) _ (AE _ _))⟩,?_⟩;simp[intOf];omega
    ·obtain rfl:q=k:=by omega
     have H2:Hid (W.heap.size<=wr.heap.size/\Bm A W wr/\J (Cu t tr++C7 own t o) A wr):=Hd (by have h:=j.out;rw[Dd (by rw[HQ.out];exact AF _)]at h;exact h)
     clear j;rename nS=>w2
     gi_wp2
     gi_loopw [61] (fun a7 wr=>∃k:Nat,k<=q/\a7=nE nM k/\Hid (W.heap.size<=wr.heap.size/\Bm A W wr/\J (Cu t tr++C7 own t o++Ec own t (o.take k)) A wr)) (fun a7 _=>q-(intOf a7).toNat)
     case atStart=>exact⟨0,A0 _,rfl,Hd ⟨H2.1,H2.2.1,by simpa [Ec] using H2.2.2⟩⟩
     case round=>
      obtain⟨k,hk,rfl,j⟩:=hrel;obtain⟨s1,s2,s3,s4,c1,c2,c3,c4⟩:=ah wr j.1 j.2.1;by_cases bc:k<q
      ·obtain⟨⟨I,C⟩,hx⟩:∃x,o[k]?=nJ x:=⟨_,eG (by rw[HQ.out];exact bc)⟩
       obtain⟨b,off,u,rfl,az,b5,d0,d1,hu⟩:=(ax.Bu (A':=A) (fun _=>id) j.1 j.2.1).at_ hx;have a6:=Rq (own:=own) (t:=t) hx;have aa:Cu t tr++C7 own t o++Ec own t (o.take (k+1)) <+: xs:=by rw[<-ai.out];exact(List.prefix_append_right_inj _).2 (kV own t o (k+1) (by rw[HQ.out];omega))
       simp only at d0 d1 a6 hu;obtain⟨Au,cu,rfl⟩:=hu.shape;have HC:Hid (∀y,Below wr wr y->() 34 #[nC Au (Bq m C).length cu,t] y fun e w'=>e=nP (.bool (C.testBit t))/\w'=y):=Hd (fun y i=>by have h:=Mt (hu.1.later i) (AY (Le m C) (by have:=HM.out;omega)) t;rwa [show decide (t∈Bq m C)=C.testBit t from Tg HT.out]at h)
       have a5:=Hd a6;have ae:=Hd aa;clear a6 aa hx hu;generalize (Bq m C).length=nu at *;have a9:Hid (¬(I≠own/\C.testBit t=true)->∀y,Below wr wr y->W.heap.size<=y.heap.size/\Bm A W y/\J (Cu t tr++C7 own t o++Ec own t (o.take (k+1))) A y):=Hd (fun ag y i=>by rw[a5.out,if_neg ag,List.append_nil];exact⟨AY j.1 i.size,j.2.1.trans (fun b l=>i.block b (AK (a8 b l) j.1)),HJ.step j.2.2 (Aj.AJ i)⟩)
       by_cases p:I=own
       ·have af:((I:Int) != (own:Int))=false:=by rw[p];simp
        have R:=Hd p;clear p
        gi_wp2
        repeat (first|(refine⟨fun _ h=>(by cases h),?_⟩;try gi_wp2)|(refine⟨trivial,?_⟩;try gi_wp2))
        refine⟨⟨k+1,mR,mY,Hd (a9 (fun h=>h.1 R) _ (AE _ _))⟩,?_⟩;simp[intOf];omega
       ·have af:((I:Int) != (own:Int))=true:=by rw[bne_iff_ne];omega
        cases l:C.testBit t with
        | false=>
         rw[l]at HC;have R:=Hd l;clear l p
         gi_wp2_with (refine⟨trivial,rfl,?_⟩;gi_at_call 34;refine(callsIn_wide.2 (HC _ (AE _ _))).mono ?_;rintro e w1 ⟨rfl,rfl⟩)
         gi_wp2
         repeat (first|(refine⟨fun _ h=>(by cases h),?_⟩;try gi_wp2)|(refine⟨trivial,?_⟩;try gi_wp2))
         refine⟨⟨k+1,mR,mY,Hd (a9 (fun h=>by have h2:=h.2;rw[R.out]at h2;cases h2) _ (AE _ _))⟩,?_⟩;simp[intOf];omega
        | true=>
         rw[l]at HC;have i:=an (Cu t tr++C7 own t o++Ec own t (o.take k)) (2,I) wr (nO #[I,nC Au nu cu] 212) (by have h:=ae.out;rw[a5.out,if_pos ⟨p,l⟩,<-List.append_assoc]at h;exact h) j.1 j.2.1 j.2.2;obtain⟨fn,b6,assign,ay,i,hR⟩:=i;rw[show JD (2,I)=#[.agg #[nE nM 2,I]] from rfl]at i;have HR:=Hd hR;have R:=Hd (And.intro p l);clear hR p l
         gi_wp2_with (refine⟨trivial,rfl,?_⟩;gi_at_call 34;refine(callsIn_wide.2 (HC _ (AE _ _))).mono ?_;rintro e w1 ⟨rfl,rfl⟩)
         refine⟨rfl,HR.mono ?_⟩;rintro e w3 ⟨U,a0,(⟨rfl,P⟩|⟨rfl,P⟩)⟩
         ·have T:Hid (W.heap.size<=w3.heap.size/\Bm A W w3/\J (Cu t tr++C7 own t o++Ec own t (o.take (k+1))) A w3):=Hd ⟨U,a0,by rw[a5.out,if_pos R.out,<-List.append_assoc];exact P⟩
          clear U a0 P HR i
          gi_wp2
          go_roundw
          case rel=>exact⟨k+1,mR,mY,T⟩
          case measure=>simp[intOf];omega
         ·have T:=Hd (And.intro U (And.intro a0 P))
          clear U a0 P HR i
          gi_wp2
          refine bodyPost_ret (results_none rfl _ _ _) rfl ?_;exact⟨⟨_,rfl⟩,A,fun _=>id,fun b l=>AK (a8 b l) T.1,.inr T.2.2⟩
      ·obtain rfl:k=q:=by omega
       have H1:Hid (W.heap.size<=wr.heap.size/\Bm A W wr/\J xs A wr):=Hd (by have h:=j.out;rw[Dd (by rw[HQ.out];exact AF _),ai.out]at h;exact h)
       gi_wp2
       refine bodyPost_end (results_none rfl _ _ _) rfl ?_;exact⟨⟨_,rfl⟩,A,fun _=>id,fun b l=>AK (a8 b l) H1.1,.inl H1.2.2⟩
end
section
attribute [local go_sem] Oper.semAt_some
def Ld(T m:Nat)(w:nS)(n:Nat)(xs:List nU)(o:nU)(wr:nS):Prop:=∃A c,o=nC A n c/\wr.ownsRow w T m (nC A n c) n xs/\Below w w wr
def Fo(T m tb:Nat)(w:nS)(i n:Nat)(xs:List nU)(A:Nat->Prop)(wr:nS):Prop:=
 w.heap.size<=i/\¬A i/\∃o,Ah wr i tb #[o]/\Ld T m w n xs o wr/\∀b,o.ownBlock=nJ b->¬A b
def Fo.Jz{T l:Nat}{j:nS}(h:Fo T m tb w l n xs A W)(hB:w.heap.size<=B)(i:Aj (fun b=>B<=b/\A b) W j)(J:∀b,A' b->A b\/W.heap.size<=b):Fo T m tb w l n xs A' j:=by obtain⟨U,o,a0,p,h4,t⟩:=h;obtain⟨R,c,rfl,C,I⟩:=h4;refine⟨U,fun h=>(J _ h).elim o (by have:=p.lt;omega),_,i.Ap p (fun h=>o h.2),⟨R,c,rfl,i.own C (fun g hg h=>t g hg h.2),I.trans (i.below I.size (fun k hk h=>by omega))⟩,fun b P h=>(J _ h).elim (t b P) (by have:=(BR C b P).1;omega)⟩
def Fo.put{T i N:Nat}{p l:nS}{ys:List nU}{A2:Option Addr}{c2:Nat}(P:w.heap.size<=i)(I:¬A i)(o:Ah W i tb #[v])(hv:∀b,v.ownBlock=nJ b->¬A b)(a5:∀b,A b->b<W.heap.size)(ho:W.ownsRow w T m v n xs)
  (C:Below w w W) (t:Aj (fun _=>False) W p) (r2:p.grownBy l v.ownBlock) (j:(Value.slice A2 N c2).ownBlock=v.ownBlock\/(Value.slice A2 N c2).ownBlock=nJ p.heap.size) (r1:l.ownsRow w T m (nC A2 N c2) N ys) (hT:T≠tb) :
  Fo T m tb w i N ys A (l.setCell (i,0) (nC A2 N c2))/\Aj (fun b=>w.heap.size<=b/\¬A b) W (l.setCell (i,0) (nC A2 N c2)):=by
 have U:v.ownBlock≠nJ i:=DL ho o hT;have a7:=t.size;have a6:=o.lt;have a2:Ah l i tb #[v]:=(Aj.Cy r2).Ap (t.Ap o id) U;have a4:(Value.slice A2 N c2).ownBlock≠nJ i:=by
  rcases j with j|j<;>rw[j]
  ·exact U
  ·intro h
   have:=Option.some.inj h;omega
 have J:∀b,v.ownBlock=nJ b->w.heap.size<=b/\¬A b:=fun b h=>⟨(BR ho b h).2,hv b h⟩
 have a1:∀b,(Value.slice A2 N c2).ownBlock=nJ b->w.heap.size<=b/\¬A b:=fun b h=>by
  rcases j with j|j
  ·exact J b (by rw[<-j];exact h)
  ·rw[j]at h
   have:=Option.some.inj h;have hs:=C.size;exact⟨mR,fun a0=>by have:=a5 b a0;omega⟩
 have a3:Aj (fun b=>w.heap.size<=b/\¬A b) W l:=(t.mono (fun _=>False.elim)).next ((Aj.Cy r2).mono J);have R:Aj (fun b=>w.heap.size<=b/\¬A b) W (l.setCell (i,0) (nC A2 N c2)):=a3.set (p:=⟨i,0,nK⟩) (.inr ⟨P,I⟩) _;refine⟨⟨P,I,_,by simpa using a2.AW 0 (nC A2 N c2),⟨A2,c2,rfl,Ee r1 (p:=⟨i,0,nK⟩) a4 _,C.trans (R.below C.size (fun k hk h=>by omega))⟩,fun b o=>(a1 b o).2⟩,R⟩
def PQ{i:nS}(h:Aj (fun b=>B<=b/\¬A b) W i)(l:∀b,A b->b<W.heap.size):Bm A W i:=fun b j=>h.block b (l b j) (fun h=>h.2 j)
def Fo.Bu{T j:Nat}{i:nS}(h:Fo T m tb w j n xs A W)(l:Aj (fun _=>False) W i):Fo T m tb w j n xs A i:=
 h.Jz (AF _) (l.mono (fun _=>False.elim)) (fun _=>.inl)
def Fo.R9{T i:Nat}(h:Fo T m tb w i n xs A W){D:Nat}(I:w.heap.size<=D)(l:A D)(t:Obj):∃o,nQ W (i,0)=nJ o/\Ld T m w n xs o (W.putObj D t):=by
 have C:Fo T m tb w i n xs A (W.putObj D t):=h.Jz (AF _) ((Aj.refl _ _).put (.inr ⟨I,l⟩) _) (fun _=>.inl);have J:D≠i:=fun e=>h.2.1 (e▸l)
 obtain⟨-,-,o,p,a0,-⟩:=h;obtain⟨-,-,o2,P,U,-⟩:=C;have R:o2=o:=by have:=P;unfold Ah at this;rw[World.putObj_heap_other (fun h=>J h.symm),show W.heap[i]?=nJ (nO #[o] tb (0,0)) from p]at this;simpa using this.symm
 have j:=p.cell 0;simp at j;exact⟨o,j,by rw[<-R];exact U⟩
section
variable {F:Fence} {k:Nat}
def VX{o:Oper}{a:Act}{K:Act->nS->Prop}{t e:TypeId}{size bytes:Nat}(E:El P t e size bytes)(s x:Operand)
  (i:o.op=.call {callee:=.builtin .append,args:=#[s,x],argTypes:=#[t,t]}) {base N:Nat} {src:nU} {news:List nU} (T:a.eval s=v) (hx:a.eval x=src)
  (J:w.ownsRow base e size v n xs) (U:Ba w src m size news) (l:n+m=N) (j:N<=maxLen) (C:N*bytes<=140737488355328) (p:base<=w.heap.size)
  (h:∀A c w',w'.ownsRow base e size (nC A N c) N (xs++news)->AI base [e] w w'->(w.grownBy w' v.ownBlock/\((Value.slice A N c).ownBlock=v.ownBlock\/(Value.slice A N c).ownBlock=nJ w.heap.size))->K (a.put o.dst (nC A N c)) w'):o.wpIn F k P a w K Q:=by
 obtain⟨A,c,w',R,r1,r2,r3⟩:=M3 (P:=P) (ty:=o.type) E J U l j C p;unfold Oper.wpIn;refine⟨?_,?_⟩
 ·simp[Oper.about,i,resolve,Target.leads,Sem.run_pure]
 ·rw[Oper.semAt_plain F _ _ (by rw[i];intro c I;cases I)]
  simp only[execOp,i,resolve,invoke,builtin,Sem.run_bind,Sem.run_pure,Result.andThen_ok,List.map_toArray,List.map_cons,List.map_nil,T,hx,R];exact h A c w' r1 r2 r3
def S1{i:Array Oper}{rest:List Oper}{o:Oper}{a:Act}{t e:TypeId}{size bytes:Nat}(E:El P t e size bytes)(s x:Operand)(J:o.guard=nK)
  (R:o.op=.call {callee:=.builtin .append,args:=#[s,x],argTypes:=#[t,t]}) {base N:Nat} {src:nU} {news:List nU} (U:a.eval s=v) (hx:a.eval x=src)
  (T:w.ownsRow base e size v n xs) (a0:Ba w src m size news) (p:n+m=N) (j:N<=maxLen) (I:N*bytes<=140737488355328) (C:base<=w.heap.size)
  (h:∀A c w',w'.ownsRow base e size (nC A N c) N (xs++news)->AI base [e] w w'->(w.grownBy w' v.ownBlock/\((Value.slice A N c).ownBlock=v.ownBlock\/(Value.slice A N c).ownBlock=nJ w.heap.size))->wpListIn F k P i Q rest (a.put o.dst (nC A N c)) w'):wpListIn F k P i Q (o::rest) a w:=
 wpListIn_plain J fun _ l=>VX E s x R U hx T a0 p j I C fun A c w' r1 r2 r3=>l _ _ (h A c w' r1 r2 r3)
end
def Ck(B:Nat)(w:nS):List Deferred->Prop
 | []=>True
 | d::i=>(∃D,B<=D/\d={target:=.collected D,args:=#[]}/\w.heap[D]?=nJ (.deferred (nJ []))/\∀x∈i,x≠d)/\Ck B w i
theorem Ck.Bu:∀{i:List Deferred},Ck B w i->(∀D,B<=D->w.heap[D]?=nJ (.deferred (nJ []))->({target:=.collected D,args:=#[]}:Deferred)∈i->w'.heap[D]?=nJ (.deferred (nJ [])))->Ck B w' i
 | [],_,_=>trivial
 | d::i,⟨⟨D,j,l,o,p⟩,t⟩,h=>⟨⟨D,j,l,h D j o (by rw[l];simp),p⟩,t.Bu (fun D C J I=>h D C J (by simp[I]))⟩
def Ck.Ay{X:Nat->Prop}{j:List Deferred}(h:Ck B w j)(p:Aj X w w')(o:∀D,B<=D->w.heap[D]?=nJ (.deferred (nJ []))->¬X D):Ck B w' j:=
 h.Bu fun D l i _=>(p.block D (aG.1 i).1 (o D l i)).trans i
theorem Ck.lt:∀{i:List Deferred},Ck B w i->∀D,({target:=.collected D,args:=#[]}:Deferred)∈i->D<w.heap.size
 | d::i,⟨⟨D,C,l,o,I⟩,p⟩,j,t=>by
  rcases List.mem_cons.1 t with e|e
  ·rw[l]at e
   cases e
   exact(aG.1 o).1
  ·exact p.lt j e
def Ck.more{D:Nat}{i:List Deferred}(h:Ck B w i)(l:B<=D)(o:w.heap[D]?=nJ (.deferred (nJ [])))(p:∀j,({target:=.collected j,args:=#[]}:Deferred)∈i->j < D):Ck B w ({target:=.collected D,args:=#[]}::i):=by refine⟨⟨D,l,rfl,o,fun x t e=>?_⟩,h⟩;subst e;exact Nat.lt_irrefl _ (p D t)
theorem Qb{F:Fence}{n:Nat}{P:Program}{fn:Func}{tmps:Array nU}{R:Ending->nS->Prop}{B:Nat}:∀{i:List Deferred} {w:nS},Ck B w i->(∀w',Aj (fun b=>B<=b/\w.heap[b]?=nJ (.deferred (nJ []))) w w'->LeavesInM F n P fn tmps R [] .returning w')->LeavesInM F n P fn tmps R i .returning w
 | [],w,_,h=>h w (Aj.refl _ _)
 | d::i,w,⟨⟨D,C,I,j,J⟩,T⟩,h=>by
  subst I;refine⟨mV,.inl ⟨D,_,rfl,run_takeDeferred j,?_⟩⟩;have a0:=(aG.1 j).1;have a1:Aj (fun b=>B<=b/\w.heap[b]?=nJ (.deferred (nJ []))) w (w.putObj D (.deferred nK)):=(Aj.refl _ _).put (.inr ⟨C,j⟩) _;refine Qb (B:=B) (T.Bu (fun t a2 hx hm=>?_)) (fun w' U=>h w' (a1.next (U.mono (fun b l=>⟨l.1,?_⟩))))
  ·have o:t≠D:=fun e=>J _ hm (by rw[e])
   exact(World.putObj_heap_other o).trans hx
  ·have o:b≠D:=fun e=>by
    have p:=l.2;rw[e,World.putObj_heap_same a0]at p;cases p
   rw[<-World.putObj_heap_other o];exact l.2
end
