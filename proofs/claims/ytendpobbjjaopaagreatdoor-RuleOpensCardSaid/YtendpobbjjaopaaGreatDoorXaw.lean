/- . -/
import Derived.Test.YtendpobbjjaopaaGreatDoorXav
import Derived.TacticsIn
import Derived.TacticsInMore
import Derived.LoopNIn
import Derived.LoopIn
import Derived.OwnWalkIn
set_option linter.all false
set_option maxRecDepth 100000
set_option maxHeartbeats 16000000
namespace Go.Proofs.YtendpobbjjaopaaGreatDoor
open Go.RowKit
open Value renaming slice→oG,int→oH
open Option renaming some→oM,none→oN
open IntKind renaming i64→oO
open Obj renaming cells→oP
open Ending renaming returned→oQ
open World renaming cell?→oT
open Go renaming World→oU,Value→oV
variable{A A':Nat->Prop}{W w w':oU}{v:oV}{B k m n own t tb:Nat}{i l:List (Nat×Nat)}{x:Nat×Nat}{j:Option Addr}{xs:List oV}{P:Program}{Q:Exit->Act->oU->Prop}
section
attribute [local go_sem] Oper.semAt_some
def BV.cell(h:BV A w w'){b:Nat}(i:A b)(j:Nat):w'.cell? (b,j)=oT w (b,j):=World.cell?_of_block (h b i)
def Bq.BZ{sz:Nat}{f f':Nat->Nat->oV->Prop}(h:Bq A w v n sz f)(I:∀b,A b->A' b)(hs:w.heap.size<=w'.heap.size)(T:BV A w w')(P:∀k j x,k<n->j<sz->f k j x->f' k j x):Bq A' w' v n sz f':=by obtain⟨p,c,hv,hn,U,hr⟩:=h;refine⟨p,c,hv,hn,U,fun k o=>?_⟩;obtain⟨b,off,J,i,R,hx⟩:=hr k o;refine⟨b,off,J,I b i,A0 R hs,fun j l=>?_⟩;obtain⟨x,t,C⟩:=hx j l;exact⟨x,(T.cell i _).trans t,P k j x o l C⟩
def Ca.BZ{l:List Nat}(h:Ca A w v l)(I:∀b,A b->A' b)(hs:w.heap.size<=w'.heap.size)(hm:BV A w w'):Ca A' w' v l:=by obtain⟨⟨⟨t,c,o,P⟩,a1,a0⟩,j⟩:=h;refine⟨⟨⟨t,c,o,fun k x p=>?_⟩,a1,a0⟩,fun b J T=>I b (j b J T)⟩;obtain⟨b,off,i,U,R⟩:=P k x p;have hk:=(sG.1 p).1;have C:=j b (by rw[o,i];rfl) nX;exact⟨b,off,i,A0 U hs,(hm.cell C _).trans R⟩
def DX(A:Nat->Prop)(w:oU)(v:oV)(l:List It):Prop:=Bq A w v l.length 2 (fun k j x=>x=oH oO ((if j=0 then(l.getD k (0,0)).1 else(l.getD k (0,0)).2:Nat):Int))
def Ik(A:Nat->Prop)(w:oU)(m:Nat)(v:oV)(l:List (Nat×Nat)):Prop:=Bq A w v l.length 2 (fun k j x=>if j=0 then x=oH oO ((l.getD k (0,0)).1:Nat) else Ca A w x (Bs m (l.getD k (0,0)).2))
def DX.BZ{l:List It}(h:DX A w v l)(i:∀b,A b->A' b)(o:w.heap.size<=w'.heap.size)(j:BV A w w'):DX A' w' v l:=Bq.BZ h i o j (fun _ _ _ _ _ h=>h)
def Ik.BZ(h:Ik A w m v l)(p:∀b,A b->A' b)(C:w.heap.size<=w'.heap.size)(t:BV A w w'):Ik A' w' m v l:=Bq.BZ h p C t (fun k j x _ _ o=>by
 split at o
 ·rename_i i;rw[if_pos i];exact o
 ·rename_i i;rw[if_neg i];exact o.BZ p C t)
def DX.form{l:List It}(h:DX A w v l):∃i c,v=oG i l.length c/\l.length<=1000000:=by obtain⟨i,c,o,-,j,-⟩:=h;exact⟨i,c,o,j⟩
def Ik.form(h:Ik A w m v l):∃i c,v=oG i l.length c/\l.length<=1000000:=by obtain⟨i,c,o,-,j,-⟩:=h;exact⟨i,c,o,j⟩
def DX.at_{i:Option Addr}{c:Nat}{l:List It}(h:DX A w (oG i n c) l){x:It}(t:l[k]?=oM x):∃b off,i=oM ⟨b,off,oN⟩/\A b/\b<w.heap.size/\oT w ⟨b,off+k*2,oN⟩=oM (oH oO x.1)/\oT w ⟨b,off+k*2+1,oN⟩=oM (oH oO x.2):=by
 obtain⟨a0,c',hv,-,-,U⟩:=h;cases hv
 have R:=(sG.1 t).1;obtain⟨b,off,I,J,T,p⟩:=U k R;obtain⟨y0,h0,j⟩:=p 0 nX;obtain⟨y1,C,o⟩:=p 1 nX;have P:l.getD k (0,0)=x:=by rw[dG,t];rfl
 rw[P]at j o;refine⟨b,off,I,J,T,?_,?_⟩
 ·rw[<-Nat.add_zero (off+k*2),h0,j];rfl
 ·rw[C,o];rfl
def Ik.at_{c:Nat}(h:Ik A w m (oG j n c) l)(t:l[k]?=oM x):∃b off u,j=oM ⟨b,off,oN⟩/\A b/\b<w.heap.size/\oT w ⟨b,off+k*2,oN⟩=oM (oH oO x.1)/\oT w ⟨b,off+k*2+1,oN⟩=oM u/\Ca A w u (Bs m x.2):=by
 obtain⟨a0,c',hv,-,-,U⟩:=h;cases hv
 have R:=(sG.1 t).1;obtain⟨b,off,I,J,T,p⟩:=U k R;obtain⟨y0,h0,o⟩:=p 0 nX;obtain⟨y1,C,i⟩:=p 1 nX;have P:l.getD k (0,0)=x:=by rw[dG,t];rfl
 rw[P]at o i;refine⟨b,off,y1,I,J,T,?_,C,?_⟩
 ·rw[<-Nat.add_zero (off+k*2),h0,o]
 ·rw[if_neg nX]at i;exact i
def CA(t:Nat)(i:List It):List It:=(if 0<t then i.filter (fun x=>x.1==t) else[]).map fun x=>(1,x.2)
def C9(own t:Nat)(i:List (Nat×Nat)):List It:=(i.filter fun x=>x.1==own&&x.2.testBit t).map fun _=>(3,0)
def Ej(own t:Nat)(i:List (Nat×Nat)):List It:=(i.filter fun x=>x.1 != own&&x.2.testBit t).map fun x=>(2,x.1)
def Se(g:Gz)(j:List It)(i:List (Nat×Nat))(t:Nat):g.Ia j i t=CA t j++C9 g.R.length t i++Ej g.R.length t i:=rfl
def Ux{j:List It}{x:It}(h:j[k]?=oM x):CA t (j.take (k+1))=CA t (j.take k)++(if 0<t/\x.1=t then[(1,x.2)] else[]):=by
 unfold CA;rw[List.take_add_one,h];by_cases i:0<t
 ·simp only[if_pos i,Option.toList_some,List.filter_append,BB]
  by_cases l:x.1=t
  ·simp[l,i]
  ·simp[l]
 ·simp[i]
def TG(h:i[k]?=oM x):C9 own t (i.take (k+1))=C9 own t (i.take k)++(if x.1=own/\x.2.testBit t=true then[(3,0)] else[]):=by
 unfold C9;rw[List.take_add_one,h];simp only[Option.toList_some,List.filter_append,BB];by_cases j:x.1=own
 ·cases l:x.2.testBit t<;>simp[j,l]
 ·simp[j]
def SL(h:i[k]?=oM x):Ej own t (i.take (k+1))=Ej own t (i.take k)++(if x.1≠own/\x.2.testBit t=true then[(2,x.1)] else[]):=by
 unfold Ej;rw[List.take_add_one,h];simp only[Option.toList_some,List.filter_append,BB];by_cases j:x.1=own
 ·simp[j]
 ·cases l:x.2.testBit t<;>simp[j,l]
theorem Nz{p:Type}{f:List It->List p}{l:List It}(j:∀k x,l[k]?=oM x->f (l.take k) <+: f (l.take (k+1))):∀n,n<=l.length->f (l.take (l.length-n)) <+: f l
 | 0,_=>by simp
 | n+1,h=>by have o:=Nz j n nX;have i:=j (l.length-(n+1)) _ (eG nX);rw[show l.length-(n+1)+1=l.length-n by omega]at i;exact i.trans o
def VY(t:Nat)(i:List It)(k:Nat)(j:k<=i.length):CA t (i.take k) <+: CA t i:=by have:=Nz (f:=CA t) (l:=i) (fun k x h=>by rw[Ux h];exact List.prefix_append _ _) (i.length-k) nX;rwa [show i.length-(i.length-k)=k by omega]at this
def aN(own t:Nat)(i:List (Nat×Nat))(k:Nat)(j:k<=i.length):C9 own t (i.take k) <+: C9 own t i:=by have:=Nz (f:=C9 own t) (l:=i) (fun k x h=>by rw[TG h];exact List.prefix_append _ _) (i.length-k) nX;rwa [show i.length-(i.length-k)=k by omega]at this
def iZ(own t:Nat)(i:List (Nat×Nat))(k:Nat)(j:k<=i.length):Ej own t (i.take k) <+: Ej own t i:=by have:=Nz (f:=Ej own t) (l:=i) (fun k x h=>by rw[SL h];exact List.prefix_append _ _) (i.length-k) nX;rwa [show i.length-(i.length-k)=k by omega]at this
def SY{S:Nat}(h:t<m):(t∈Bs m S)<->S.testBit t=true:=by unfold Bs;simp[h]
theorem Vk{S:Nat}(h:t<m):decide (t∈Bs m S)=S.testBit t:=by
 cases i:S.testBit t with
 | true=>exact decide_eq_true ((SY h).2 i)
 | false=>exact decide_eq_false (fun j=>by rw[(SY h).1 j]at i;cases i)
def J6(x:It):Array oV:=#[.agg #[x.1,x.2]]
def Qt{sb kb ob:Nat}{iv tv kv:oV}{p:List It}{o:List (Nat×Nat)}(ht:t<m)(hm:m<=1000)(hA:∀b,A b->b<w.heap.size)(a1:A sb)(a2:A tb)(a3:A kb)(a4:A ob)
  (b1:Ah w sb 119 #[iv,tv]) (b2:Ah w tb 3 #[t]) (b3:Ah w kb 124 #[kv]) (b4:Ah w ob 3 #[own]) (aw:DX A w tv p) (av:Ik A w m kv o) :
  Seq Tryz.prog 93 #[(sb,0),(tb,0),(kb,0),(ob,0)] J6 (CA t p++C9 own t o++Ej own t o) A w:=by
 intro bf J Jx W hW hJ b5 hY h0;obtain⟨At,ct,rfl,ak⟩:=aw.form;obtain⟨Ak,ck,rfl,ba⟩:=av.form;have al:=hW.size;have ad:BV A w W:=fun b l=>hW.block b (hA b l) id
 have ae:∀b,A b->b<W.heap.size:=fun b l=>A0 (hA b l) al
 have ar:=aw.BZ (fun _=>id) al ad;have aq:=av.BZ (fun _=>id) al ad;obtain⟨n,hn⟩:∃n,p.length=n:=⟨_,rfl⟩
 obtain⟨q,hq⟩:∃q,o.length=q:=⟨_,rfl⟩
 rw[hn]at ar ak;rw[hq]at aq ba;have ai:Hid (∀y:oU,W.heap.size<=y.heap.size->BV A W y->sb<y.heap.size/\tb<y.heap.size/\kb<y.heap.size/\ob<y.heap.size/\oT y (sb,1)=oM (oG At n ct)/\oT y (tb,0)=oM (oH oO t)/\oT y (kb,0)=oM (oG Ak q ck)/\oT y (ob,0)=oM (oH oO own)):=Hd (fun y i hs=>by
  refine⟨A0 (ae _ a1) i,A0 (ae _ a2) i,A0 (ae _ a3) i,A0 (ae _ a4) i,?_,?_,?_,?_⟩
  ·rw[hs.cell a1,ad.cell a1,<-hn];exact b1.cell 1
  ·rw[hs.cell a2,ad.cell a2];exact b2.cell 0
  ·rw[hs.cell a3,ad.cell a3,<-hq];exact b3.cell 0
  ·rw[hs.cell a4,ad.cell a4];exact b4.cell 0)
 have HY:=Hd hY;have HJ:=Hd hJ;have bh:=Hd b5;have b8:=Hd h0;have b9:=Hd ar;have ay:=Hd aq;have a9:=Hd ae;have HN:=Hd hn;have HQ:=Hd hq;have HT:=Hd ht;have HM:=Hd hm;obtain⟨xs,ax⟩:∃xs,CA t p++C9 own t o++Ej own t o=xs:=⟨_,rfl⟩
 rw[ax]at HY ⊢;have aj:=Hd ax;have ao:Hid (∀(pre:List It) (x:It) (y:oU) (an:Obj),pre++[x] <+: xs->W.heap.size<=y.heap.size->BV A W y->J pre A y->YieldAt Fence.wide 0 Tryz.prog bf (J6 x) (y.alloc an) fun e W'=>
   W.heap.size<=W'.heap.size/\BV A W W'/\((e=oQ (.bool true)/\J (pre++[x]) A W')\/(e=oQ (.bool false)/\Jx () A W'))):=Hd (fun pre x y an hp i hs hj=>by
  have l:=AG y an;have ak:∀b,A b->b<y.heap.size:=fun b l=>A0 (a9 b l) i
  refine(HY pre x A (y.alloc an) (HJ.step hj (Am.AJ l)) hp (fun _=>id) (fun b au=>A0 (ak b au) l.size)).mono ?_;rintro e W' ⟨h1,h2,h3⟩;exact⟨AW i (AW l.size h1),hs.trans (BV.trans (fun b au=>l.block b (ak b au)) h2),h3⟩)
 obtain⟨s1,s2,s3,s4,c1,c2,c3,c4⟩:=ai W (Ay _) (BV.refl _ _);clear hY hJ b5 h0 ar aq ae hn hq ht hm ax HY hW al ad aw av hA a1 a2 a3 a4 b1 b2 b3 b4;refine callsIn_of_wp Tryz.func93 rfl trivial ?_ rfl;simp only[Tryz.ntmps93,List.size_toArray,List.length_cons,List.length_nil,Nat.reduceAdd,Nat.reduceSub,Array.replicate_succ,Array.replicate_zero,List.push_toArray,List.append_toArray,List.nil_append,List.cons_append]
 gi_wp2
 gi_loopw [15] (fun a8 wr=>∃k:Nat,k<=n/\a8=oH oO k/\Hid (W.heap.size<=wr.heap.size/\BV A W wr/\J (CA t (p.take k)) A wr)) (fun a8 _=>n-(intOf a8).toNat)
 case atStart=>exact⟨0,AX _,rfl,Hd ⟨Ay _,BV.refl _ _,by simpa [CA] using b8.out⟩⟩
 case round=>
  obtain⟨k,hk,rfl,j⟩:=hrel;obtain⟨s1,s2,s3,s4,c1,c2,c3,c4⟩:=ai wr j.1 j.2.1;by_cases bb:k<n
  ·obtain⟨⟨P,I⟩,hx⟩:∃x,p[k]?=oM x:=⟨_,eG (by rw[HN.out];exact bb)⟩
   obtain⟨b,off,rfl,b0,b6,d0,d1⟩:=(b9.BZ (A':=A) (fun _=>id) j.1 j.2.1).at_ hx;have a7:=Ux (t:=t) hx;have ab:CA t (p.take (k+1)) <+: xs:=by rw[<-aj.out,List.append_assoc];exact(VY t p (k+1) (by rw[HN.out];omega)).trans (List.prefix_append _ _)
   simp only at d0 d1 a7;have a6:=Hd a7;have af:=Hd ab;clear a7 ab hx;have aa:Hid (¬(0<t/\P=t)->∀y,Below wr wr y->W.heap.size<=y.heap.size/\BV A W y/\J (CA t (p.take (k+1))) A y):=Hd (fun ah y i=>by rw[a6.out,if_neg ah,List.append_nil];exact⟨AW j.1 i.size,j.2.1.trans (fun b l=>i.block b (A0 (a9 b l) j.1)),HJ.step j.2.2 (Am.AJ i)⟩)
   by_cases hz:0<t
   ·have be:(0:Int)<(t:Int):=by omega
    by_cases C:P=t
    ·have ag:((P:Int)==(t:Int))=true:=by rw[C];simp
     have i:=ao (CA t (p.take k)) (1,I) wr (oP #[P,I] 163) (by have h:=af.out;rw[a6.out,if_pos ⟨hz,C⟩]at h;exact h) j.1 j.2.1 j.2.2;obtain⟨fn,b7,assign,az,i,hR⟩:=i;rw[show J6 (1,I)=#[.agg #[oH oO 1,I]] from rfl]at i;have HR:=Hd hR;have T:=Hd (And.intro hz C);clear hR C hz
     gi_wp2_with fail
     refine⟨rfl,HR.mono ?_⟩;rintro e w3 ⟨a0,a5,(⟨rfl,R⟩|⟨rfl,R⟩)⟩
     ·have U:Hid (W.heap.size<=w3.heap.size/\BV A W w3/\J (CA t (p.take (k+1))) A w3):=Hd ⟨a0,a5,by rw[a6.out,if_pos T.out];exact R⟩
      clear a0 a5 R HR i
      gi_wp2
      go_roundw
      case rel=>exact⟨k+1,nX,oD,U⟩
      case measure=>simp[intOf];omega
     ·have U:=Hd (And.intro a0 (And.intro a5 R))
      clear a0 a5 R HR i
      gi_wp2
      refine bodyPost_ret (results_none rfl _ _ _) rfl ?_;exact⟨⟨_,rfl⟩,A,fun _=>id,fun b l=>A0 (a9 b l) U.1,.inr U.2.2⟩
    ·have ag:((P:Int)==(t:Int))=false:=by rw[bN];omega
     have T:=Hd C;clear C
     gi_wp2
     repeat (first|(refine⟨fun _ h=>(by cases h),?_⟩;try gi_wp2)|(refine⟨trivial,?_⟩;try gi_wp2))
     refine⟨⟨k+1,nX,oD,Hd (aa (fun h=>T h.2) _ (AG _ _))⟩,?_⟩;simp[intOf];omega
   ·have be:¬(0:Int)<(t:Int):=by omega
    have HZ:=Hd hz;clear hz
    gi_wp2
    repeat (first|(refine⟨fun _ h=>(by cases h),?_⟩;try gi_wp2)|(refine⟨trivial,?_⟩;try gi_wp2))
    refine⟨⟨k+1,nX,oD,Hd (aa (fun h=>HZ h.1) _ (AG _ _))⟩,?_⟩;simp[intOf];omega
  ·obtain rfl:k=n:=by omega
   have H1:Hid (W.heap.size<=wr.heap.size/\BV A W wr/\J (CA t p) A wr):=Hd (by have h:=j.out;rw[Da (by rw[HN.out];exact Ay _)]at h;exact h)
   clear j;rename oU=>w1
   gi_wp2
   gi_loopw [38] (fun a8 wr=>∃k:Nat,k<=q/\a8=oH oO k/\Hid (W.heap.size<=wr.heap.size/\BV A W wr/\J (CA t p++C9 own t (o.take k)) A wr)) (fun a8 _=>q-(intOf a8).toNat)
   case atStart=>exact⟨0,AX _,rfl,Hd ⟨H1.1,H1.2.1,by simpa [C9] using H1.2.2⟩⟩
   case round=>
    obtain⟨k,hk,rfl,j⟩:=hrel;obtain⟨s1,s2,s3,s4,c1,c2,c3,c4⟩:=ai wr j.1 j.2.1;by_cases bc:k<q
    ·obtain⟨⟨P,I⟩,hx⟩:∃x,o[k]?=oM x:=⟨_,eG (by rw[HQ.out];exact bc)⟩
     obtain⟨b,off,u,rfl,b0,b6,d0,d1,hu⟩:=(ay.BZ (A':=A) (fun _=>id) j.1 j.2.1).at_ hx;have a7:=TG (own:=own) (t:=t) hx;have ab:CA t p++C9 own t (o.take (k+1)) <+: xs:=by rw[<-aj.out];exact(List.prefix_append_right_inj _ |>.2 (aN own t o (k+1) (by rw[HQ.out];omega))).trans (List.prefix_append _ _)
     simp only at d0 d1 a7 hu;obtain⟨Au,cu,rfl⟩:=hu.shape;have HC:Hid (∀y,Below wr wr y->() 94 #[oG Au (Bs m I).length cu,t] y fun e w'=>e=oQ (.bool (I.testBit t))/\w'=y):=Hd (fun y i=>by have h:=O7 (hu.1.later i) (AW (KZ m I) (by have:=HM.out;omega)) t;rwa [show decide (t∈Bs m I)=I.testBit t from Vk HT.out]at h)
     have a6:=Hd a7;have af:=Hd ab;clear a7 ab hx hu;generalize (Bs m I).length=nu at *;have aa:Hid (¬(P=own/\I.testBit t=true)->∀y,Below wr wr y->W.heap.size<=y.heap.size/\BV A W y/\J (CA t p++C9 own t (o.take (k+1))) A y):=Hd (fun ah y i=>by rw[a6.out,if_neg ah,List.append_nil];exact⟨AW j.1 i.size,j.2.1.trans (fun b l=>i.block b (A0 (a9 b l) j.1)),HJ.step j.2.2 (Am.AJ i)⟩)
     by_cases C:P=own
     ·have ag:((P:Int)==(own:Int))=true:=by rw[C];simp
      cases l:I.testBit t with
      | false=>
       rw[l]at HC;have T:=Hd l;clear l C
       gi_wp2_with (refine⟨trivial,rfl,?_⟩;gi_at_call 94;refine(callsIn_wide.2 (HC _ (AG _ _))).mono ?_;rintro e w1 ⟨rfl,rfl⟩)
       gi_wp2
       repeat (first|(refine⟨fun _ h=>(by cases h),?_⟩;try gi_wp2)|(refine⟨trivial,?_⟩;try gi_wp2))
       refine⟨⟨k+1,nX,oD,Hd (aa (fun h=>by have h2:=h.2;rw[T.out]at h2;cases h2) _ (AG _ _))⟩,?_⟩;simp[intOf];omega
      | true=>
       rw[l]at HC;have i:=ao (CA t p++C9 own t (o.take k)) (3,0) wr (oP #[P,oG Au nu cu] 165) (by have h:=af.out;rw[a6.out,if_pos ⟨C,l⟩,<-List.append_assoc]at h;exact h) j.1 j.2.1 j.2.2;obtain⟨fn,b7,assign,az,i,hR⟩:=i;rw[show J6 (3,0)=#[.agg #[oH oO 3,oH oO 0]] from rfl]at i;have HR:=Hd hR;have T:=Hd (And.intro C l);clear hR C l
       gi_wp2_with (refine⟨trivial,rfl,?_⟩;gi_at_call 94;refine(callsIn_wide.2 (HC _ (AG _ _))).mono ?_;rintro e w1 ⟨rfl,rfl⟩)
       refine⟨rfl,HR.mono ?_⟩;rintro e w3 ⟨a0,a5,(⟨rfl,R⟩|⟨rfl,R⟩)⟩
       ·have U:Hid (W.heap.size<=w3.heap.size/\BV A W w3/\J (CA t p++C9 own t (o.take (k+1))) A w3):=Hd ⟨a0,a5,by rw[a6.out,if_pos T.out,<-List.append_assoc];exact R⟩
        clear a0 a5 R HR i
        gi_wp2
        go_roundw
        case rel=>exact⟨k+1,nX,oD,U⟩
        case measure=>simp[intOf];omega
       ·have U:=Hd (And.intro a0 (And.intro a5 R))
        clear a0 a5 R HR i
        gi_wp2
        refine bodyPost_ret (results_none rfl _ _ _) rfl ?_;exact⟨⟨_,rfl⟩,A,fun _=>id,fun b l=>A0 (a9 b l) U.1,.inr U.2.2⟩
     ·have ag:((P:Int)==(own:Int))=false:=by rw[bN];omega
      have T:=Hd C;clear C
      gi_wp2
      repeat (first|(refine⟨fun _ h=>(by cases h),?_⟩;try gi_wp2)|(refine⟨trivial,?_⟩;try gi_wp2))
      refine⟨⟨k+1,nX,oD,Hd (aa (fun h=>T h.1) _ (AG _ _))⟩,?_⟩;simp[intOf];omega
    ·obtain rfl:q=k:=by omega
     have H2:Hid (W.heap.size<=wr.heap.size/\BV A W wr/\J (CA t p++C9 own t o) A wr):=Hd (by have h:=j.out;rw[Da (by rw[HQ.out];exact Ay _)]at h;exact h)
     clear j;rename oU=>w2
     gi_wp2
     gi_loopw [61] (fun a8 wr=>∃k:Nat,k<=q/\a8=oH oO k/\Hid (W.heap.size<=wr.heap.size/\BV A W wr/\J (CA t p++C9 own t o++Ej own t (o.take k)) A wr)) (fun a8 _=>q-(intOf a8).toNat)
     case atStart=>exact⟨0,AX _,rfl,Hd ⟨H2.1,H2.2.1,by simpa [Ej] using H2.2.2⟩⟩
     case round=>
      obtain⟨k,hk,rfl,j⟩:=hrel;obtain⟨s1,s2,s3,s4,c1,c2,c3,c4⟩:=ai wr j.1 j.2.1;by_cases bd:k<q
      ·obtain⟨⟨P,I⟩,hx⟩:∃x,o[k]?=oM x:=⟨_,eG (by rw[HQ.out];exact bd)⟩
       obtain⟨b,off,u,rfl,b0,b6,d0,d1,hu⟩:=(ay.BZ (A':=A) (fun _=>id) j.1 j.2.1).at_ hx;have a7:=SL (own:=own) (t:=t) hx;have ab:CA t p++C9 own t o++Ej own t (o.take (k+1)) <+: xs:=by rw[<-aj.out];exact(List.prefix_append_right_inj _).2 (iZ own t o (k+1) (by rw[HQ.out];omega))
       simp only at d0 d1 a7 hu;obtain⟨Au,cu,rfl⟩:=hu.shape;have HC:Hid (∀y,Below wr wr y->() 94 #[oG Au (Bs m I).length cu,t] y fun e w'=>e=oQ (.bool (I.testBit t))/\w'=y):=Hd (fun y i=>by have h:=O7 (hu.1.later i) (AW (KZ m I) (by have:=HM.out;omega)) t;rwa [show decide (t∈Bs m I)=I.testBit t from Vk HT.out]at h)
       have a6:=Hd a7;have af:=Hd ab;clear a7 ab hx hu;generalize (Bs m I).length=nu at *;have aa:Hid (¬(P≠own/\I.testBit t=true)->∀y,Below wr wr y->W.heap.size<=y.heap.size/\BV A W y/\J (CA t p++C9 own t o++Ej own t (o.take (k+1))) A y):=Hd (fun ah y i=>by rw[a6.out,if_neg ah,List.append_nil];exact⟨AW j.1 i.size,j.2.1.trans (fun b l=>i.block b (A0 (a9 b l) j.1)),HJ.step j.2.2 (Am.AJ i)⟩)
       by_cases C:P=own
       ·have ag:((P:Int) != (own:Int))=false:=by rw[C];simp
        have T:=Hd C;clear C
        gi_wp2
        repeat (first|(refine⟨fun _ h=>(by cases h),?_⟩;try gi_wp2)|(refine⟨trivial,?_⟩;try gi_wp2))
        refine⟨⟨k+1,nX,oD,Hd (aa (fun h=>h.1 T) _ (AG _ _))⟩,?_⟩;simp[intOf];omega
       ·have ag:((P:Int) != (own:Int))=true:=by rw[bne_iff_ne];omega
        cases l:I.testBit t with
        | false=>
         rw[l]at HC;have T:=Hd l;clear l C
         gi_wp2_with (refine⟨trivial,rfl,?_⟩;gi_at_call 94;refine(callsIn_wide.2 (HC _ (AG _ _))).mono ?_;rintro e w1 ⟨rfl,rfl⟩)
         gi_wp2
         repeat (first|(refine⟨fun _ h=>(by cases h),?_⟩;try gi_wp2)|(refine⟨trivial,?_⟩;try gi_wp2))
         refine⟨⟨k+1,nX,oD,Hd (aa (fun h=>by have h2:=h.2;rw[T.out]at h2;cases h2) _ (AG _ _))⟩,?_⟩;simp[intOf];omega
        | true=>
         rw[l]at HC;have i:=ao (CA t p++C9 own t o++Ej own t (o.take k)) (2,P) wr (oP #[P,oG Au nu cu] 165) (by have h:=af.out;rw[a6.out,if_pos ⟨C,l⟩,<-List.append_assoc]at h;exact h) j.1 j.2.1 j.2.2;obtain⟨fn,b7,assign,az,i,hR⟩:=i;rw[show J6 (2,P)=#[.agg #[oH oO 2,P]] from rfl]at i;have HR:=Hd hR;have T:=Hd (And.intro C l);clear hR C l
         gi_wp2_with (refine⟨trivial,rfl,?_⟩;gi_at_call 94;refine(callsIn_wide.2 (HC _ (AG _ _))).mono ?_;rintro e w1 ⟨rfl,rfl⟩)
         refine⟨rfl,HR.mono ?_⟩;rintro e w3 ⟨a0,a5,(⟨rfl,R⟩|⟨rfl,R⟩)⟩
         ·have U:Hid (W.heap.size<=w3.heap.size/\BV A W w3/\J (CA t p++C9 own t o++Ej own t (o.take (k+1))) A w3):=Hd ⟨a0,a5,by rw[a6.out,if_pos T.out,<-List.append_assoc];exact R⟩
          clear a0 a5 R HR i
          gi_wp2
          go_roundw
          case rel=>exact⟨k+1,nX,oD,U⟩
          case measure=>simp[intOf];omega
         ·have U:=Hd (And.intro a0 (And.intro a5 R))
          clear a0 a5 R HR i
          gi_wp2
          refine bodyPost_ret (results_none rfl _ _ _) rfl ?_;exact⟨⟨_,rfl⟩,A,fun _=>id,fun b l=>A0 (a9 b l) U.1,.inr U.2.2⟩
      ·obtain rfl:k=q:=by omega
       have H1:Hid (W.heap.size<=wr.heap.size/\BV A W wr/\J xs A wr):=Hd (by have h:=j.out;rw[Da (by rw[HQ.out];exact Ay _),aj.out]at h;exact h)
       gi_wp2
       refine bodyPost_end (results_none rfl _ _ _) rfl ?_;exact⟨⟨_,rfl⟩,A,fun _=>id,fun b l=>A0 (a9 b l) H1.1,.inl H1.2.2⟩
end
section
attribute [local go_sem] Oper.semAt_some
def OS(T m:Nat)(w:oU)(n:Nat)(xs:List oV)(o:oV)(wr:oU):Prop:=∃A c,o=oG A n c/\wr.ownsRow w T m (oG A n c) n xs/\Below w w wr
def GI(T m tb:Nat)(w:oU)(i n:Nat)(xs:List oV)(A:Nat->Prop)(wr:oU):Prop:=
 w.heap.size<=i/\¬A i/\∃o,Ah wr i tb #[o]/\OS T m w n xs o wr/\∀b,o.ownBlock=oM b->¬A b
def GI.Me{T l:Nat}{j:oU}(h:GI T m tb w l n xs A W)(hB:w.heap.size<=B)(i:Am (fun b=>B<=b/\A b) W j)(J:∀b,A' b->A b\/W.heap.size<=b):GI T m tb w l n xs A' j:=by obtain⟨U,o,a0,p,h4,t⟩:=h;obtain⟨R,c,rfl,C,I⟩:=h4;refine⟨U,fun h=>(J _ h).elim o (by have:=p.lt;omega),_,i.Aj p (fun h=>o h.2),⟨R,c,rfl,i.own C (fun g hg h=>t g hg h.2),I.trans (i.below I.size (fun k hk h=>by omega))⟩,fun b P h=>(J _ h).elim (t b P) (by have:=(B6 C b P).1;omega)⟩
def GI.put{T i N:Nat}{t o:oU}{ys:List oV}{c2:Nat}(R:w.heap.size<=i)(J:¬A i)(p:Ah W i tb #[v])(hv:∀b,v.ownBlock=oM b->¬A b)(a6:∀b,A b->b<W.heap.size)(ho:W.ownsRow w T m v n xs)
  (I:Below w w W) (C:Am (fun _=>False) W t) (r2:t.grownBy o v.ownBlock) (l:(Value.slice j N c2).ownBlock=v.ownBlock\/(Value.slice j N c2).ownBlock=oM t.heap.size) (r1:o.ownsRow w T m (oG j N c2) N ys) (hT:T≠tb) :
  GI T m tb w i N ys A (o.setCell (i,0) (oG j N c2))/\Am (fun b=>w.heap.size<=b/\¬A b) W (o.setCell (i,0) (oG j N c2)):=by
 have a0:v.ownBlock≠oM i:=Du ho p hT;have a8:=C.size;have a7:=p.lt;have a3:Ah o i tb #[v]:=(Am.CM r2).Aj (C.Aj p id) a0;have a5:(Value.slice j N c2).ownBlock≠oM i:=by
  rcases l with l|l<;>rw[l]
  ·exact a0
  ·intro h
   have:=Option.some.inj h;omega
 have P:∀b,v.ownBlock=oM b->w.heap.size<=b/\¬A b:=fun b h=>⟨(B6 ho b h).2,hv b h⟩
 have a2:∀b,(Value.slice j N c2).ownBlock=oM b->w.heap.size<=b/\¬A b:=fun b h=>by
  rcases l with l|l
  ·exact P b (by rw[<-l];exact h)
  ·rw[l]at h
   have:=Option.some.inj h;have hs:=I.size;exact⟨nX,fun a1=>by have:=a6 b a1;omega⟩
 have a4:Am (fun b=>w.heap.size<=b/\¬A b) W o:=(C.mono (fun _=>False.elim)).next ((Am.CM r2).mono P);have U:Am (fun b=>w.heap.size<=b/\¬A b) W (o.setCell (i,0) (oG j N c2)):=a4.set (p:=⟨i,0,oN⟩) (.inr ⟨R,J⟩) _;refine⟨⟨R,J,_,by simpa using a3.Ba 0 (oG j N c2),⟨j,c2,rfl,EB r1 (p:=⟨i,0,oN⟩) a5 _,I.trans (U.below I.size (fun k hk h=>by omega))⟩,fun b p=>(a2 b p).2⟩,U⟩
def YO{i:oU}(h:Am (fun b=>B<=b/\¬A b) W i)(l:∀b,A b->b<W.heap.size):BV A W i:=fun b j=>h.block b (l b j) (fun h=>h.2 j)
def GI.BZ{T j:Nat}{i:oU}(h:GI T m tb w j n xs A W)(l:Am (fun _=>False) W i):GI T m tb w j n xs A i:=
 h.Me (Ay _) (l.mono (fun _=>False.elim)) (fun _=>.inl)
def GI.aR{T i:Nat}(h:GI T m tb w i n xs A W){D:Nat}(I:w.heap.size<=D)(l:A D)(t:Obj):∃o,oT W (i,0)=oM o/\OS T m w n xs o (W.putObj D t):=by
 have C:GI T m tb w i n xs A (W.putObj D t):=h.Me (Ay _) ((Am.refl _ _).put (.inr ⟨I,l⟩) _) (fun _=>.inl);have J:D≠i:=fun e=>h.2.1 (e▸l)
 obtain⟨-,-,o,p,a0,-⟩:=h;obtain⟨-,-,o2,P,U,-⟩:=C;have R:o2=o:=by have:=P;unfold Ah at this;rw[World.putObj_heap_other (fun h=>J h.symm),show W.heap[i]?=oM (oP #[o] tb (0,0)) from p]at this;simpa using this.symm
 have j:=p.cell 0;simp at j;exact⟨o,j,by rw[<-R];exact U⟩
section
variable {F:Fence} {k:Nat}
def Xs{o:Oper}{a:Act}{K:Act->oU->Prop}{t e:TypeId}{size bytes:Nat}(E:El P t e size bytes)(s x:Operand)
  (i:o.op=.call {callee:=.builtin .append,args:=#[s,x],argTypes:=#[t,t]}) {base N:Nat} {src:oV} {news:List oV} (T:a.eval s=v) (hx:a.eval x=src)
  (J:w.ownsRow base e size v n xs) (U:Be w src m size news) (l:n+m=N) (j:N<=maxLen) (C:N*bytes<=140737488355328) (p:base<=w.heap.size)
  (h:∀A c w',w'.ownsRow base e size (oG A N c) N (xs++news)->AI base [e] w w'->(w.grownBy w' v.ownBlock/\((Value.slice A N c).ownBlock=v.ownBlock\/(Value.slice A N c).ownBlock=oM w.heap.size))->K (a.put o.dst (oG A N c)) w'):o.wpIn F k P a w K Q:=by
 obtain⟨A,c,w',R,r1,r2,r3⟩:=Nx (P:=P) (ty:=o.type) E J U l j C p;unfold Oper.wpIn;refine⟨?_,?_⟩
 ·simp[Oper.about,i,resolve,Target.leads,Sem.run_pure]
 ·rw[Oper.semAt_plain F _ _ (by rw[i];intro c I;cases I)]
  simp only[execOp,i,resolve,invoke,builtin,Sem.run_bind,Sem.run_pure,Result.andThen_ok,List.map_toArray,List.map_cons,List.map_nil,T,hx,R];exact h A c w' r1 r2 r3
def VL{i:Array Oper}{rest:List Oper}{o:Oper}{a:Act}{t e:TypeId}{size bytes:Nat}(E:El P t e size bytes)(s x:Operand)(J:o.guard=oN)
  (R:o.op=.call {callee:=.builtin .append,args:=#[s,x],argTypes:=#[t,t]}) {base N:Nat} {src:oV} {news:List oV} (U:a.eval s=v) (hx:a.eval x=src)
  (T:w.ownsRow base e size v n xs) (a0:Be w src m size news) (p:n+m=N) (j:N<=maxLen) (I:N*bytes<=140737488355328) (C:base<=w.heap.size)
  (h:∀A c w',w'.ownsRow base e size (oG A N c) N (xs++news)->AI base [e] w w'->(w.grownBy w' v.ownBlock/\((Value.slice A N c).ownBlock=v.ownBlock\/(Value.slice A N c).ownBlock=oM w.heap.size))->wpListIn F k P i Q rest (a.put o.dst (oG A N c)) w'):wpListIn F k P i Q (o::rest) a w:=
 wpListIn_plain J fun _ l=>Xs E s x R U hx T a0 p j I C fun A c w' r1 r2 r3=>l _ _ (h A c w' r1 r2 r3)
end
def CX(B:Nat)(w:oU):List Deferred->Prop
 | []=>True
 | d::i=>(∃D,B<=D/\d={target:=.collected D,args:=#[]}/\w.heap[D]?=oM (.deferred (oM []))/\∀x∈i,x≠d)/\CX B w i
theorem CX.BZ:∀{i:List Deferred},CX B w i->(∀D,B<=D->w.heap[D]?=oM (.deferred (oM []))->({target:=.collected D,args:=#[]}:Deferred)∈i->w'.heap[D]?=oM (.deferred (oM [])))->CX B w' i
 | [],_,_=>trivial
 | d::i,⟨⟨D,j,l,o,p⟩,t⟩,h=>⟨⟨D,j,l,h D j o (by rw[l];simp),p⟩,t.BZ (fun D C J I=>h D C J (by simp[I]))⟩
def CX.AA{X:Nat->Prop}{j:List Deferred}(h:CX B w j)(p:Am X w w')(o:∀D,B<=D->w.heap[D]?=oM (.deferred (oM []))->¬X D):CX B w' j:=
 h.BZ fun D l i _=>(p.block D (aG.1 i).1 (o D l i)).trans i
theorem CX.lt:∀{i:List Deferred},CX B w i->∀D,({target:=.collected D,args:=#[]}:Deferred)∈i->D<w.heap.size
 | d::i,⟨⟨D,C,l,o,I⟩,p⟩,j,t=>by
  rcases List.mem_cons.1 t with e|e
  ·rw[l]at e
   cases e
   exact(aG.1 o).1
  ·exact p.lt j e
def CX.more{D:Nat}{i:List Deferred}(h:CX B w i)(l:B<=D)(o:w.heap[D]?=oM (.deferred (oM [])))(p:∀j,({target:=.collected j,args:=#[]}:Deferred)∈i->j < D):CX B w ({target:=.collected D,args:=#[]}::i):=by refine⟨⟨D,l,rfl,o,fun x t e=>?_⟩,h⟩;subst e;exact Nat.lt_irrefl _ (p D t)
theorem T5{F:Fence}{n:Nat}{P:Program}{fn:Func}{tmps:Array oV}{R:Ending->oU->Prop}{B:Nat}:∀{i:List Deferred} {w:oU},CX B w i->(∀w',Am (fun b=>B<=b/\w.heap[b]?=oM (.deferred (oM []))) w w'->LeavesInM F n P fn tmps R [] .returning w')->LeavesInM F n P fn tmps R i .returning w
 | [],w,_,h=>h w (Am.refl _ _)
 | d::i,w,⟨⟨D,C,I,j,J⟩,T⟩,h=>by
  subst I;refine⟨oA,.inl ⟨D,_,rfl,run_takeDeferred j,?_⟩⟩;have a0:=(aG.1 j).1;have a1:Am (fun b=>B<=b/\w.heap[b]?=oM (.deferred (oM []))) w (w.putObj D (.deferred oN)):=(Am.refl _ _).put (.inr ⟨C,j⟩) _;refine T5 (B:=B) (T.BZ (fun t a2 hx hm=>?_)) (fun w' U=>h w' (a1.next (U.mono (fun b l=>⟨l.1,?_⟩))))
  ·have o:t≠D:=fun e=>J _ hm (by rw[e])
   exact(World.putObj_heap_other o).trans hx
  ·have o:b≠D:=fun e=>by
    have p:=l.2;rw[e,World.putObj_heap_same a0]at p;cases p
   rw[<-World.putObj_heap_other o];exact l.2
end
