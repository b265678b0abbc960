/- . -/
import Derived.Test.YtendpobbjjaopaaGreatDoorXaw
import Derived.Test.YtendpobbjjaopaaGreatDoorXax
import Derived.Test.YtendpobbjjaopaaGreatDoorXbo
set_option linter.all false
set_option maxRecDepth 100000
set_option maxHeartbeats 16000000
namespace Go.Proofs.YtendpobbjjaopaaGreatDoor
open Go.RowKit Go.Proofs.Tryz
open Value renaming slice→oG,int→oH,pointer→oI
open Option renaming some→oM,none→oN
open IntKind renaming i64→oO
open Obj renaming cells→oP
open Ending renaming returned→oQ
open World renaming cell?→oT
open Go renaming World→oU,Value→oV
variable{v:oV}{n:Nat}{A A' X:Nat->Prop}{w':oU}{XS:List oV}{cs:Array oV}
section
attribute [local go_sem] Oper.semAt_some
def Su(w:oU)(own t:Nat)(iv tv p:oV)(e:Ending)(w':oU):Prop:=
 ∃l o i j,e=oQ (.func (.func 93) #[] #[oI (oM ⟨l,0,oN⟩),oI (oM ⟨o,0,oN⟩),oI (oM ⟨i,0,oN⟩),oI (oM ⟨j,0,oN⟩)])/\w.heap.size<=l/\w.heap.size<=o/\w.heap.size<=i/\w.heap.size<=j /\
  Ah w' l 119 #[iv,tv]/\Ah w' o 3 #[t]/\Ah w' i 124 #[p]/\Ah w' j 3 #[own]/\Below w w w'
def SP{w:oU}{own t:Nat}{Ai At Ak:Option Addr}{ni ci nt ct nk ck:Nat} :
  () 60 #[own,.agg #[oG Ai ni ci,oG At nt ct],oG Ak nk ck,t] w (Su w own t (oG Ai ni ci) (oG At nt ct) (oG Ak nk ck)):=by
 unfold Su;go_enter func60,ntmps60
 go_wp2;go_ret;have i:(w.alloc (oP #[own] 3)).heap.size=w.heap.size+1:=by simp
 have j:((w.alloc (oP #[own] 3)).alloc (oP #[oG Ai ni ci,oG At nt ct] 119)).heap.size=w.heap.size+1+1:=by simp
 have l:(((w.alloc (oP #[own] 3)).alloc (oP #[oG Ai ni ci,oG At nt ct] 119)).alloc (oP #[oG Ak nk ck] 124)).heap.size=w.heap.size+1+1+1:=by simp
 refine⟨_,_,_,_,rfl,nX,nX,nX,Ay _,?_,?_,?_,?_,?_⟩
 ·exact((Ah.newAt i).alloc _).alloc _
 ·exact Ah.newAt l
 ·exact(Ah.newAt j).alloc _
 ·exact(((Ah.new w _ _).alloc _).alloc _).alloc _
 ·exact(((AG w _).alloc nX _).alloc nX _).alloc nX _
def Sc{w:oU}{l:List Nat}(h:BF w v l):Ca (fun b=>b<w.heap.size) w v l:=by
 refine⟨h,fun b i p=>?_⟩;obtain⟨⟨I,c,t,o⟩,-,-⟩:=h;obtain⟨x,C⟩:∃x,l[0]?=oM x:=⟨_,eG p⟩
 obtain⟨J,off,j,P,-⟩:=o 0 x C;rw[t,j]at i;simp only[Value.ownBlock,Option.some.injEq]at i;omega
def GY.VC{w:oU}{m:Nat}{l:List (Nat×Nat)}(h:GY w m v l):Ik (fun b=>b<w.heap.size) w m v l:=by
 refine Bq.mono (show Bq (fun b=>b<w.heap.size) w v l.length 2 _ from h) (fun _=>id) (fun k j x _ _ o=>?_);split at o
 ·rename_i i;rw[if_pos i];exact o
 ·rename_i i;rw[if_neg i];exact Sc o
theorem CQ.bQ{w:oU}{l:List It}(h:CQ w v l)(T:l.length<=1000000):DX (fun b=>b<w.heap.size) w v l:=by
 obtain⟨⟨A,c,o,J⟩,-,U⟩:=h;refine⟨A,c,o,(U A l.length c o).1,T,fun k R=>?_⟩;obtain⟨x,p⟩:∃x,l[k]?=oM x:=⟨_,eG R⟩
 obtain⟨b,off,I,j,t,C⟩:=J k x p;have i:l.getD k (0,0)=x:=by rw[dG,p];rfl
 refine⟨b,off,I,j,j,fun a0 P=>?_⟩
 match a0,P with
 | 0,_=>exact⟨_,t,by dsimp only;rw[i];rfl⟩
 | 1,_=>exact⟨_,C,by dsimp only;rw[i];rfl⟩
def GR.at_{w:oU}{g:Gz}{L E:List (List It)}{K:List (List (Nat×Nat))}(h:GR w v g L E K){i:Nat}(hi:i<L.length)(hK:K.length=L.length)(hE:(E.getD i []).length<=1000000) :
  ∃C J I co b off Ai ni ci At nt ct j p Ak nk ck,v=.agg #[g.R.length,oG C L.length J,oG I L.length co]/\C=oM ⟨b,off,oN⟩/\I=oM ⟨j,p,oN⟩ /\
   (∀y,Below w w y->b<y.heap.size/\j<y.heap.size/\oT y ⟨b,off+i*2,oN⟩=oM (oG Ai ni ci)/\oT y ⟨b,off+i*2+1,oN⟩=oM (oG At nt ct)/\oT y ⟨j,p+i,oN⟩=oM (oG Ak nk ck)) /\
   DX (fun b=>b<w.heap.size) w (oG At nt ct) (E.getD i [])/\Ik (fun b=>b<w.heap.size) w (g.nt+1) (oG Ak nk ck) (K.getD i []):=by
 obtain⟨lv,lo,V,rfl,⟨⟨C,J,rfl,-,hc⟩,⟨a3,a8⟩,hit,a4,-⟩,⟨I,co,rfl,-,-,hr⟩⟩:=h;rw[hK]at hr ⊢;rw[<-a3];obtain⟨x,U⟩:∃x,V[i]?=oM x:=⟨_,eG nX⟩
 obtain⟨l,hl⟩:∃l,L[i]?=oM l:=⟨_,eG hi⟩
 obtain⟨t,ht⟩:∃t,E[i]?=oM t:=⟨_,eG nX⟩
 obtain⟨b,off,hA,T,e0,e1⟩:=hc i x U;obtain⟨j,p,a1,-,a0,a2⟩:=hr i hi;obtain⟨kv,h0,R⟩:=a2 0 nX;have hI:=hit i x l U hl;have P:=a4 i x t U ht;have eT:E.getD i []=t:=by rw[dG,ht];rfl
 rw[eT]at hE ⊢;obtain⟨⟨Ai,ci,a5,-⟩,-,-⟩:=id hI;obtain⟨⟨At,ct,a7,-⟩,-,-⟩:=id P;obtain⟨Ak,ck,a6,-⟩:=R.VC.form;rw[a5]at e0;rw[a7]at e1 P;rw[a6]at h0 R;rw[Nat.mul_one,Nat.add_zero]at h0;exact⟨C,J,I,co,b,off,Ai,_,ci,At,_,ct,j,p,Ak,_,ck,rfl,hA,a1,fun y o=>⟨A0 T o.size,A0 a0 o.size,(o.cell (p:=⟨b,off+i*2,oN⟩) T).trans e0,(o.cell (p:=⟨b,off+i*2+1,oN⟩) T).trans e1,(o.cell (p:=⟨j,p+i,oN⟩) a0).trans h0⟩,P.bQ hE,R.VC⟩
def De(x:It):List oV:=[oH oO x.1,oH oO x.2]
def WQ:El Tryz.prog 120 95 2 16:=El.of (z:=.agg #[oH oO 0,oH oO 0]) underlying120 nZ rfl nY
def V5(own t:Nat)(j:List It)(i:List (Nat×Nat)):(CA t j++C9 own t i++Ej own t i).length<=j.length+i.length+i.length:=by
 have l:(CA t j).length<=j.length:=by
  unfold CA;rw[lM];split
  ·exact List.length_filter_le _ _
  ·simp
 have o:(C9 own t i).length<=i.length:=by unfold C9;rw[lM];exact List.length_filter_le _ _
 have p:(Ej own t i).length<=i.length:=by unfold Ej;rw[lM];exact List.length_filter_le _ _
 simp only[Cb];omega
def Qy(w:oU)(j:Nat)(W:oU)(pre:List It)(A':Nat->Prop)(i:oU):Prop:=GI 95 2 120 w j pre.length (pre.flatMap De) A' i/\W.heap.size<=i.heap.size
def Yc{w:oU}{g:Gz}{L E:List (List It)}{K:List (List (Nat×Nat))}(h:GR w v g L E K){i t:Nat}(hi:i<L.length)(hL:L.length<=1000000)(hK:K.length=L.length)(hE:(E.getD i []).length<=1000000)(hk:(K.getD i []).length<=1000000)(ht:t<=g.nt)(b8:g.nt<=120) :
  () 92 #[v,i,t] w fun e w'=>∃o,e=oQ o/\OS 95 2 w (g.Ia (E.getD i []) (K.getD i []) t).length ((g.Ia (E.getD i []) (K.getD i []) t).flatMap De) o w':=by
 obtain⟨AL,cL,Ao,co,b,off,Ai,ni,ci,At,nt,ct,b2,a1,Ak,nk,ck,rfl,rfl,rfl,b3,bh,b6⟩:=h.at_ hi hK hE;rw[Se];have af:=V5 g.R.length t (E.getD i []) (K.getD i []);generalize E.getD i []=tr at *;generalize K.getD i []=lk at *;obtain⟨xs,al⟩:∃xs,CA t tr++C9 g.R.length t lk++Ej g.R.length t lk=xs:=⟨_,rfl⟩
 have cd:(i:Int)<(L.length:Int):=by omega
 generalize L.length=U at *;generalize cc:g.R.length=own at *;rw[al]at af ⊢;obtain⟨j,a0⟩:∃j,(w.alloc (oP #[own,oG (oM ⟨b,off,oN⟩) U cL,oG (b2,a1) U co] 107)).alloc (oP #[oG oN 0 0] 120)=j:=⟨_,rfl⟩
 have a5:Below w w j:=by rw[<-a0];exact(AG w _).alloc oA _
 have bi:j.heap.size=w.heap.size+2:=by rw[<-a0];simp
 have ah:Ah j w.heap.size 107 #[own,oG (oM ⟨b,off,oN⟩) U cL,oG (b2,a1) U co]:=by rw[<-a0];exact(Ah.new w _ _).alloc _
 have ba:Ah j (w.heap.size+1) 120 #[oG oN 0 0]:=by rw[<-a0];exact Ah.newAt oA
 have a3:Hid (∀y,Below j j y->oT y (w,0)=oM (oH oO own)/\oT y (w,1)=oM (oG (oM ⟨b,off,oN⟩) U cL)/\oT y (w,2)=oM (oG (b2,a1) U co)/\oT y ⟨b,off+i*2,oN⟩=oM (oG Ai ni ci)/\oT y ⟨b,off+i*2+1,oN⟩=oM (oG At nt ct)/\oT y (b2,a1+i)=oM (oG Ak nk ck)):=Hd (fun y hy=>by obtain⟨p,P,J,R,h5⟩:=b3 y (a5.trans (hy.mono a5.size));have hm:=ah.below hy ah.lt;exact⟨hm.cell 0,hm.cell 1,hm.cell 2,J,R,h5⟩)
 obtain⟨c0,c1,c2,c3,c4,c5⟩:=a3 j (Below.refl _ _);have a8:=Hd a5;have bt:=Hd bi;have aa:=Hd ba;have bv:=Hd a0;have aw:=Hd bh;have ar:=Hd b6;have bw:=Hd al;have bo:=Hd af;have HT:=Hd (And.intro ht b8);have bm:=Hd (And.intro hE hk);have HP:=Hd (fun y:oU=>SP (w:=y) (own:=own) (t:=t) (Ai:=Ai) (At:=At) (Ak:=Ak) (ni:=ni) (ci:=ci) (nt:=nt) (ct:=ct) (nk:=nk) (ck:=ck));clear h hi hL hK hE hk ht b8 b3 bh b6 al a5 bi ah ba af cc;refine(callsIn_wide (n:=0)).1 ?_;refine callsIn_of_wp_marks func92 rfl trivial ?_ rfl
 simp only[ntmps92,List.size_toArray,List.length_cons,List.length_nil,Nat.reduceAdd,Nat.reduceSub,Array.replicate_succ,Array.replicate_zero,List.push_toArray,List.append_toArray,List.nil_append,List.cons_append];refine wpIn_wide.2 ?_;have a9:Hid (Below j j j.drew):=Hd ((Below.refl j.heap.size j).drew);go_upto_region 2 with fail
 clear a0
 go_region_held3 (fun v=>oT v (w,0)=oM (oH oO own)/\oT v (w,1)=oM (oG (oM ⟨b,off,oN⟩) U cL)/\oT v (w,2)=oM (oG (b2,a1) U co)/\oT v ⟨b,off+i*2,oN⟩=oM (oG Ai ni ci)/\oT v ⟨b,off+i*2+1,oN⟩=oM (oG At nt ct)/\oT v (b2,a1+i)=oM (oG Ak nk ck))
  (first|exact a3 _ a9|exact a3 _ a2)
  (first|(
     go_at_call 60;refine(HP _).mono ?_;rintro e l ⟨sb,tb,kb,ob,rfl,p,P,J,R,k1,k2,k3,k4,az⟩
     have a2:Hid (Below j j l):=Hd (a9.trans az);have HK:=Hd (And.intro (And.intro p (And.intro P (And.intro J R))) (And.intro k1 (And.intro k2 (And.intro k3 k4))));clear p P J R k1 k2 k3 k4 az))
 obtain⟨⟨p,P,J,R⟩,k1,k2,k3,k4⟩:=HK.out;have p:j.heap.size<=sb:=p;have P:j.heap.size<=tb:=P;have J:j.heap.size<=kb:=J;have R:j.heap.size<=ob:=R;have I:Below w w l:=a8.trans (a2.mono a8.size);have hA:∀b,(b<w.heap.size\/(j.heap.size<=b/\b<l.heap.size))->b<l.heap.size:=fun b C=>C.elim (fun h=>A0 h I.size) (·.2)
 have ak:BV (fun b=>b<w.heap.size) w l:=fun b C=>I.block b C
 have aj:=Qt (A:=fun b=>b<w.heap.size\/(j.heap.size<=b/\b<l.heap.size)) (w:=l) (m:=g.nt+1) (by have:=HT.out;omega) (by have:=HT.out;omega) hA (.inr ⟨p,k1.lt⟩) (.inr ⟨P,k2.lt⟩) (.inr ⟨J,k3.lt⟩) (.inr ⟨R,k4.lt⟩) k1 k2 k3 k4
  (aw.BZ (fun _=>.inl) I.size ak) (ar.BZ (fun _=>.inl) I.size ak)
 rw[bw.out]at aj;have ai:Ah l (w.heap.size+1) 120 #[oG oN 0 0]:=aa.below a2 aa.lt;have ay:Qy w (w.heap.size+1) l [] (fun b=>b<w.heap.size\/(j.heap.size<=b/\b<l.heap.size)) l:=by refine⟨⟨nX,?_,oG oN 0 0,ai,⟨oN,0,rfl,⟨oA,.inl ⟨rfl,rfl⟩⟩,I⟩,fun b C=>by cases C⟩,Ay _⟩;have:=bt.out;rintro(h|h)<;>omega
 have ch:w.heap.size+1<l.heap.size:=ai.lt;have bu:=Hd aj;have bl:=Hd hA;have bn:=Hd ay;have aq:=Hd I;clear aj hA ay I ak ai p P J R k1 k2 k3 k4 HK HP a3 a8 a2 aa bv aw ar a9 c0 c1 c2 c3 c4 c5;go_wp2;refine(wpIn_wide (n:=0)).1 ?_;refine VE (gf:=93) (lb:=#[oI (oM ⟨sb,0,oN⟩),oI (oM ⟨tb,0,oN⟩),oI (oM ⟨kb,0,oN⟩),oI (oM ⟨ob,0,oN⟩)]) rfl (fun _ _=>by kernel_rfl) bu bl (fun _=>rfl)
  (Qy w (w.heap.size+1) l) (fun c A' W'=>False) ?hI ?hIx ?h0 ?hround ?hdone ?hstop
 case hI=>exact fun s A1 A2 bx U' h hc bz=>⟨h.1.Me nX hc bz,AW h.2 hc.size⟩
 case hIx=>exact fun c s A1 A2 bx U' h _ _=>h
 case h0=>exact bn
 case hstop=>exact fun D c A' W' _ _ _ _ h _=>h.elim
 case hdone=>rintro D A5 T hD c6 bj ag ⟨hj,-⟩ hK;obtain⟨o,b0,bc⟩:=hj.aR (D:=D) nX c6 (.deferred oN);have HO:=Hd bc;clear bc hj;go_wp2;refine⟨oA,.inl ⟨_,_,rfl,run_takeDeferred hK,?_⟩⟩;refine⟨_,results_tmp rfl _ _ _,?_⟩;exact⟨o,rfl,HO⟩
 case hround=>
  rintro l1 pre x A5 T bf cf cg c8 bj ag ⟨hj,cn⟩;obtain⟨xk,xn⟩:=x;obtain⟨W6,ab⟩:∃W6,T.alloc (oP #[xk,xn] 95)=W6:=⟨_,rfl⟩
  have b1:Below T T W6:=by rw[<-ab];exact AG _ _
  have bk:Ah W6 T.heap.size 95 #[xk,xn]:=by rw[<-ab];exact Ah.new _ _ _
  have cl:W6.heap.size=T.heap.size+1:=by rw[<-ab];simp
  have bd:=bf.length_le;have an:=Hd b1;have ax:=Hd bk;have HJ:=Hd hj;have au:=Hd ag;have bq:=Hd bd;simp only[J6];clear b1 bk hj ag bj bf bd;simp
  gi_wp2
  refine⟨nX,fun b C=>an.block b (au b C),fun W7 ae cm r hr=>?_⟩;have a7:Ah W7 T.heap.size 95 #[xk,xn]:=ae.Aj ax nX;have b5:=HJ.Me (B:=T.heap.size) (A':=A5) nX (Am.AJ an) (fun _=>.inl);have cb:=b5.Me (B:=w.heap.size) (A':=A5) (Ay _) (ae.mono (fun b C=>by subst C;exact⟨nX,c8⟩)) (fun _=>.inl);have b7:∀b,A5 b->b<W7.heap.size:=fun b C=>by have:=au b C;omega
  have x0:=a7.cell 0;have x1:=a7.cell 1;have xl:=a7.lt;obtain⟨ca,c7,o,a6,⟨Ao,oc,rfl,ho,I⟩,bb⟩:=cb;have b0:=a6.cell 0;have f0:=a6.frozen 0;simp at b0 x0 x1;have cp:=I.size;have ao:=Hd a6;have HO:=Hd ho;have aq:=Hd I;have bp:=Hd bb;have av:=Hd b7;have cj:pre.length+1<=3000000:=by have p:=bq.out;have P:=bo.out;have J:=bm.out;simp at p;omega
  generalize be:pre.length=n at *;have br:=Hd be;clear a7 b5 a6 ho I bb b7 ax HJ hr ae be
  gi_wp2_with (first
   | (
    gi_at_builtin;refine VL WQ (.tmp 24) (.tmp 26) rfl rfl (base:=w.heap.size) (n:=n) (m:=1) (N:=n+1) (v:=oG Ao n oc) (src:=oG (oM ⟨W7.heap.size,0,oN⟩) 1 1) (xs:=pre.flatMap De) (news:=[oH oO xk,oH oO xn]) rfl rfl (AU HO (AG _ _)) (Be.Aj (c:=1) (cs:=[oH oO xk,oH oO xn]) (Ah.new W7 95 _) rfl oE) rfl oB nX oC ?_
    intro A9 c9 w9 r1 r2 r3;have ad:=r2.Aj (ao.alloc _) (.inr nY);have b9:=ad.cell 0;have f9:=ad.frozen 0;simp at b9;have b4:=GI.put ca c7 ao bp av HO aq ((Am.refl _ W7).alloc _) r3.1 r3.2 r1 nY;have a4:=Hd b4;clear r1 r2 r3 ad b4))
  refine⟨a4.2.size,YO a4.2 av,?_,?_⟩
  ·rw[Cb,List.flatMap_append,br.out]
   exact a4.1
  ·have p:=a4.2.size
   omega
end
def Calm(g:Gz)(E:List (List It))(K:List (List (Nat×Nat))):Prop:=∀i t,i<E.length->t<=g.nt->(g.Ia (E.getD i []) (K.getD i []) t).length<=1
structure Sz(g:Gz)(L E:List (List It))(K:List (List (Nat×Nat))):Prop where
 l:L.length<=1000000
 e:E.length=L.length
 k:K.length=L.length
 es:∀i,(E.getD i []).length<=1000000
 ks:∀i,(K.getD i []).length<=1000000
 nt:g.nt<=120
variable{L:List (List It)}{l:List Int}{e:TypeId}
def eE{w:oU}{g:Gz}{E:List (List It)}{K:List (List (Nat×Nat))}(h:GR w v g L E K)(j:Sz g L E K)(hc:Calm g E K) :
  () 58 #[v,g.nt] w fun e w'=>e=oQ (oG oN 0 0)/\Below w w w':=by
 have R:Hid (∀y i t,Below w w y->i<L.length->t<=g.nt->() 92 #[v,oH oO i,oH oO t] y fun e w'=>∃p n co,e=oQ (oG p n co)/\n<=1/\Below y y w'):=Hd (fun y i t hy T U=>(Yc (h.later hy) T j.l j.k (j.es i) (j.ks i) U j.nt).mono (by rintro e w' ⟨o,rfl,p,co,rfl,-,hb⟩;exact⟨p,_,co,rfl,hc i t (by rw[j.e];exact T) U,hb⟩))
 have hl:=j.l;have ab:=j.nt;obtain⟨lv,lo,V,rfl,⟨⟨I,J,rfl,-,-⟩,⟨a5,-⟩,-,-,-⟩,⟨p,co,rfl,-,-,-⟩⟩:=h;have hk:=j.k;rw[hk]at R ⊢;rw[<-a5]at R ⊢;clear j hc hk a5;generalize L.length=n at *;generalize g.nt=P at *;generalize g.R.length=own at *;have C:=Ah.new w 107 #[own,oG I n J,oG p n co];have a2:=AG w (oP #[own,oG I n J,oG p n co] 107);have a1:=Hd C;have a0:=Hd a2;clear C a2;go_enter func58,ntmps58
 go_wp2_with fail
 go_loopw [13,5] (fun ii o wr=>∃i:Nat,i<=n/\ii=oH oO i/\o=oG oN 0 0/\Hid (Below (w.heap.size+1) (w.alloc (oP #[own,oG I n J,oG p n co] 107)) wr)) (fun ii _ _=>n-(intOf ii).toNat)
 case atStart=>exact⟨0,AX _,rfl,rfl,Hd (by simpa using Below.refl _ _)⟩
 case round=>
  obtain⟨i,T,rfl,rfl,l⟩:=hrel;rename oU=>w9
  by_cases a8:i<n
  ·go_wp2_with fail
   go_loopw [18,5] (fun tt o wr=>∃t:Nat,t<=P+1/\tt=oH oO t/\o=oG oN 0 0/\Hid (Below (w.heap.size+1) (w.alloc (oP #[own,oG I n J,oG p n co] 107)) wr)) (fun tt _ _=>P+1-(intOf tt).toNat)
   case atStart=>exact⟨0,AX _,rfl,rfl,l⟩
   case round=>
    clear l;obtain⟨t,U,rfl,rfl,l⟩:=hrel;rename oU=>w8
    have a4:Below w w w8:=a0.trans (l.mono nX);have C:=a1.below (by simpa using l.out) a1.lt;have c0:=C.cell 0;have c1:=C.cell 1;have c2:=C.cell 2;have cl:=C.lt;simp at c0 c1 c2;have a7:=Hd a4;clear C a4;by_cases a9:t<P+1
    ·have HA:=Hd (R w8 i t a7 a8 nX)
     go_wp2_with (go_at_call 92;refine HA.mono ?_;rintro e w7 ⟨Aa,na,ca,rfl,aa,a3⟩;have a6:=Hd a3;have hq:¬((1:Int)<(na:Int)):=nX;clear a3)
     go_loopw [9,5] (fun kk o wr=>kk=oH oO 1/\o=oG oN 0 0/\Hid (wr=w7)) (fun _ _ _=>0)
     case atStart=>exact⟨rfl,rfl,Hd rfl⟩
     case round=>
      obtain⟨rfl,rfl,HW⟩:=hrel;have hw:=HW.out;subst hw;clear HW;go_wp2;go_roundw
      case rel=>exact⟨t+1,nX,oD,rfl,Hd (l.trans (a6.mono (by have:=l.size;simpa using this)))⟩
      case measure=>simp[intOf];omega
    ·obtain rfl:t=P+1:=by omega
     go_wp2;go_roundw
     case rel=>exact⟨i+1,nX,oD,rfl,l⟩
     case measure=>simp[intOf];omega
  ·obtain rfl:i=n:=by omega
   go_wp2;go_ret;exact⟨rfl,a0.trans (l.mono nX)⟩
section
set_option maxRecDepth 1000000
def Zh:I7 pz BT AS 1000 1000 PO Po DL D8 291 M7 Kr MN where
 first:=bI
 Oa:=dP
 comes:=mP
 EK:=Wt
 spread:=kE
 items:=fun K o x C=>by
  have h:(BT.all fun K=>K.all fun x=>decide (x.1<=pz.R.length)&&decide (x.2<=1000000))=true:=by decide +kernel
  have i:=List.all_eq_true.1 (List.all_eq_true.1 h K o) x C;simp only[Bool.and_eq_true,decide_eq_true_eq]at i;exact i
 some_:=by decide +kernel
 Cm:=by decide +kernel
 rules:=fun F hF=>by
  have h:(M7.all fun F=>decide (F.length<=100000)&&F.all fun f=>decide (f.1<=pz.R.length)&&decide (f.2<291))=true:=by decide +kernel
  have i:=List.all_eq_true.1 h F hF;simp only[Bool.and_eq_true,decide_eq_true_eq]at i;refine⟨i.1,fun f t=>?_⟩;have j:=List.all_eq_true.1 i.2 f t;simp only[Bool.and_eq_true,decide_eq_true_eq]at j;exact j
 fit:=fun e p=>by have l:=List.all_eq_true.1 S1 e p;simp only[Bool.and_eq_true,decide_eq_true_eq]at l;exact l.1
def Bv:List (List (Nat×Nat)):=[[],[(68,Dj)],[(73,Bx)],[(69,Dj)],[],[(97,Bk)],[],[],[],[],[],[],[],[],[],[(97,Bk)],[],[(97,Bk)],[(97,Bk)],[],[(97,Bk)],[],[(104,1)],[],[(1,32)],[(4,1568)],[(5,Dt)],[(8,Dt)],[(10,BE)],[(13,BE)],[(17,AO)],[(18,AO)],[(19,AO)],[(20,AO)],[(21,AO)],[(22,AO)],[(15,BE)],[(16,AO)],[(12,BE)],[(67,BE)],[(65,BE)],[(71,Bx)],[(81,Bx)],[(83,Bx)],[],[(82,Bx)],[(84,Bx)],[(94,Kd)],[],[(96,Na)],[],[(85,Bx)],[(87,Bx)],[(89,Bx)],[(92,Bx)],[(93,Bx)],[(86,Bx)],[(88,Bx)],[(90,Bx)],[(91,Bx)],[],[(97,Ew)],[],[],[(97,Ew)],[],[(9,Dt)],[(0,1)],[(99,JI)],[(98,JI)],[(2,32)],[(97,Bk)],[(97,Bk)],[(97,I2)],[(14,BE)],[(79,AO)],[(77,Dj)],[(66,BE)],[(75,Dj)],[(70,Dj)],[(74,Bx)],[(64,BE)],[(72,Bx)],[(97,Je)],[(23,AO)],[(95,Kd)],[(27,Jv)],[(24,Kc)],[(97,Bk)],[],[(97,Bk)],[(56,AO)],[(57,AO)],[(97,Db)],[(28,AO)],[(96,Ew),(103,Db)],[],[],[(61,AO)],[(3,1568)],[],[],[],[(80,AO)],[(78,Dj)],[(76,Dj)],[(63,BE)],[],[(101,IF)],[(97,IF)],[(25,Kc)],[],[(97,BQ)],[],[(102,Db)],[],[(29,AO)],[(6,Dt)],[(7,Dt)],[(11,BE)],[(59,BE)],[(58,BE)],[(100,IF)],[(26,Jv)],[(97,Bk)],[(97,Bk)],[(52,AO)],[],[],[(62,AO)],[(33,546)],[],[(103,Db)],[],[(60,BE)],[(55,DK)],[],[(51,AO)],[(49,DO)],[],[(36,AO)],[],[],[(38,Cl)],[(40,BQ)],[],[(32,546)],[],[(30,AO)],[(97,Bk)],[],[(35,AO)],[(34,AO)],[(37,Cl)],[(39,BQ)],[],[(97,M0)],[(31,AO)],[(53,DK)],[(97,M0)],[(50,DO)],[(42,Cl)],[(41,Cl)],[(54,DK)],[(44,Cl)],[(43,Cl)],[(97,BQ)],[(97,BQ)],[(97,BQ)],[(97,BQ)],[(46,BQ)],[(45,BQ)],[(48,BQ)],[(47,BQ)]]
def eI:pz.Ij MN BT (Gz.Cf BT 0) M7=Bv:=by decide +kernel
theorem U8{o:Type}{l:List (List o)}(h:(l.all fun x=>decide (x.length<=n))=true)(i:Nat):(l.getD i []).length<=n:=by
 rw[dG];cases j:l[i]? with
 | none=>simp
 | some x=>have:=List.all_eq_true.1 h x (mG j);simpa using this
def Zi:Sz pz BT AS Bv where
 l:=by decide +kernel
 e:=by decide +kernel
 k:=by decide +kernel
 es:=U8 (by decide +kernel)
 ks:=U8 (by decide +kernel)
 nt:=by decide
end
def AZ(g:Gz)(E:List (List It))(K:List (List (Nat×Nat)))(i t:Nat):It:=(g.Ia (E.getD i []) (K.getD i []) t).headD (0,0)
def Es(g:Gz)(E:List (List It))(K:List (List (Nat×Nat)))(i:Nat):List It:=(List.range (g.nt+1)).map (AZ g E K i)
def E4(g:Gz)(E:List (List It))(i:Nat):List Int:=(List.range g.nn).map fun k=>DE (E.getD i []) (g.nt+1+k)
def GZ(A:Nat->Prop)(w:oU)(v:oV)(l:List Int):Prop:=Bq A w v l.length 1 (fun k _ x=>x=oH oO (l.getD k 0))
def Iy(A:Nat->Prop)(w:oU)(v:oV)(g:Gz):Prop:=Bq A w v (g.R.length+1) 2 (fun k j x=>if j=0 then x=oH oO ((g.Br k).1:Nat) else Ca A w x (g.right k))
def EV(A:Nat->Prop)(w:oU)(v:oV)(g:Gz)(E:List (List It))(K:List (List (Nat×Nat))):Prop:=
 ∃o j l,v=.agg #[o,g.nt,g.nn,j,l]/\Iy A w o g/\Bq A w j E.length 1 (fun i _ x=>DX A w x (Es g E K i))/\Bq A w l E.length 1 (fun i _ x=>GZ A w x (E4 g E i))
def DX.mono{w:oU}{l:List It}(h:DX A w v l)(i:∀b,A b->A' b):DX A' w v l:=Bq.mono h i (fun _ _ _ _ _ h=>h)
def GZ.mono{w:oU}(h:GZ A w v l)(i:∀b,A b->A' b):GZ A' w v l:=Bq.mono h i (fun _ _ _ _ _ h=>h)
def DX.AA{w:oU}{l:List It}(h:DX A w v l)(j:Am X w w')(i:∀b,A b->¬X b):DX A w' v l:=Bq.AA h j i (fun _ _ _ _ _ h=>h)
def GZ.AA{w:oU}(h:GZ A w v l)(j:Am X w w')(i:∀b,A b->¬X b):GZ A w' v l:=Bq.AA h j i (fun _ _ _ _ _ h=>h)
def Iy.AA{w:oU}{g:Gz}(h:Iy A w v g)(p:Am X w w')(o:∀b,A b->¬X b):Iy A w' v g:=Bq.AA h p o (fun k j x _ _ l=>by
 split at l
 ·rename_i i;rw[if_pos i];exact l
 ·rename_i i;rw[if_neg i];exact l.AA p o)
def Iy.mono{w:oU}{g:Gz}(h:Iy A w v g)(o:∀b,A b->A' b):Iy A' w v g:=Bq.mono h o (fun k j x _ _ l=>by
 split at l
 ·rename_i i;rw[if_pos i];exact l
 ·rename_i i;rw[if_neg i];exact l.mono o)
def EV.AA{w:oU}{g:Gz}{E:List (List It)}{K:List (List (Nat×Nat))}(h:EV A w v g E K)(j:Am X w w')(i:∀b,A b->¬X b):EV A w' v g E K:=by obtain⟨J,l,o,p,t,C,I⟩:=h;exact⟨J,l,o,p,t.AA j i,Bq.AA C j i (fun _ _ _ _ _ h=>h.AA j i),Bq.AA I j i (fun _ _ _ _ _ h=>h.AA j i)⟩
def EV.mono{w:oU}{g:Gz}{E:List (List It)}{K:List (List (Nat×Nat))}(h:EV A w v g E K)(i:∀b,A b->A' b):EV A' w v g E K:=by obtain⟨I,j,l,o,p,t,C⟩:=h;exact⟨I,j,l,o,p.mono i,Bq.mono t i (fun _ _ _ _ _ h=>h.mono i),Bq.mono C i (fun _ _ _ _ _ h=>h.mono i)⟩
def Bq.Ma{w:oU}{B:Nat}{sz:Nat}{f:Nat->Nat->oV->Prop}(h:w.ownsRow B e sz v n XS)(hn:n<=1000000)(P:∀b cs,B<=b->Ah w b e cs->A b)(T:∀i j x,i<n->j<sz->XS[i*sz+j]?=oM x->f i j x):Bq A w v n sz f:=by
 rcases Bj h with⟨rfl,rfl⟩|⟨b,c,rfl,t,C,I,_,p,R⟩
 ·exact⟨oN,0,rfl,Ay _,nX,fun k l=>by omega⟩
 ·refine⟨_,c,rfl,I,hn,fun k l=>⟨b,0,rfl,P b p t R,C,fun j U=>?_⟩⟩
  have hl:=h.1;have a0:k*sz+j<n*sz:=by have J:(k+1)*sz<=n*sz:=Nat.mul_le_mul_right _ l;rw[Nat.succ_mul]at J;omega
  have o:XS[k*sz+j]?=oM (XS[k*sz+j]'(by omega)):=eG nX;exact⟨_,by rw[Nat.zero_add,Bh h _ a0,o],T k j _ l U o⟩
def DV(H:Nat->It)(n k:Nat):List It:=(List.range n).map fun t=>if t<k then H t else(0,0)
def Lg(H:Nat->It)(n k:Nat):(DV H n k).length=n:=by simp[DV]
def Zq(H:Nat->It)(n:Nat):DV H n n=(List.range n).map H:=by
 unfold DV;refine List.map_congr_left fun t i=>?_
 rw[if_pos (List.mem_range.1 i)]
def fY(H:Nat->It){k:Nat}(j:k<n):DV H n (k+1)=(DV H n k).set k (H k):=by
 apply List.ext_getElem?;intro t;by_cases i:t<n
 ·by_cases e:t=k
  ·subst e
   rw[tG (by rw[Lg];exact i)];simp[DV,i]
  ·rw[uG (Ne.symm e)]
   simp only[DV,pG,List.getElem?_range i,Option.map_some];by_cases h:t<k
   ·rw[if_pos h,if_pos nX]
   ·rw[if_neg h,if_neg nX]
 ·rw[nG (by rw[Lg];omega),nG (by rw[List.length_set,Lg];omega)]
def iP(H:Nat->It){k:Nat}(j:k<n)(h:H k=(0,0)):DV H n (k+1)=DV H n k:=by
 unfold DV;refine List.map_congr_left fun t l=>?_
 by_cases e:t=k
 ·rw[if_pos nX,if_neg nX,e,h]
 ·by_cases i:t<k
  ·rw[if_pos i,if_pos nX]
  ·rw[if_neg i,if_neg nX]
theorem US:∀(l:List It) (k:Nat) (x:It),k<l.length->((l.flatMap De).set (k*2) x.1).set (k*2+1) x.2=(l.set k x).flatMap De
 | [],k,x,h=>by simp at h
 | y::l,0,x,_=>by simp[De]
 | y::l,k+1,x,h=>by have:=US l k x (by simpa using h);rw[show (k+1)*2=k*2+2 by omega,List.flatMap_cons,List.set_cons_succ,List.flatMap_cons,<-this];simp[De]
theorem Zt(H:Nat->It)(n:Nat):((DV H n 0).flatMap De).toArray=Array.replicate (n*2) (oH oO 0):=by
 have e:DV H n 0=List.replicate n (0,0):=by
  unfold DV;apply List.ext_getElem?;intro t;by_cases i:t<n
  ·simp[i]
  ·rw[nG (by simpa using i),nG (by simpa using i)]
 rw[e];induction n with
 | zero=>simp
 | succ n o=>
  have l:DV H n 0=List.replicate n (0,0):=by
   unfold DV;apply List.ext_getElem?;intro t;by_cases i:t<n
   ·simp[i]
   ·rw[nG (by simpa using i),nG (by simpa using i)]
  have j:=congrArg Array.toList (o l);simp only[Array.toList_replicate]at j;apply Array.toList_inj.1;rw[List.replicate_succ,List.flatMap_cons,Array.toList_replicate,show (n+1)*2=n*2+1+1 by omega,List.replicate_succ,List.replicate_succ];simpa [De] using j
def ZZ(R:n<=1000000)(y:oU):(Instr.makeSlice 120 (oH oO (n:Nat)) (oH oO (n:Nat))).run Tryz.prog y=.ok (oG (y,0) n n) (y.alloc (oP (Array.replicate (n*2) (oH oO 0)) 95)):=by
 obtain⟨i,o,t,C,I⟩:=info_parts (show (Tryz.prog.info? 95).map (fun i=>(i.zero,i.size,i.bytes))=oM (oM (.agg #[oH oO 0,oH oO 0]),2,16) by kernel_rfl);have l:(i.bytes:Int)*(n:Int)<=281474976710656:=by rw[I];omega
 have p:=run_make (P:=Tryz.prog) y 120 95 i (.agg #[oH oO 0,oH oO 0]) underlying120 o t oO oO n n nX (Int.le_refl _) l nX;rw[p,C,Int.toNat_natCast];congr 4;unfold madeCells;apply Array.ext
 ·simp
 ·intro j J P
  simp[Value.cells];have:j%2=0\/j%2=1:=by omega
  rcases this with h|h<;>simp[h]
def Py{w:oU}{B b:Nat}{sz:Nat}(h:Ah w b e XS.toArray)(j:B<=b)(i:XS.length=n*sz)(l:n<=1000000):w.ownsRow B e sz (oG (b,0) n n) n XS:=
 ⟨i,.inr ⟨b,n,XS.toArray,rfl,j,h,Ay _,oB,by simp[i],by simp[<-i]⟩⟩
def Rt(w wr:oU)(b:Nat):Prop:=b<w.heap.size\/(w.heap.size<=b/\∃j,Ah wr b 3 j)
def Ca.rt{w wr w2:oU}{l:List Nat}(h:Ca (Rt w wr) wr v l)(R:w.heap.size<=wr.heap.size)(P:wr.heap.size<=w2.heap.size)(I:∀b,b<wr.heap.size->Rt w wr b->w2.heap[b]?=wr.heap[b]?):Ca (Rt w w2) w2 v l:=by
 have J:∀b,Rt w wr b->b<wr.heap.size:=fun b j=>by
  rcases j with o|⟨o,t,p⟩
  ·omega
  ·exact p.lt
 have C:BV (Rt w wr) wr w2:=fun b j=>I b (J b j) j
 refine h.BZ (fun b j=>?_) P C;rcases id j with o|⟨o,t,p⟩
 ·exact .inl o
 ·exact .inr ⟨o,t,(C b j).trans p⟩
def KR(z:Nat×oV):List oV:=[oH oO z.1,z.2]
structure Hb(w wr:oU)(B:Nat)(g:Gz)(k:Nat)(rv:oV)(Z:List (Nat×oV)):Prop where
 size:w.heap.size<=B/\B<=wr.heap.size
 len:Z.length=k
 row:wr.ownsRow B 113 2 rv Z.length (Z.flatMap KR)
 is:∀(j:Nat) (x:Nat×oV),Z[j]?=oM x->x.1=(g.Br j).1/\Ca (Rt w wr) wr x.2 (g.right j)
variable{w:oU}{B k:Nat}{Z:List (Nat×oV)}
def Hb.later{wr w2:oU}{g:Gz}{rv:oV}(h:Hb w wr B g k rv Z)(l:Below wr wr w2):Hb w w2 B g k rv Z:=
 ⟨⟨h.size.1,AW h.size.2 l.size⟩,h.len,AU h.row l,fun j x o=>⟨(h.is j x o).1,(h.is j x o).2.rt (AW h.size.1 h.size.2) l.size (fun b p _=>l.block b p)⟩⟩
def Hb.more{l wc:oU}{g:Gz}{rv:oV}(h:Hb w l B g k rv Z){x:oV}(hx:Ca (Rt w l) l x (g.right k)){A:Option Addr}{c:Nat}(r1:wc.ownsRow B 113 2 (oG A (Z.length+1) c) (Z.length+1) (Z.flatMap KR++[oH oO ((g.Br k).1:Nat),x]))(r2:AI B [113] l wc)
  {tb:Nat}  (T:Ah wc tb 79 cs) (hB:w.heap.size<=tb) (u:oV):Hb w (wc.setCell (tb,0) u) B g (k+1) (oG A (Z.length+1) c) (Z++[((g.Br k).1,x)]):=by
 have P:∀b,b<l.heap.size->Rt w l b->(wc.setCell (tb,0) u).heap[b]?=l.heap[b]?:=fun b hb R=>by
  have o:wc.heap[b]?=l.heap[b]?:=r2.block b hb (by
   rcases R with o|⟨_,C,o⟩
   ·exact .inl (A0 o h.size.1)
   ·refine .inr fun a2 a3 m J=>?_
    unfold Ah at o;rw[o]at J;cases J
    decide)
  have a1:b≠tb:=by
   rcases R with I|⟨_,C,I⟩
   ·omega
   ·have h3:Ah wc b 3 C:=o.trans I
    exact Ah.Bb h3 T nY
  exact(Below.heap_setCell _ _ _ _ a1).trans o
 have t:l.heap.size<=(wc.setCell (tb,0) u).heap.size:=by simpa [World.setCell] using r2.size
 have U:=AW h.size.1 h.size.2;refine⟨⟨h.size.1,AW h.size.2 t⟩,by simp[h.len],?_,fun j y p=>?_⟩
 ·rw[Cb,List.flatMap_append]
  exact EB r1 (p:=⟨tb,0,oN⟩) (Du r1 T nY) u
 ·by_cases hj:j<Z.length
  ·rw[gL hj]at p
   exact⟨(h.is j y p).1,(h.is j y p).2.rt U t P⟩
  ·rw[List.getElem?_append_right nX]at p
   have a0:j-Z.length=0:=by have:=(sG.1 p).1;simpa using this
   rw[a0]at p;cases p
   have:j=k:=by have:=h.len;omega
   subst this;exact⟨rfl,hx.rt U t P⟩
def Hb.done{wr:oU}{g:Gz}{rv:oV}(h:Hb w wr B g (g.R.length+1) rv Z)(hn:g.R.length<=300){tb rb:Nat}{T:Array oV}(P:Ah wr tb 79 cs)(J:Ah wr rb 79 T)(hB:w.heap.size<=tb)(a1:w.heap.size<=rb):Iy (fun b=>b<wr.heap.size/\b≠tb/\b≠rb) wr rv g:=by
 unfold Iy;have hl:=h.len;rw[<-hl];refine Bq.Ma h.row nX (fun b U a2 o=>⟨o.lt,Ah.Bb o P nY,Ah.Bb o J nY⟩) (fun i j x C I hx=>?_);obtain⟨z,R⟩:∃z,Z[i]?=oM z:=⟨_,eG C⟩
 obtain⟨_,a0⟩:=sG.1 R;have p:=CP KR 2 (fun _=>rfl) Z i j C I;rw[hx,a0]at p;obtain⟨h1,h2⟩:=h.is i z R
 match j,I with
 | 0,_=>rw[if_pos rfl];cases p;rw[h1]
 | 1,_=>
  rw[if_neg nX];cases p
  refine h2.mono (fun b hb=>?_);rcases hb with t|⟨t,U,l⟩
  ·exact⟨A0 t (AW h.size.1 h.size.2),nX,nX⟩
  ·exact⟨l.lt,Ah.Bb l P nY,Ah.Bb l J nY⟩
structure Gi(w1 wr:oU)(tb:Nat)(g:Gz)(E:List (List It))(K:List (List (Nat×Nat)))(i:Nat)(rv av gv:oV)(ZA:List (oV×List It))(ZG:List (oV×List Int))(ds:List Deferred):Prop where
 AA:Am (·=tb) w1 wr
 lt:tb<w1.heap.size
 Cx:Ah wr tb 79 #[rv,g.nt,g.nn,av,gv]
 za:ZA.map (·.2)=(List.range i).map (Es g E K)
 zg:ZG.map (·.2)=(List.range i).map (E4 g E)
 Kg:wr.ownsRow w1 120 1 av ZA.length (ZA.map (·.1))
 MI:∀z∈ZA,wr.ownsRow w1 95 2 z.1 z.2.length (z.2.flatMap De)
 goto:wr.ownsRow w1 22 1 gv ZG.length (ZG.map (·.1))
 Nw:∀z∈ZG,wr.ownsRow w1 3 1 z.1 z.2.length (z.2.map B4)
 marks:CX w1.heap.size wr ds
variable{g:Gz}{E:List (List It)}{K:List (List (Nat×Nat))}
section
variable {w1 wr w':oU} {tb rb:Nat} {g:Gz} {E:List (List It)} {K:List (List (Nat×Nat))} {i:Nat} {rv av gv:oV} {ZA:List (oV×List It)} {ZG:List (oV×List Int)} {ds:List Deferred}
def CX.later(h:CX B wr ds)(l:Below wr wr w'):CX B w' ds:=h.BZ fun D _ j _=>(l.block D (aG.1 j).1).trans j
def CX.keeps{o:Nat}{T:List TypeId}(h:CX B wr ds)(p:AI o T wr w'):CX B w' ds:=h.BZ fun D _ j _=>(p.block D (aG.1 j).1 (.inr fun C t m l=>by rw[j]at l;cases l)).trans j
def CX.stored{b:Nat}{t:TypeId}(h:CX B wr ds)(l:Ah wr b t cs)(j:Nat)(u:oV):CX B (wr.setCell (b,j) u) ds:=h.BZ fun D _ o _=>(Below.heap_setCell _ _ _ _ (fun e=>by have e:D=b:=e;subst e;unfold Ah at l;rw[o]at l;cases l)).trans o
def Gi.later(h:Gi w1 wr tb g E K i rv av gv ZA ZG ds)(j:Below wr wr w'):Gi w1 w' tb g E K i rv av gv ZA ZG ds:=
 ⟨h.AA.next (Am.AJ j),h.lt,h.Cx.below j h.Cx.lt,h.za,h.zg,AU h.Kg j,fun z l=>AU (h.MI z l) j,AU h.goto j,fun z l=>AU (h.Nw z l) j,h.marks.later j⟩
def Gi.marked(h:Gi w1 wr tb g E K i rv av gv ZA ZG ds){j:List Deferred}(l:CX w1.heap.size wr j):Gi w1 wr tb g E K i rv av gv ZA ZG j:=
 ⟨h.AA,h.lt,h.Cx,h.za,h.zg,h.Kg,h.MI,h.goto,h.Nw,l⟩
def Gi.more(h:Gi w1 wr tb g E K i rv av gv ZA ZG ds){T U:oV}(ha:wr.ownsRow w1 95 2 T (Es g E K i).length ((Es g E K i).flatMap De))(hg:wr.ownsRow w1 3 1 U (E4 g E i).length ((E4 g E i).map B4))
  (o:AI w1 [120,22] wr w') {j l:oV} (ka:w'.ownsRow w1 120 1 j (ZA.length+1) (ZA.map (·.1)++[T])) (kg:w'.ownsRow w1 22 1 l (ZG.length+1) (ZG.map (·.1)++[U])) :
  Gi w1 ((w'.setCell (tb,3) j).setCell (tb,4) l) tb g E K (i+1) rv j l (ZA++[(T,Es g E K i)]) (ZG++[(U,E4 g E i)]) ds:=by
 have hs:=h.AA.size;have P:Ah w' tb 79 #[rv,g.nt,g.nn,av,gv]:=o.Aj h.Cx (.inr nY);have a0:Ah (w'.setCell (tb,3) j) tb 79 #[rv,g.nt,g.nn,j,gv]:=by simpa using P.Ba 3 j
 have a3:Ah ((w'.setCell (tb,3) j).setCell (tb,4) l) tb 79 #[rv,g.nt,g.nn,j,l]:=by simpa using a0.Ba 4 l
 have a1:Am (·=tb) w1 w':=h.AA.trans (Y:=fun b=>w1.heap.size<=b) ⟨o.os,o.tape,o.output,o.size,fun k a2 hx=>o.block k a2 (.inl nX)⟩ (fun b hb hx=>by omega);have hc:Am (·=tb) w1 ((w'.setCell (tb,3) j).setCell (tb,4) l):=(a1.set (p:=⟨tb,3,oN⟩) (.inr rfl) _).set (p:=⟨tb,4,oN⟩) (.inr rfl) _;have Bz:∀{e:TypeId} {C n:Nat} {v:oV} {I:List oV},w'.ownsRow w1 e C v n I->e≠79->((w'.setCell (tb,3) j).setCell (tb,4) l).ownsRow w1 e C v n I:=fun t J=>EB (EB t (p:=⟨tb,3,oN⟩) (Du t P J) _) (p:=⟨tb,4,oN⟩) (Du t P J) _
 have BZ:∀{e:TypeId} {C n:Nat} {v:oV} {I:List oV},wr.ownsRow w1 e C v n I->e ∉ [120,22]->w'.ownsRow w1 e C v n I:=fun t J=>o.own t (.inr J)
 refine⟨hc,h.lt,a3,?_,?_,?_,fun z R=>?_,?_,fun z R=>?_,((h.marks.keeps o).stored P 3 _).stored a0 4 _⟩
 ·rw[BB,h.za,List.range_succ,BB];rfl
 ·rw[BB,h.zg,List.range_succ,BB];rfl
 ·rw[BB,Cb]
  exact Bz ka nY
 ·rcases mA.1 R with p|p
  ·exact Bz (BZ (h.MI z p) nY) nY
  ·rw[mS.1 p]
   exact Bz (BZ ha nY) nY
 ·rw[BB,Cb]
  exact Bz kg nY
 ·rcases mA.1 R with p|p
  ·exact Bz (BZ (h.Nw z p) nY) nY
  ·rw[mS.1 p]
   exact Bz (BZ hg nY) nY
def lK(l:List It)(k:Nat):(l.flatMap De)[k*2]?=l[k]?.map (fun x=>Value.int oO x.1)/\(l.flatMap De)[k*2+1]?=l[k]?.map (fun x=>Value.int oO x.2):=by
 by_cases j:k<l.length
 ·have h0:=CP De 2 (fun _=>rfl) l k 0 j nX
  have o:=CP De 2 (fun _=>rfl) l k 1 j nX;rw[Nat.add_zero]at h0;rw[h0,o,eG j];exact⟨rfl,rfl⟩
 ·have p:=KU De 2 (fun _=>rfl) l
  rw[nG nX,nG nX,nG nX];exact⟨rfl,rfl⟩
theorem cK{l:List It}(h:w.ownsRow B 95 2 v l.length (l.flatMap De))(P:l.length<=1000000)(C:∀b cs,B<=b->Ah w b 95 cs->A b):DX A w v l:=by
 refine Bq.Ma h P C (fun i j x I J o=>?_);obtain⟨h0,t⟩:=lK l i;have p:l[i]?=oM (l.getD i (0,0)):=by rw[dG,eG I];rfl
 match j,J with
 | 0,_=>
  rw[Nat.add_zero,h0,p]at o;cases o
  rfl
 | 1,_=>
  rw[t,p]at o;cases o
  rfl
def cX(h:w.ownsRow B 3 1 v l.length (l.map B4))(C:l.length<=1000000)(t:∀b cs,B<=b->Ah w b 3 cs->A b):GZ A w v l:=by
 refine Bq.Ma h C t (fun i j x o I p=>?_);obtain rfl:j=0:=by omega
 rw[Nat.mul_one,Nat.add_zero,pG,eG o]at p;cases p
 rw[dG,eG o];rfl
def Gi.done(h:Gi w1 wr tb g E K E.length rv av gv ZA ZG ds)(hr:Iy (fun b=>b<w1.heap.size/\b≠tb/\b≠rb) w1 rv g)(hn:E.length<=1000000)(a2:g.nt<=120)(a1:g.nn<=120)(a3:rb<w1.heap.size)(a4:tb<w1.heap.size) :
  EV (fun b=>(b<wr.heap.size/\b≠tb/\b≠rb)/\¬(w1.heap.size<=b/\wr.heap[b]?=oM (.deferred (oM [])))) wr (.agg #[rv,g.nt,g.nn,av,gv]) g E K:=by
 have hs:=h.AA.size;have R:ZA.length=E.length:=by simpa using congrArg List.length h.za
 have T:ZG.length=E.length:=by simpa using congrArg List.length h.zg
 have I:∀{a0:TypeId} (b:Nat) (P:Array oV),w1.heap.size<=b->Ah wr b a0 P->(b<wr.heap.size/\b≠tb/\b≠rb)/\¬(w1.heap.size<=b/\wr.heap[b]?=oM (.deferred (oM []))):=fun b P t o=>⟨⟨o.lt,nX,nX⟩,fun p=>by unfold Ah at o;rw[p.2]at o;cases o⟩
 refine⟨rv,av,gv,rfl,(hr.AA h.AA (fun b J=>J.2.1)).mono (fun b J=>⟨⟨A0 J.1 hs,J.2⟩,fun p=>by omega⟩),?_,?_⟩
 ·rw[<-R]
  refine Bq.Ma h.Kg nX I (fun i j x l U C=>?_);obtain rfl:j=0:=by omega
  rw[Nat.mul_one,Nat.add_zero,pG,eG l]at C;cases C
  have t:=h.MI _ (List.getElem_mem l);have o:ZA[i].2=Es g E K i:=by have p:=congrArg (·[i]?) h.za;simp only[pG,eG l,List.getElem?_range (R▸l),Option.map_some]at p;exact Option.some.inj p
  rw[o]at t;exact cK t (by simp[Es];omega) I
 ·rw[<-T]
  refine Bq.Ma h.goto nX I (fun i j x l U C=>?_);obtain rfl:j=0:=by omega
  rw[Nat.mul_one,Nat.add_zero,pG,eG l]at C;cases C
  have t:=h.Nw _ (List.getElem_mem l);have o:ZG[i].2=E4 g E i:=by have p:=congrArg (·[i]?) h.zg;simp only[pG,eG l,List.getElem?_range (T▸l),Option.map_some]at p;exact Option.some.inj p
  rw[o]at t;exact cX t (by simp[E4];omega) I
end
def Fa(G:Nat->Int)(n k:Nat):List Int:=(List.range n).map fun t=>if t<k then G t else 0
def aI(G:Nat->Int)(l:k<n):Fa G n (k+1)=(Fa G n k).set k (G k):=by
 apply List.ext_getElem?;intro t;by_cases j:t<n
 ·by_cases e:t=k
  ·subst e
   rw[tG (by simp[Fa];exact j)];simp[Fa,j]
  ·rw[uG (Ne.symm e)]
   simp only[Fa,pG,List.getElem?_range j,Option.map_some];by_cases h:t<k
   ·rw[if_pos h,if_pos nX]
   ·rw[if_neg h,if_neg nX]
 ·rw[nG (by simp[Fa];omega),nG (by simp[Fa];omega)]
def bX(G:Nat->Int)(n:Nat):Fa G n n=(List.range n).map G:=by
 unfold Fa;refine List.map_congr_left fun t j=>?_
 rw[if_pos (List.mem_range.1 j)]
def ZH(G:Nat->Int)(n:Nat):((Fa G n 0).map B4).toArray=Array.replicate n (oH oO 0):=by apply Array.toList_inj.1;rw[Array.toList_replicate];simp[Fa,B4,List.map_const']
section
attribute [local go_sem] Oper.semAt_some
def Z8(P:Program)(fn:Func)(R:Ending->oU->Prop):Exit->Act->oU->Prop
 | .normal,a,w | .ret,a,w=>LeavesInM Fence.wide 0 P fn a.tmps R a.defers .returning w
 | _,_,_=>False
theorem fV{P:Program}{f:FuncId}{fn:Func}{c:Code}{args:Array oV}{R:Ending->oU->Prop}(j:P.funcs[f]?=oM fn)(i:fn.body=oM c)
  (h:c.wp P (Z8 P fn R) {tmps:=args++Array.replicate (fn.ntmps-args.size) undef,defers:=[]} w):Calls P f args w R:=by
 refine(callsIn_wide (n:=0)).1 (callsIn_of_wp_marks j i trivial (wpIn_wide.2 (Code.wp_mono ?_ h)) rfl);intro e a w h;cases e with
 | normal=>exact h
 | ret=>exact h
 | panic o=>exact h.elim
 | exit id=>exact h.elim
 | goto l=>exact h.elim
 | outgrown=>exact h.elim
def RZ(y:oU)(g:Gz)(L E:List (List It))(K:List (List (Nat×Nat)))(e:Ending)(w':oU):Prop:=∃i,e=oQ (.tuple #[i,oH oO 0])/\GR w' i g L E K/\Below y y w'
def Rb(w:oU)(g:Gz)(E:List (List It))(K:List (List (Nat×Nat)))(e:Ending)(w':oU):Prop:=∃i,e=oQ (.tuple #[i,oH oO 0])/\EV (fun b=>b<w'.heap.size) w' i g E K/\Below w w w'
def GR.form(h:GR w v g L E K)(o:K.length=L.length):∃i l j co,v=.agg #[g.R.length,oG i L.length l,oG j L.length co]:=by obtain⟨R,P,V,rfl,⟨⟨i,l,rfl,-,t⟩,⟨p,C⟩,hit,J,-⟩,⟨j,co,rfl,-,-,I⟩⟩:=h;exact⟨i,l,j,co,by rw[o,p]⟩
def SB(j rb mb tb:Nat)(l o p:oV)(f:Nat->oV)(i:List Deferred):Act:={tmps:=#[f 0,oI (oM ⟨j,0,oN⟩),oI (oM ⟨rb,0,oN⟩),oH oO 0,oI (oM ⟨mb,0,oN⟩),f 5,oI (oM ⟨tb,0,oN⟩),f 7,f 8,f 9,f 10,f 11,f 12,f 13,f 14,f 15,f 16,f 17,f 18,f 19,f 20,f 21,f 22,f 23,f 24,f 25,f 26,f 27,f 28,f 29,f 30,f 31,f 32,f 33,f 34,f 35,f 36,f 37,f 38,f 39,f 40,f 41,f 42,f 43,f 44,f 45,f 46,f 47,f 48,f 49,f 50,f 51,f 52,f 53,f 54,f 55,f 56,f 57,f 58,f 59,f 60,f 61,f 62,f 63,l,o,p,f 67,f 68,f 69,f 70,f 71,f 72,f 73,f 74,f 75,f 76,f 77,f 78,f 79,f 80,f 81,f 82,f 83,f 84,f 85,f 86,f 87,f 88,f 89,f 90,f 91,f 92,f 93,f 94,f 95,f 96,f 97,f 98,f 99,f 100,f 101,f 102,f 103,f 104,f 105,f 106,f 107,f 108,f 109,f 110,f 111,f 112,f 113,f 114,f 115,f 116,f 117,f 118,f 119,f 120,f 121,f 122,f 123,f 124,f 125,f 126,f 127,f 128,f 129,f 130],defers:=i}
def Qv(l rb mb tb o J:Nat)(i p t C I:oV)(f:Nat->oV)(j:List Deferred):Act:={tmps:=#[f 0,oI (oM ⟨l,0,oN⟩),oI (oM ⟨rb,0,oN⟩),oH oO 0,oI (oM ⟨mb,0,oN⟩),f 5,oI (oM ⟨tb,0,oN⟩),f 7,f 8,f 9,i,oI (oM ⟨o,0,oN⟩),oI (oM ⟨J,0,oN⟩),f 13,f 14,f 15,f 16,f 17,f 18,f 19,f 20,f 21,f 22,f 23,f 24,f 25,f 26,f 27,f 28,f 29,f 30,f 31,f 32,f 33,f 34,f 35,f 36,f 37,f 38,f 39,f 40,f 41,f 42,f 43,f 44,f 45,f 46,f 47,f 48,f 49,f 50,f 51,f 52,f 53,f 54,f 55,f 56,f 57,f 58,f 59,f 60,f 61,f 62,f 63,p,t,i,f 67,f 68,f 69,f 70,f 71,f 72,f 73,f 74,f 75,C,I,f 78,f 79,f 80,f 81,f 82,f 83,f 84,f 85,f 86,f 87,f 88,f 89,f 90,f 91,f 92,f 93,f 94,f 95,f 96,f 97,f 98,f 99,f 100,f 101,f 102,f 103,f 104,f 105,f 106,f 107,f 108,f 109,f 110,f 111,f 112,f 113,f 114,f 115,f 116,f 117,f 118,f 119,f 120,f 121,f 122,f 123,f 124,f 125,f 126,f 127,f 128,f 129,f 130],defers:=j}
def Nu(o y z:oU)(l p i n:Nat)(iv tv:oV)(H:Nat->It)(k:Nat)(j:List Deferred):Prop:=
 Below y y z/\Ah z l 119 #[iv,tv]/\Ah z p 120 #[oG (i,0) n n]/\Ah z i 95 ((DV H n k).flatMap De).toArray/\CX o.heap.size z j
def Xx:El Tryz.prog 45 113 2 32:=El.of (z:=.agg #[oH oO 0,oG oN 0 0]) underlying45 nZ rfl nY
def Oj:El Tryz.prog 76 120 1 24:=El.of (z:=oG oN 0 0) underlying76 nZ rfl nY
def Xg(hg:GN w v g)(hs:Sz g L E K)(hc:Calm g E K)
  (b1:∀y,Below w w y->() 57 #[v] y (RZ y g L E K)):() 37 #[v] w (Rb w g E K):=by
 have HG:=Hd hg;have HS:=Hd hs;have ez:=Hd b1;have en:Hid (∀y mv,GR y mv g L E K->() 58 #[mv,g.nt] y fun e w'=>e=oQ (oG oN 0 0)/\Below y y w'):=Hd (fun y mv h=>eE h hs hc);obtain⟨AT,cT,AN,cN,AR,cR,rfl,-,-⟩:=hg.open_;have ep:=Hd (Ah.new w 47 #[oG AT g.nt cT,oG AN g.nn cN,oG AR g.R.length cR,g.s]);have da:=Hd (AG w (oP #[oG AT g.nt cT,oG AN g.nn cN,oG AR g.R.length cR,g.s] 47));have de:=Hd (ep.alloc (oP #[oG oN 0 0,oH oO 0,oH oO 0,oG oN 0 0,oG oN 0 0] 79))
 have dj:=Hd (Ah.new (w.alloc (oP #[oG AT g.nt cT,oG AN g.nn cN,oG AR g.R.length cR,g.s] 47)) 79 #[oG oN 0 0,oH oO 0,oH oO 0,oG oN 0 0,oG oN 0 0]);have a7:=Hd (da.alloc da.size (oP #[oG oN 0 0,oH oO 0,oH oO 0,oG oN 0 0,oG oN 0 0] 79));have j3:=hg.fit.nr;have jw:=hs.nt;have jv:=hg.fit.nn;clear hg hs hc b1 ep da;refine fV func37 rfl ?_;simp only[ntmps37,List.size_toArray,List.length_cons,List.length_nil,Nat.reduceAdd,Nat.reduceSub,Array.replicate_succ,Array.replicate_zero,List.push_toArray,List.append_toArray,List.nil_append,List.cons_append]
 go_wp2_with (first
  | (
    go_at_call 57;refine(ez _ a7).mono ?_;rintro e J ⟨mv,rfl,hM,cv⟩
    obtain⟨AL,cL,Ao,co,jl⟩:=hM.form HS.k;subst jl;have HM:=Hd hM;have ei:=Hd (a7.trans (cv.mono a7.size));have ak:=Hd (de.below cv de.lt);have cl:=Hd (dj.below cv dj.lt);have eo:=Hd (en (J.alloc (oP #[g.R.length,oG AL L.length cL,oG Ao L.length co] 107)) _ (hM.later (AG _ _)));have g0:=Ah.cell ak 0;have g1:=Ah.cell ak 1;have g2:=Ah.cell ak 2;have g3:=Ah.cell ak 3;have gl:=ak.lt;simp at g0 g1 g2 g3;clear hM cv)
  | (
    go_at_call 58;refine eo.mono ?_;rintro e w3 ⟨rfl,bt⟩
    have au:=Hd ((ak.alloc (oP #[g.R.length,oG AL L.length cL,oG Ao L.length co] 107)).below bt (ak.alloc _).lt);have fb:=Hd ((cl.alloc (oP #[g.R.length,oG AL L.length cL,oG Ao L.length co] 107)).below bt (cl.alloc _).lt);have df:=Hd ((Ah.new J 107 #[g.R.length,oG AL L.length cL,oG Ao L.length co]).below bt oA);have db:Hid (Below J J w3):=Hd ((AG J _).trans (bt.mono oA));have x0:=Ah.cell au 0;have x1:=Ah.cell au 1;have x2:=Ah.cell au 2
    have x3:=Ah.cell au 3;have xl:=au.lt;simp at x0 x1 x2 x3;clear bt g0 g1 g2 g3 gl))
 clear en ez eo;have ff:=Hd (fun(y:oU) (hy:Below w w y) (k:Nat) (hk:k<=g.R.length)=>Q5 HG hy hk);have a4:Hid (w.heap.size+1<J.heap.size/\J.heap.size<w3.heap.size):=Hd ⟨by have h:=cl.lt;simpa using h,df.lt⟩;have HT:=Hd (Ah.new w3 79 #[oG oN 0 0,g.nt,g.nn,oG oN 0 0,oG oN 0 0]);have es:=Hd (au.alloc (oP #[oG oN 0 0,g.nt,g.nn,oG oN 0 0,oG oN 0 0] 79));have dn:=Hd (fb.alloc (oP #[oG oN 0 0,g.nt,g.nn,oG oN 0 0,oG oN 0 0] 79))
 have f2:=Hd (df.alloc (oP #[oG oN 0 0,g.nt,g.nn,oG oN 0 0,oG oN 0 0] 79));have bj:Hid (Below J J (w3.alloc (oP #[oG oN 0 0,g.nt,g.nn,oG oN 0 0,oG oN 0 0] 79))):=Hd (db.alloc db.size _);have it:Hid ((w3.alloc (oP #[oG oN 0 0,g.nt,g.nn,oG oN 0 0,oG oN 0 0] 79)).heap.size=w3.heap.size+1):=Hd oA;have a3:(w.alloc (oP #[oG AT g.nt cT,oG AN g.nn cN,oG AR g.R.length cR,g.s] 47)).heap.size=w.heap.size+1:=by simp
 rw[a3]at dn;clear de dj a7 ak cl au fb df db x0 x1 x2 x3 xl a3;generalize w3.alloc (oP #[oG oN 0 0,g.nt,g.nn,oG oN 0 0,oG oN 0 0] 79)=W at *;generalize w3.heap.size=T at *;generalize gm:J.heap.size=mb at *;have dg:=Hd gm;clear gm;have ev:Hid (Hb w W W.heap.size g 0 (oG oN 0 0) []):=Hd ⟨⟨by have p:=bj.size;have P:=a4.out;have U:=it.out;omega,Ay _⟩,rfl,⟨rfl,.inl ⟨rfl,rfl⟩⟩,fun j x hx=>by cases hx⟩;go_loopw [47] (fun kk wr=>∃(k:Nat) (rv:oV) (Z:List (Nat×oV)),k<=g.R.length+1/\kk=oH oO k/\Hid (Hb w wr W.heap.size g k rv Z)/\Hid (Ah wr T 79 #[rv,g.nt,g.nn,oG oN 0 0,oG oN 0 0])/\Hid (Am (·=T) W wr)) (fun kk _=>g.R.length+1-(intOf kk).toNat)
 case atStart=>exact⟨0,_,[],AX _,rfl,ev,HT,Hd (Am.refl _ _)⟩
 case round=>
  obtain⟨k,rv,Z,hk,rfl,aw,ax,ar⟩:=hrel;rename oU=>wr
  have bd:=ar.Aj es (by have:=a4.out;omega);have jz:=CG aw.row;obtain⟨ab,ad,rfl⟩:=jz;have dw:=aw.len;rw[dw]at aw ax;have x0:=Ah.cell bd 0;have x1:=Ah.cell bd 1;have x2:=Ah.cell bd 2;have x3:=Ah.cell bd 3;have t0:=Ah.cell ax 0;simp at x0 x1 x2 x3 t0;have an:=Hd dw;have ij:=Hd bd;clear bd dw;by_cases e6:k<g.R.length+1
  ·have dy:Below w w wr:=by
     have p:=ei.out;have P:Below w J W:=bj.mono (by have:=a4.out;omega);have U:Below w W wr:=ar.below (by have h4:=bj.size;have h5:=dg.out;have:=a4.out;omega) (fun j hj e=>by have:=a4.out;omega);exact(p.trans P).trans U
   have iq:=Hd (ff wr dy k nX);have dc:=Hd dy;clear dy;go_upto_region 11 with(first
     | (
       go_at_call 59;refine iq.mono ?_;rintro e y ⟨rk,rfl,hn,bb,gp,gq⟩
       obtain⟨⟨aq,ay,jy,-⟩,-,-⟩:=id hn;subst jy;have ik:Hid (Ca (Rt w y) y (oG aq (g.right k).length ay) (g.right k)):=Hd (by
         by_cases ji:k<g.R.length
         · have p:=Sc (gp ji)
           have ao:Below w w y:=dc.trans (bb.mono dc.size);exact p.BZ (fun b hb=>.inl hb) ao.size (fun b hb=>ao.block b hb)
         · obtain⟨b,hb,gj,cs,cw⟩:=gq nX
           refine⟨hn,fun b' dx _=>?_⟩;rw[hb]at dx;simp only[Value.ownBlock,Option.some.injEq]at dx;subst dx;exact .inr ⟨AW dc.size gj,cs,cw⟩)
       have aj:=Hd bb;have cn:=Hd (aw.later bb);have ir:Hid (y.ownsRow W 113 2 (oG ab k ad) k (Z.flatMap KR)):=Hd (by have h:=(aw.later bb).row;rw[an.out]at h;exact h);have dp:=Hd (ax.below bb ax.lt);have y0:=Ah.cell dp 0;have yl:=dp.lt;simp at y0;clear hn bb gp gq))
   go_wp2_with (first
     | (
       at_builtin;refine DC Xx (.tmp 57) (.tmp 59) rfl rfl (base:=W.heap.size) (n:=k) (m:=1) (N:=k+1) (xs:=Z.flatMap KR) (news:=[oH oO ((g.Br k).1:Nat),oG aq (g.right k).length ay]) rfl rfl (AU (AU ir (AG _ _)) (AG _ _)) (Be.Aj (c:=1) (cs:=[oH oO ((g.Br k).1:Nat),oG aq (g.right k).length ay]) (Ah.newAt oA) rfl oE) rfl oB nX (by have:=cn.size.2;simp;omega) ?_
       intro A9 c9 w9 r1 r2 r3;have bf:Ah w9 T 79 #[oG ab k ad,g.nt,g.nn,oG oN 0 0,oG oN 0 0]:=r2.Aj ((dp.alloc _).alloc _) (.inr nY);have f9:=bf.frozen 0;have b9:=bf.cell 0;have l9:=bf.lt;simp at b9;have bz:=(AG y (oP #[oH oO ((g.Br k).1:Nat),oG aq (g.right k).length ay] 113)).trans ((AG (y.alloc (oP #[oH oO ((g.Br k).1:Nat),oG aq (g.right k).length ay] 113)) (oP #[oH oO ((g.Br k).1:Nat),oG aq (g.right k).length ay] 113)).mono oA);have h3:w.heap.size<=y.heap.size:=AW cn.size.1 cn.size.2
       have hx:=ik.rt h3 bz.size (fun b hb _=>bz.block b hb);have ia:w9.ownsRow W 113 2 (oG A9 (Z.length+1) c9) (Z.length+1) (Z.flatMap KR++[oH oO ((g.Br k).1:Nat),oG aq (g.right k).length ay]):=by rw[an.out];exact r1
       have h9:=(cn.later bz).more hx ia r2 bf (by have:=a4.out;omega) (oG A9 (Z.length+1) c9);rw[an.out]at h9;have H9:=Hd h9;have iu:Hid (Ah (w9.setCell (T,0) (oG A9 (k+1) c9)) T 79 #[oG A9 (k+1) c9,g.nt,g.nn,oG oN 0 0,oG oN 0 0]):=Hd (by simpa using bf.Ba 0 (oG A9 (k+1) c9));have ie:Hid (Am (·=T) W (w9.setCell (T,0) (oG A9 (k+1) c9))):=Hd (((((ar.next (Am.AJ aj)).next (Am.AJ bz)).trans (Y:=fun b=>W.heap.size<=b) ⟨r2.os,r2.tape,r2.output,r2.size,fun i hi hx=>r2.block i hi (.inl nX)⟩ (fun b hb hx=>by omega))).set (p:=⟨T,0,oN⟩) (.inr rfl) _)
       clear bf bz h3 hx h9 r1 ia r2 r3))
   go_roundw
   case rel=>exact⟨k+1,_,_,nX,oD,H9,iu,ie⟩
   case measure=>simp[intOf];omega
  ·obtain rfl:k=g.R.length+1:=by omega
   have e7:=ar.Aj dn (by have:=a4.out;omega);have ip:=Hd (Hb.done aw j3 ax e7 (by have:=a4.out;omega) nX);have a7:Hid (Below J J wr):=Hd (by have p:=bj.out;have P:=a4.out;have U:=dg.out;rw[U];exact p.trans (ar.below (by have:=p.size;omega) (fun j hj e=>by omega)))
   have cf:=Hd (ar.Aj f2 (by have:=a4.out;omega));have fc:=Hd e7;have fg:Hid (Gi wr wr T g E K 0 (oG ab (g.R.length+1) ad) (oG oN 0 0) (oG oN 0 0) [] [] []):=Hd ⟨Am.refl _ _,ax.lt,ax,rfl,rfl,⟨rfl,.inl ⟨rfl,rfl⟩⟩,(fun z hz=>by cases hz),⟨rfl,.inl ⟨rfl,rfl⟩⟩,(fun z hz=>by cases hz),trivial⟩;have m0:=Ah.cell cf 0;have m1:=Ah.cell cf 1;have m2:=Ah.cell cf 2;simp at m0 m1 m2;have bl:Hid (L.length=E.length/\L.length<=1000000):=Hd ⟨HS.e.symm,HS.l⟩;clear e7 aw ar ij x0 x1 x2 x3 t0 an e6 hk ev HT es dn f2 bj ff
   go_wp2_with fail
   generalize gs:L.length=nL at *;have f6:=Hd gs;clear gs;rename oU=>t
   refine wp_loop_ghost_k (fun n a y=>∃(i:Nat) (av gv:oV) (I:List (oV×List It)) (ZG:List (oV×List Int)),i<=nL/\n=nL-i/\a=SB w.heap.size (w.heap.size+1) mb T (oG AL nL cL) nL (oH oO i) (fun j=>a.tmps.getD j undef) a.defers/\Hid (Gi t y T g E K i (oG ab (g.R.length+1) ad) av gv I ZG a.defers)) nL ?start ?round
   case start=>exact⟨0,_,_,[],[],AX _,rfl,rfl,fg⟩
   case round=>
     intro n a y hI kf K2 hJ o;obtain⟨i,av,gv,I,ZG,hi,hn,ha,R⟩:=hI;obtain⟨f,hf⟩:∃f,(fun j=>a.tmps.getD j undef)=f:=⟨_,rfl⟩
     obtain⟨ds,az⟩:∃ds,a.defers=ds:=⟨_,rfl⟩
     rw[hf,az]at ha;rw[az]at R;clear hf az;subst ha;unfold SB;subst hn;clear fg m0 m1 m2;have HJ:=Hd hJ;clear hJ;by_cases e6:i<nL
     ·obtain⟨kc,kg,kd,kh,b,off,Ai,ni,ci,At,nq,ct,b2,d9,Ak,nk,ck,hv,fr,fs,e3,gy,b0⟩:=HM.at_ (i:=i) (by rw[f6.out];exact e6) HS.k (HS.es i)
      simp at hv;obtain⟨⟨e1,-,-⟩,⟨e2,-,-⟩⟩:=hv;rw[<-e1]at fr;rw[<-e2]at fs;subst fr;subst fs;clear e1 e2;have aj:Hid (Below J J y):=Hd (a7.trans (R.AA.below a7.size (fun j hj e=>by have:=a4.out;have:=dg.out;omega)));have em:=Hd e3;obtain⟨yb,l2,s0,s1,s2⟩:=e3 y aj;have f8:=Hd gy;have ew:=Hd b0;have ag:=R.AA.Aj cf (by have:=a4.out;omega);have m0:=Ah.cell ag 0;have m1:=Ah.cell ag 1;have m2:=Ah.cell ag 2;have ml:=ag.lt;have t1:=Ah.cell R.Cx 1;have t2:=Ah.cell R.Cx 2;have tl:=R.Cx.lt;simp at m0 m1 m2 t1 t2
      have ch:=Hd ag;have kx:(i:Int)<(nL:Int):=by omega
      have ky:nL<=1000000:=bl.2;have b1:=fun(y:oU)=>ZZ (n:=g.nt+1) nX y
      have ec:((g.nt+1:Nat):Int)=(g.nt:Int)+1:=by omega
      simp only[ec]at b1;clear e3 gy b0 ag ec;go_wp2_with fail
      have e1:(y.alloc (oP #[oG Ai ni ci,oG At nq ct] 119)).heap.size=y.heap.size+1:=by simp
      have e2:((y.alloc (oP #[oG Ai ni ci,oG At nq ct] 119)).alloc (oP (Array.replicate ((g.nt+1)*2) (oH oO 0)) 95)).heap.size=y.heap.size+1+1:=by simp
      have fa:Hid (Nu t y (((y.alloc (oP #[oG Ai ni ci,oG At nq ct] 119)).alloc (oP (Array.replicate ((g.nt+1)*2) (oH oO 0)) 95)).alloc (oP #[oG (y.heap.size+1,0) (g.nt+1) (g.nt+1)] 120)) y.heap.size (y.heap.size+1+1) (y.heap.size+1) (g.nt+1) (oG Ai ni ci) (oG At nq ct) (AZ g E K i) 0 ds):=Hd ⟨((AG y _).alloc nX _).alloc nX _,((Ah.new y _ _).alloc _).alloc _,Ah.newAt e2,by rw[Zt];exact(Ah.newAt e1).alloc _,R.marks.later (((AG y _).alloc nX _).alloc nX _)⟩;clear e1 e2 s0 s1 s2 m0 m1 m2 t1 t2 b1
      generalize h1:y.heap.size=l at *;have bn:=Hd h1;clear h1;have ke:Hid (g.nt+1<=121):=Hd nX;refine wp_loop_ghost_k (fun n a z=>∃k:Nat,k<=g.nt+1/\n=g.nt+1-k/\a=Qv w.heap.size (w.heap.size+1) mb T l (l+1+1) (oH oO i) (oG (oM ⟨b,off,oN⟩) nL cL) nL (oH oO ((g.nt:Int)+1)) (oH oO k) (fun j=>a.tmps.getD j undef) a.defers/\Hid (Nu t y z l (l+1+1) (l+1) (g.nt+1) (oG Ai ni ci) (oG At nq ct) (AZ g E K i) k a.defers)) (g.nt+1) ?start5 ?round5
      case start5=>exact⟨0,AX _,rfl,rfl,fa⟩
      case round5=>
        intro n a z hI J5 K5 ft ko;obtain⟨k,hk,hn,ha,cm⟩:=hI;obtain⟨f5,hf⟩:∃f,(fun j=>a.tmps.getD j undef)=f:=⟨_,rfl⟩
        obtain⟨cu,az⟩:∃ds,a.defers=ds:=⟨_,rfl⟩
        rw[hf,az]at ha;rw[az]at cm;clear hf az;subst ha;unfold Qv;subst hn;clear fa;have et:=Hd ft;clear ft;obtain⟨ah,eg,c7,d8,d7⟩:=cm.out;by_cases b0:k<g.nt+1
        · have bi:Below J J z:=aj.trans (ah.mono aj.size)
          have d6:=AG z (oP #[oH oO k] 3);have d2:=Ah.new z 3 #[oH oO k];have kb:(z.alloc (oP #[oH oO k] 3)).heap.size=z.heap.size+1:=by simp
          have d5:Below J J (z.alloc (oP #[oH oO k] 3)):=bi.trans (d6.mono bi.size);have dr:Hid (Below y y (z.alloc (oP #[oH oO k] 3))):=Hd (ah.trans (d6.mono ah.size));have bq:Hid (Ah (z.alloc (oP #[oH oO k] 3)) l 119 #[oG Ai ni ci,oG At nq ct]):=Hd (eg.alloc _);have dt:Hid (Ah (z.alloc (oP #[oH oO k] 3)) (l+1+1) 120 #[oG (l+1,0) (g.nt+1) (g.nt+1)]):=Hd (c7.alloc _);have cr:Hid (Ah (z.alloc (oP #[oH oO k] 3)) (l+1) 95 ((DV (AZ g E K i) (g.nt+1) k).flatMap De).toArray):=Hd (d8.alloc _)
          have fi:Hid (CX t.heap.size (z.alloc (oP #[oH oO k] 3)) cu):=Hd (d7.later d6);have b8:=Hd d5;have cq:=Hd d2;have an:Hid (l+1+1<z.heap.size/\J.heap.size<=l/\t.heap.size<=l):=Hd ⟨c7.lt,by have:=aj.size;have:=bn.out;omega,by have:=R.AA.size;have:=bn.out;omega⟩;have cc:Hid (∀y',Below (z.alloc (oP #[oH oO k] 3)).heap.size (z.alloc (oP #[oH oO k] 3)) y'->y'.cell? (mb,0)=oM (oH oO g.R.length)/\y'.cell? (mb,2)=oM (oG (b2,d9) nL co)/\y'.cell? (l,0)=oM (oG Ai ni ci)/\y'.cell? (l,1)=oM (oG At nq ct)/\y'.cell? (b2,d9+i)=oM (oG Ak nk ck)/\y'.cell? (z,0)=oM (oH oO k)):=Hd (fun y' bh=>by
            have p:=(ch.below ah ch.lt).alloc (oP #[oH oO k] 3);have P:=p.below bh p.lt;have U:=bq.below bh bq.lt;have h4:=d2.below bh d2.lt;exact⟨P.cell 0,P.cell 2,U.cell 0,U.cell 1,(em y' (d5.trans (bh.mono d5.size))).2.2.2.2,h4.cell 0⟩)
          clear bi d6 d2 kb d5 ah eg c7 d8 d7 cm;have kr:(k:Int)<(g.nt:Int)+1:=by omega
          go_upto_region 20 with fail
          generalize z.alloc (oP #[oH oO k] 3)=z1 at *;obtain⟨c0,c1,c2,c3,c4,c5⟩:=cc z1 (Below.refl _ _);have dd:Hid (Below z1 z1 z1.drew):=Hd ((Below.refl z1.heap.size z1).drew);have HP:=Hd (fun y:oU=>SP (w:=y) (own:=g.R.length) (t:=k) (Ai:=Ai) (At:=At) (Ak:=Ak) (ni:=ni) (ci:=ci) (nt:=nq) (ct:=ct) (nk:=nk) (ck:=ck))
          go_region_held3 (fun v=>oT v (mb,0)=oM (oH oO g.R.length)/\oT v (mb,2)=oM (oG (b2,d9) nL co)/\oT v (l,0)=oM (oG Ai ni ci)/\oT v (l,1)=oM (oG At nq ct)/\oT v (b2,d9+i)=oM (oG Ak nk ck)/\oT v (z,0)=oM (oH oO k))
            (first|exact cc _ dd|exact cc _ ai)
            (first|(
                 go_at_call 60;refine(HP _).mono ?_;rintro e z2 ⟨i5,i6,i7,i9,rfl,p,P,U,h4,k1,k2,k3,k4,fy⟩
                 have ai:Hid (Below z1 z1 z2):=Hd (dd.trans fy);have f7:=Hd (And.intro (And.intro p (And.intro P (And.intro U h4))) (And.intro k1 (And.intro k2 (And.intro k3 k4))));clear p P U h4 k1 k2 k3 k4 fy))
          clear c0 c1 c2 c3 c4 c5 HP;go_wp2;obtain⟨⟨p,P,U,h4⟩,k1,k2,k3,k4⟩:=f7.out;have p:z1.heap.size<=i5:=p;have P:z1.heap.size<=i6:=P;have U:z1.heap.size<=i7:=U;have h4:z1.heap.size<=i9:=h4;have ao:Below J J z2:=b8.trans (ai.mono b8.size);have hA:∀b,(b<J.heap.size\/(z1.heap.size<=b/\b<z2.heap.size))->b<z2.heap.size:=fun b hb=>hb.elim (fun h=>A0 h ao.size) (·.2)
          have e8:BV (fun b=>b<J.heap.size) J z2:=fun b hb=>ao.block b hb
          have d3:=Qt (A:=fun b=>b<J.heap.size\/(z1.heap.size<=b/\b<z2.heap.size)) (w:=z2) (m:=g.nt+1) b0 nX hA (.inr ⟨p,k1.lt⟩) (.inr ⟨P,k2.lt⟩) (.inr ⟨U,k3.lt⟩) (.inr ⟨h4,k4.lt⟩) k1 k2 k3 k4
            (f8.BZ (fun _=>.inl) ao.size e8) (ew.BZ (fun _=>.inl) ao.size e8)
          rw[<-Se]at d3;obtain⟨xs,ed⟩:∃xs,g.Ia (E.getD i []) (K.getD i []) k=xs:=⟨_,rfl⟩
          rw[ed]at d3;have bp:Hid (AZ g E K i k=xs.headD (0,0)):=Hd (by unfold AZ;rw[ed]);have gu:¬(l+1<J.heap.size\/(z1.heap.size<=l+1/\l+1<z2.heap.size)):=by have q1:=an.out;have C:=cr.lt;omega
          have cp:=Hd d3;have cb:=Hd hA;have cj:=Hd gu;have b7:=Hd (cr.below ai cr.lt);have a8:=Hd (dt.below ai dt.lt);have cd:=Hd (cq.below ai cq.lt);have bo:=Hd (bq.below ai bq.lt);have b4:Hid (Below y y z2):=Hd (dr.trans (ai.mono dr.size));have b5:Hid (CX t.heap.size z2 cu):=Hd (fi.later ai);have bm:Hid (z.heap.size<z2.heap.size/\l+1+1<z2.heap.size/\z.heap.size<z1.heap.size):=Hd ⟨cd.lt,a8.lt,cq.lt⟩;clear d3 hA ao e8 p P U h4 k1 k2 k3 k4 f7 cc ed gu dd cr dt cq bq dr fi
          refine(wpIn_wide (n:=0)).1 ?_;refine VE (gf:=93) (lb:=#[oI (oM ⟨i5,0,oN⟩),oI (oM ⟨i6,0,oN⟩),oI (oM ⟨i7,0,oN⟩),oI (oM ⟨i9,0,oN⟩)]) rfl (fun _ _=>by kernel_rfl) cp cb (fun _=>rfl)
            (fun pre A' W'=>pre=[]/\¬A' (l+1)/\Below z2 z2 W') (fun c A' W'=>c=.exit 7/\Am (·=l+1) z2 W'/\Ah W' (l+1) 95 ((DV (AZ g E K i) (g.nt+1) (k+1)).flatMap De).toArray) ?hI ?hIx ?h0 ?hround ?hdone ?hstop
          case hI=>rintro s A1 A2 iw U' ⟨p,P,U⟩ hc fq;refine⟨p,fun h=>(fq _ h).elim P (by have:=bm.out;have:=U.size;omega),U.trans (hc.below U.size (fun j hj h=>by omega))⟩
          case hIx=>rintro c s A1 A2 iw U' ⟨p,P,U⟩ hc fq;refine⟨p,P.trans hc (fun j hj h=>by omega),hc.Aj U (fun h=>by have:=bm.out;omega)⟩
          case h0=>exact⟨rfl,cj,Below.refl _ _⟩
          case hround=>
            rintro l1 pre x A5 W5 gx ks kt kn bx be ⟨rfl,aa,a6⟩;have HX:Hid (AZ g E K i k=x):=Hd (by obtain⟨rest,hr⟩:=gx;rw[bp.out,<-hr];rfl)
            obtain⟨xk,xn⟩:=x;obtain⟨W6,dv⟩:∃W6,W5.alloc (oP #[xk,xn] 95)=W6:=⟨_,rfl⟩
            have fz:Below W5 W5 W6:=by rw[<-dv];exact AG _ _
            have hw:Ah W6 W5.heap.size 95 #[xk,xn]:=by rw[<-dv];exact Ah.new _ _ _
            have kz:W6.heap.size=W5.heap.size+1:=by rw[<-dv];simp
            have ej:=Hd fz;have iv:=Hd hw;have ey:=Hd be;have eu:=Hd (And.intro aa a6);simp only[J6];clear fz hw be bx gx aa a6 bp cp cb cj;simp
            gi_wp2
            refine⟨nX,fun b hb=>ej.block b (ey b hb),fun W7 dz l0 r hr=>?_⟩;have bu:Am (·=l1) z2 W7:=(((Am.AJ eu.2).next (Am.AJ ej))).next dz;have d4:Ah W7 W5.heap.size 95 #[xk,xn]:=dz.Aj iv nX;have bv:=bm.out;have b3:=bu.Aj b7 nX;have ee:=bu.Aj a8 nX;have e5:=bu.Aj cd nX;have jj:((DV (AZ g E K i) (g.nt+1) k).flatMap De).length=(g.nt+1)*2:=by rw[KU De 2 (fun _=>rfl),Lg]
            have x0:=d4.cell 0;have x1:=d4.cell 1;have xl:=d4.lt;have y0:=ee.cell 0;have yl:=ee.lt;have w0:=e5.cell 0;have wl:=e5.lt;have f0:=b3.frozen (k*2);have f1:=b3.frozen (k*2+1);have rl:=b3.lt;obtain⟨u0,r0⟩:∃u,oT W7 (l+1,k*2)=oM u:=⟨_,(b3.cell (k*2)).trans (by rw[List.getElem?_toArray];exact eG nX)⟩
            obtain⟨u1,r1⟩:∃u,oT W7 (l+1,k*2+1)=oM u:=⟨_,(b3.cell (k*2+1)).trans (by rw[List.getElem?_toArray];exact eG nX)⟩
            simp at x0 x1 y0 w0;have ic:=Hd bu;have im:=Hd b3;clear bu d4 b3 ee e5 jj dz bv
            gi_wp2
            have e0:Am (·=l+1) W7 ((W7.setCell (l+1,k*2) xk).setCell (l+1,k*2+1) xn):=((Am.refl (·=l+1) W7).set (p:=⟨l+1,k*2,oN⟩) (.inr rfl) xk).set (p:=⟨l+1,k*2+1,oN⟩) (.inr rfl) xn;have jx:=(im.Ba (k*2) xk).Ba (k*2+1) xn;refine⟨e0.size,fun b hb=>e0.block b (by have:=ey b hb;omega) (fun e=>eu.1 (e▸hb)),rfl,((Am.refl (·=l+1) z2).trans ic (fun j hj e=>by omega)).next e0,?_⟩;rw[fY _ b0,HX.out,<-US _ _ _ (by rw[Lg];exact b0)];simpa using jx
          case hdone=>
            rintro D A5 W5 hD j1 bx be ⟨hx,aa,a6⟩ br;have hz:AZ g E K i k=(0,0):=by rw[bp.out,hx];rfl
            have bv:=bm.out;have dm:Hid (Nu t y W5 l (l+1+1) (l+1) (g.nt+1) (oG Ai ni ci) (oG At nq ct) (AZ g E K i) (k+1) ({target:=.collected D,args:=#[]}::cu)):=Hd ⟨b4.trans (a6.mono b4.size),bo.below a6 bo.lt,a8.below a6 a8.lt,by rw[iP _ b0 hz];exact b7.below a6 b7.lt,(b5.later a6).more (by have p:=an.out;omega) br (fun D' du=>by have:=b5.lt D' du;omega)⟩;clear bx be hx aa a6 br hz bv bp cp cb cj b7 a8 cd bo b4 b5;go_wp2;have ek:((k+1:Nat):Int)=(k:Int)+1:=by omega
            exact Handed.intro (g.nt+1-(k+1)) nX (et _ _ _ ⟨k+1,nX,rfl,by rw[ek];rfl,dm⟩)
          case hstop=>
            rintro D c A5 W5 hD j1 bx be ⟨rfl,aa,a6⟩ br;have bv:=bm.out;have gj:=an.out;have dm:Hid (Nu t y W5 l (l+1+1) (l+1) (g.nt+1) (oG Ai ni ci) (oG At nq ct) (AZ g E K i) (k+1) ({target:=.collected D,args:=#[]}::cu)):=Hd ⟨b4.trans (aa.below b4.size (fun j hj e=>by have:=bn.out;omega)),aa.Aj bo nX,aa.Aj a8 nX,a6,(b5.AA aa (fun D' p P e=>by have U:=b7.out;have e:D'=l+1:=e;unfold Ah at U;rw[<-e,P]at U;cases U)).more nX br (fun D' du=>by have:=b5.lt D' du;omega)⟩
            clear bx be aa a6 br bv bp cp cb cj b7 a8 cd bo b4 b5;refine wpIn_wide.2 ?_;go_wp2;have ek:((k+1:Nat):Int)=(k:Int)+1:=by omega
            exact Handed.intro (g.nt+1-(k+1)) nX (et _ _ _ ⟨k+1,nX,rfl,by rw[ek];rfl,dm⟩)
        · obtain rfl:k=g.nt+1:=by omega
          have gz:z.ownsRow t 95 2 (oG (l+1,0) (g.nt+1) (g.nt+1)) (g.nt+1) ((Es g E K i).flatMap De):=by have p:=Py (sz:=2) (n:=g.nt+1) (B:=t.heap.size) d8 (by have:=R.AA.size;have:=bn.out;omega) (by rw[KU De 2 (fun _=>rfl),Lg]) nX;rw[Zq]at p;exact p
          have fe:=Hd gz;have al:=Hd ((R.later ah).marked d7);have c6:Below J J z:=aj.trans (ah.mono aj.size);have b8:=Hd c6;have a8:=Hd c7;have dh:=Hd (ch.below ah ch.lt);have t2:=Ah.cell al.Cx 2;have tl:=al.Cx.lt;simp at t2;have b1:=fun y=>Js (P:=Tryz.prog) (t:=22) (e:=3) (z:=oH oO 0) (bytes:=8) underlying22 nZ rfl (l:=((g.nn:Nat):Int)) (n:=g.nn) rfl nX nX y
          clear gz ah eg c7 d8 d7 cm c6;go_wp2_with fail
          have ig:Hid (Below z z (z.alloc (oP (Array.replicate g.nn (oH oO 0)) 3))/\Ah (z.alloc (oP (Array.replicate g.nn (oH oO 0)) 3)) z.heap.size 3 ((Fa (fun c8=>DE (E.getD i []) (g.nt+1+c8)) g.nn 0).map B4).toArray):=Hd ⟨AG z _,by rw[ZH];exact Ah.new z _ _⟩;have er:Hid (∀y',Below J J y'->∀k:Nat,() 61 #[oG (oM ⟨b,off,oN⟩) nL cL,oH oO i,oH oO ((g.nt:Int)+1+(k:Int))] y' fun e w'=>e=oQ (oH oO (DE (E.getD i []) (g.nt+1+k)))/\Below y' y' w'):=Hd (fun y' bh k=>by obtain⟨lv,lo,V,hv,hA,-⟩:=HM.out;simp at hv;rw[<-hv.1]at hA;have p:=Qd (hA.later bh) (i:=i) (s:=g.nt+1+k) (by have:=hA.len.1;have:=f6.out;omega);rwa [show ((g.nt+1+k:Nat):Int)=(g.nt:Int)+1+(k:Int) by omega]at p)
          clear t2 b1;go_loopw [101] (fun kk wr=>∃k:Nat,k<=g.nn/\kk=oH oO k/\Hid (Below z z wr/\Ah wr z.heap.size 3 ((Fa (fun c8=>DE (E.getD i []) (g.nt+1+c8)) g.nn k).map B4).toArray)) (fun kk _=>g.nn-(intOf kk).toNat)
          case atStart=>exact⟨0,AX _,rfl,ig⟩
          case round=>
            obtain⟨k,kp,rfl,b6⟩:=hrel;rename oU=>z9
            by_cases jk:k<g.nn
            ·have a2:=b6.1
             have ag:=dh.below a2 dh.lt;have h2:=al.Cx.below a2 al.Cx.lt;have m1:=ag.cell 1;have t1:=h2.cell 1;simp at m1 t1;have ih:=Hd (er z9 (b8.trans (a2.mono b8.size)) k);have el:=Hd a2;have kq:(k:Int)<(g.nn:Int):=by omega
             have kw:((Fa (fun c8=>DE (E.getD i []) (g.nt+1+c8)) g.nn k).map B4).length=g.nn:=by simp[Fa]
             clear a2 ag h2;go_wp2_with (
                  go_at_call 61;refine ih.mono ?_;rintro e eh ⟨rfl,hb10⟩
                  have bw:=b6.2.below hb10 b6.2.lt;obtain⟨u0,r0⟩:∃u,oT eh ⟨z.heap.size,k,oN⟩=oM u:=⟨_,(bw.cell k).trans (by rw[List.getElem?_toArray];exact eG nX)⟩
                  have f0:=bw.frozen k;have rl:=bw.lt;have il:=Hd bw;have ib:=Hd hb10;clear bw hb10)
             go_roundw
             case rel=>exact⟨k+1,nX,oD,Hd ⟨by
              have p:Below z z eh:=el.trans (ib.mono el.size);exact p.trans (((Am.refl (fun b=>z.heap.size<=b) eh).set (p:=⟨z.heap.size,k,oN⟩) (.inr (Ay _)) _).below p.size (fun j hj h=>by omega)),by
              rw[aI _ jk,List.map_set];simpa [B4] using il.Ba k (oH oO (DE (E.getD i []) (g.nt+1+k)))⟩⟩
             case measure=>simp[intOf];omega
            ·obtain rfl:k=g.nn:=by omega
             have a2:=b6.1;have e9:=CG al.Kg;have ea:=CG al.goto;obtain⟨Aa,ca,rfl⟩:=e9;obtain⟨Ag,cg,rfl⟩:=ea;have a0:=Hd (al.later a2);have fh:=Hd (a8.below a2 a8.lt);have c6:t.heap.size<=z.heap.size:=al.AA.size;have di:Hid (z9.ownsRow t 95 2 (oG (l+1,0) (g.nt+1) (g.nt+1)) (Es g E K i).length ((Es g E K i).flatMap De)):=Hd (by have p:=AU fe a2;rwa [show (Es g E K i).length=g.nt+1 by simp[Es]])
             have dk:Hid (z9.ownsRow t 3 1 (oG (z,0) g.nn g.nn) (E4 g E i).length ((E4 g E i).map B4)):=Hd (by have p:=Py (sz:=1) (n:=g.nn) (B:=t.heap.size) b6.2 c6 (by simp[Fa]) nX;rw[bX]at p;rw[show (E4 g E i).length=g.nn by simp[E4]];exact p)
             have dq:Hid (oM (l+1+1)≠(Value.slice Aa I.length ca).ownBlock):=Hd (fun e=>by have p:=(B6 R.Kg _ e.symm).1;have P:=bn.out;omega)
             have ku:I.length<=1000000:=by have p:=congrArg List.length R.za;simp at p;have:=bl.2;omega
             have kv:ZG.length<=1000000:=by have p:=congrArg List.length R.zg;simp at p;have:=bl.2;omega
             have a5:Hid (∀v:oU,Ah v T 79 #[oG ab (g.R.length+1) ad,g.nt,g.nn,oG Aa I.length ca,oG Ag ZG.length cg]->Ah v (l+1+1) 120 #[oG (l+1,0) (g.nt+1) (g.nt+1)]->(oT v (T,3)=oM (oG Aa I.length ca)/\oT v (T,4)=oM (oG Ag ZG.length cg)/\oT v (l+1+1,0)=oM (oG (l+1,0) (g.nt+1) (g.nt+1)))):=Hd (fun v p P=>⟨p.cell 3,p.cell 4,P.cell 0⟩);obtain⟨t3,t4,y0⟩:=a5 z9 a0.Cx fh;clear a2 c6 b6 er dh b8 fe a8 f8 ew em;go_upto_region 30 with fail
             refine lJ (fun j=>j==11||j==13) (fun(v:oU)=>oT v (T,3)=oM (oG Aa I.length ca)/\oT v (T,4)=oM (oG Ag ZG.length cg)/\oT v (l+1+1,0)=oM (oG (l+1,0) (g.nt+1) (g.nt+1))) nZ ?_;have ba:(fun(v:oU)=>oT v (T,3)=oM (oG Aa I.length ca)/\oT v (T,4)=oM (oG Ag ZG.length cg)/\oT v (l+1+1,0)=oM (oG (l+1,0) (g.nt+1) (g.nt+1))) z9.drew:=⟨t3,t4,y0⟩
             refine Mf 0 (v:=?va0) rfl nZ nZ nZ nZ (fun _ _ _ h=>h) (Or.inl ⟨oF,?ha0⟩) ba rfl ?ra0
             case ha0=>
              intro w a1;try dsimp only at a1
              go_simp;try with_reducible rfl
             simp only[List.set_cons_succ,List.set_cons_zero];refine Mf 1 (v:=?va1) rfl nZ nZ nZ nZ (fun _ _ _ h=>h) (Or.inl ⟨oF,?ha1⟩) ba rfl ?ra1
             case ha1=>
              intro w a1;try dsimp only at a1
              go_simp;try with_reducible rfl
             simp only[List.set_cons_succ,List.set_cons_zero];refine Mf 2 (v:=?va2) rfl nZ nZ nZ nZ (fun _ _ _ h=>h) (Or.inl ⟨oF,?ha2⟩) ba rfl ?ra2
             case ha2=>
              intro w a1;try dsimp only at a1
              go_simp;try with_reducible rfl
             simp only[List.set_cons_succ,List.set_cons_zero];refine Mf 5 (v:=?va5) rfl nZ nZ nZ nZ (fun _ _ _ h=>h) (Or.inl ⟨oF,?ha5⟩) ba rfl ?ra5
             case ha5=>
              intro w a1;try dsimp only at a1
              go_simp;try with_reducible rfl
             simp only[List.set_cons_succ,List.set_cons_zero];refine Mf 6 (v:=?va6) rfl nZ nZ nZ nZ (fun _ _ _ h=>h) (Or.inl ⟨oF,?ha6⟩) ba rfl ?ra6
             case ha6=>
              intro w a1;try dsimp only at a1
              go_simp;try with_reducible rfl
             simp only[List.set_cons_succ,List.set_cons_zero];refine MJ 7 (v:=?va7) rfl nZ nZ nZ (fun _ _ _ h=>h) (Or.inl ⟨oF,?ha7⟩) rfl ?ra7
             case ha7=>
              intro w a1;try dsimp only at a1
              go_simp;try with_reducible rfl
             simp only[List.set_cons_succ,List.set_cons_zero];clear ba;have g9:AI t [120,22] z9 z9.drew:=(AI.refl _ _ z9).drew;have ha0:z9.drew.ownsRow t 120 1 (oG Aa I.length ca) I.length (I.map (·.1)):=a0.Kg;have g4:z9.drew.ownsRow t 22 1 (oG Ag ZG.length cg) ZG.length (ZG.map (·.1)):=a0.goto;have h7:Ah z9.drew (l+1+1) 120 #[oG (l+1,0) (g.nt+1) (g.nt+1)]:=fh.out;have bi:t.heap.size<=z9.drew.heap.size:=a0.AA.size;generalize z9.drew=d0 at *;refine Ug 3 8 nZ ?_ ?_
             ·
              refine NK (Z:=fun j=>j==11||j==13) (S:=(fun(v:oU)=>oT v ⟨T,3,oN⟩=oM (oG Aa I.length ca)/\oT v ⟨T,4,oN⟩=oM (oG Ag ZG.length cg)/\oT v ⟨l+1+1,0,oN⟩=oM (oG (oM ⟨l+1,0,oN⟩) (g.nt+1) (g.nt+1)))) 3 oF oF oF (fun K o=>?_);go_simp;have e4:=g9.alloc (oP #[oG (l+1,0) (g.nt+1) (g.nt+1)] 120);have eb:=h7.alloc (oP #[oG (l+1,0) (g.nt+1) (g.nt+1)] 120);have fu:=AU ha0 (AG d0 (oP #[oG (l+1,0) (g.nt+1) (g.nt+1)] 120));have g5:=AU g4 (AG d0 (oP #[oG (l+1,0) (g.nt+1) (g.nt+1)] 120))
              have gr:Ah (d0.alloc (oP #[oG (l+1,0) (g.nt+1) (g.nt+1)] 120)) d0.heap.size 120 #[oG (l+1,0) (g.nt+1) (g.nt+1)]:=Ah.new d0 _ _;have ef:t.heap.size<=(d0.alloc (oP #[oG (l+1,0) (g.nt+1) (g.nt+1)] 120)).heap.size:=AW bi oA;refine o (oG (d0,0) 1 1) _ (fun _ _=>a5 _ (e4.Aj a0.Cx (.inr nY)) eb) ?_;clear o K;simp only[List.set_cons_succ,List.set_cons_zero];generalize d0.alloc (oP #[oG (l+1,0) (g.nt+1) (g.nt+1)] 120)=ae at *;generalize d0.heap.size=fj at *
              refine Ug 4 8 nZ ?_ ?_
              ·
               refine NK (Z:=fun j=>j==11||j==13) (S:=(fun(v:oU)=>oT v ⟨T,3,oN⟩=oM (oG Aa I.length ca)/\oT v ⟨T,4,oN⟩=oM (oG Ag ZG.length cg)/\oT v ⟨l+1+1,0,oN⟩=oM (oG (oM ⟨l+1,0,oN⟩) (g.nt+1) (g.nt+1)))) 4 oF oF oF (fun K o=>?_);refine Eu Oj (.tmp 118) (.tmp 120) rfl (base:=t.heap.size) (n:=I.length) (m:=1) (N:=I.length+1) (v:=oG Aa I.length ca) (src:=oG (oM ⟨fj,0,oN⟩) 1 1) (xs:=I.map (·.1)) (news:=[oG (oM ⟨l+1,0,oN⟩) (g.nt+1) (g.nt+1)]) rfl rfl fu (Be.Aj (c:=1) (cs:=[oG (oM ⟨l+1,0,oN⟩) (g.nt+1) (g.nt+1)]) gr rfl oE) rfl oB nX ef ?_
               intro A4 c4 a9 q1 C q3;have ga:=e4.trans (C.mono (Ay _) oA);have h8:Ah a9 (l+1+1) 120 #[oG (l+1,0) (g.nt+1) (g.nt+1)]:=eb.grown q3.1 dq;have jb:=C.own g5 (.inr nY);have j4:=q1;have k6:t.heap.size<=a9.heap.size:=AW ef C.size;clear q1 C q3;refine o _ _ (fun _ _=>a5 _ (ga.Aj a0.Cx (.inr nY)) h8) ?_;clear o K;simp only[List.set_cons_succ,List.set_cons_zero];refine MJ 10 (v:=?vb10) rfl nZ nZ nZ (fun _ _ _ h=>h) (Or.inl ⟨oF,?hb10⟩) rfl ?rb10
               case hb10=>
                intro w a1;try dsimp only at a1
                go_simp;try with_reducible rfl
               simp only[List.set_cons_succ,List.set_cons_zero];refine JY 8 nZ rfl rfl rfl (fun K o=>?_);go_simp;have gb:=ga.alloc (oP #[oG (z,0) g.nn g.nn] 22);have hd:=h8.alloc (oP #[oG (z,0) g.nn g.nn] 22);have j5:=AU j4 (AG a9 (oP #[oG (z,0) g.nn g.nn] 22));have jc:=AU jb (AG a9 (oP #[oG (z,0) g.nn g.nn] 22));have jo:Ah (a9.alloc (oP #[oG (z,0) g.nn g.nn] 22)) a9.heap.size 22 #[oG (z,0) g.nn g.nn]:=Ah.new a9 _ _
               have i0:t.heap.size<=(a9.alloc (oP #[oG (z,0) g.nn g.nn] 22)).heap.size:=AW k6 oA;refine o (oG (a9,0) 1 1) _ (fun _ _=>a5 _ (gb.Aj a0.Cx (.inr nY)) hd) ?_;clear o K;simp only[List.set_cons_succ,List.set_cons_zero];generalize a9.alloc (oP #[oG (z,0) g.nn g.nn] 22)=ki at *;generalize a9.heap.size=iy at *;refine JY 9 nZ rfl rfl rfl (fun K o=>?_);refine Eu MO (.tmp 123) (.tmp 125) rfl (base:=t.heap.size) (n:=ZG.length) (m:=1) (N:=ZG.length+1) (v:=oG Ag ZG.length cg) (src:=oG (oM ⟨iy,0,oN⟩) 1 1) (xs:=ZG.map (·.1)) (news:=[oG (oM ⟨z.heap.size,0,oN⟩) g.nn g.nn]) rfl rfl jc (Be.Aj (c:=1) (cs:=[oG (oM ⟨z.heap.size,0,oN⟩) g.nn g.nn]) jo rfl oE) rfl oB nX i0 ?_
               intro A9 c9 fk q1 C q3;have cy:=gb.trans (C.mono (Ay _) oA);have he:Ah fk (l+1+1) 120 #[oG (l+1,0) (g.nt+1) (g.nt+1)]:=C.Aj hd (.inr nY);have fv:=C.own j5 (.inr nY);have g6:=q1;have k7:t.heap.size<=fk.heap.size:=AW i0 C.size;clear q1 C q3;refine o _ _ (fun _ _=>a5 _ (cy.Aj a0.Cx (.inr nY)) he) ?_;clear o K;simp only[List.set_cons_succ,List.set_cons_zero];have ht:=cy.Aj a0.Cx (.inr nY);have t3:=ht.cell 3
               have t4:=ht.cell 4;have f3:=ht.frozen 3;have f4:=ht.frozen 4;have tl:=ht.lt;simp at t3 t4;have bk:=Hd (a0.more di dk cy fv g6);clear ht cy he fv g6 k7;refine Il 11 nZ rfl rfl (fun K o=>?_);go_simp;refine o _ _ (fun h=>absurd h nY) ?_;clear o K;refine Il 12 nZ rfl rfl (fun K o=>?_);go_simp;refine o _ _ (fun _ h=>h) ?_;clear o K;refine Il 13 nZ rfl rfl (fun K o=>?_);go_simp;refine o _ _ (fun h=>absurd h nY) ?_;clear o K;refine Ou nZ ?_ _
               go_wp2;have ek:((i+1:Nat):Int)=(i:Int)+1:=by omega
               exact Handed.intro (nL-(i+1)) nX (HJ _ _ _ ⟨i+1,_,_,_,_,nX,rfl,by rw[ek];rfl,bk⟩)
              ·
               refine NK (Z:=fun j=>j==11||j==13) (S:=(fun(v:oU)=>oT v ⟨T,3,oN⟩=oM (oG Aa I.length ca)/\oT v ⟨T,4,oN⟩=oM (oG Ag ZG.length cg)/\oT v ⟨l+1+1,0,oN⟩=oM (oG (oM ⟨l+1,0,oN⟩) (g.nt+1) (g.nt+1)))) 8 oF oF oF (fun K o=>?_);go_simp;have gd:=e4.alloc (oP #[oG (z,0) g.nn g.nn] 22);have hh:=eb.alloc (oP #[oG (z,0) g.nn g.nn] 22);have j6:=AU fu (AG ae (oP #[oG (z,0) g.nn g.nn] 22));have jd:=AU g5 (AG ae (oP #[oG (z,0) g.nn g.nn] 22))
               have jq:Ah (ae.alloc (oP #[oG (z,0) g.nn g.nn] 22)) ae.heap.size 22 #[oG (z,0) g.nn g.nn]:=Ah.new ae _ _;have jm:=gr.alloc (oP #[oG (z,0) g.nn g.nn] 22);have i1:t.heap.size<=(ae.alloc (oP #[oG (z,0) g.nn g.nn] 22)).heap.size:=AW ef oA;refine o (oG (ae,0) 1 1) _ (fun _ _=>a5 _ (gd.Aj a0.Cx (.inr nY)) hh) ?_;clear o K;simp only[List.set_cons_succ,List.set_cons_zero];generalize ae.alloc (oP #[oG (z,0) g.nn g.nn] 22)=kj at *
               generalize ae.heap.size=iz at *;refine JY 4 nZ rfl rfl rfl (fun K o=>?_);refine Eu Oj (.tmp 118) (.tmp 120) rfl (base:=t.heap.size) (n:=I.length) (m:=1) (N:=I.length+1) (v:=oG Aa I.length ca) (src:=oG (oM ⟨fj,0,oN⟩) 1 1) (xs:=I.map (·.1)) (news:=[oG (oM ⟨l+1,0,oN⟩) (g.nt+1) (g.nt+1)]) rfl rfl j6 (Be.Aj (c:=1) (cs:=[oG (oM ⟨l+1,0,oN⟩) (g.nt+1) (g.nt+1)]) jm rfl oE) rfl oB nX i1 ?_;intro A4 c4 fl q1 C q3;have gf:=gd.trans (C.mono (Ay _) oA)
               have hl:Ah fl (l+1+1) 120 #[oG (l+1,0) (g.nt+1) (g.nt+1)]:=hh.grown q3.1 dq;have je:=C.own jd (.inr nY);have j7:=q1;have jr:=C.Aj jq (.inr nY);have i2:t.heap.size<=fl.heap.size:=AW i1 C.size;clear q1 C q3;refine o _ _ (fun _ _=>a5 _ (gf.Aj a0.Cx (.inr nY)) hl) ?_;clear o K;simp only[List.set_cons_succ,List.set_cons_zero];refine MJ 10 (v:=?vc10) rfl nZ nZ nZ (fun _ _ _ h=>h) (Or.inl ⟨oF,?hc10⟩) rfl ?rc10
               case hc10=>
                intro w a1;try dsimp only at a1
                go_simp;try with_reducible rfl
               simp only[List.set_cons_succ,List.set_cons_zero];refine JY 9 nZ rfl rfl rfl (fun K o=>?_);refine Eu MO (.tmp 123) (.tmp 125) rfl (base:=t.heap.size) (n:=ZG.length) (m:=1) (N:=ZG.length+1) (v:=oG Ag ZG.length cg) (src:=oG (oM ⟨iz,0,oN⟩) 1 1) (xs:=ZG.map (·.1)) (news:=[oG (oM ⟨z.heap.size,0,oN⟩) g.nn g.nn]) rfl rfl je (Be.Aj (c:=1) (cs:=[oG (oM ⟨z.heap.size,0,oN⟩) g.nn g.nn]) jr rfl oE) rfl oB nX i2 ?_;intro A9 c9 fm q1 C q3;have cz:=gf.trans (C.mono (Ay _) oA)
               have hm:Ah fm (l+1+1) 120 #[oG (l+1,0) (g.nt+1) (g.nt+1)]:=C.Aj hl (.inr nY);have fw:=C.own j7 (.inr nY);have g7:=q1;have k8:t.heap.size<=fm.heap.size:=AW i2 C.size;clear q1 C q3;refine o _ _ (fun _ _=>a5 _ (cz.Aj a0.Cx (.inr nY)) hm) ?_;clear o K;simp only[List.set_cons_succ,List.set_cons_zero];have ht:=cz.Aj a0.Cx (.inr nY);have t3:=ht.cell 3;have t4:=ht.cell 4;have f3:=ht.frozen 3;have f4:=ht.frozen 4;have tl:=ht.lt;simp at t3 t4
               have bk:=Hd (a0.more di dk cz fw g7);clear ht cz hm fw g7 k8;refine Il 11 nZ rfl rfl (fun K o=>?_);go_simp;refine o _ _ (fun h=>absurd h nY) ?_;clear o K;refine Il 12 nZ rfl rfl (fun K o=>?_);go_simp;refine o _ _ (fun _ h=>h) ?_;clear o K;refine Il 13 nZ rfl rfl (fun K o=>?_);go_simp;refine o _ _ (fun h=>absurd h nY) ?_;clear o K;refine Ou nZ ?_ _;go_wp2;have ek:((i+1:Nat):Int)=(i:Int)+1:=by omega
               exact Handed.intro (nL-(i+1)) nX (HJ _ _ _ ⟨i+1,_,_,_,_,nX,rfl,by rw[ek];rfl,bk⟩)
             ·
              refine NK (Z:=fun j=>j==11||j==13) (S:=(fun(v:oU)=>oT v ⟨T,3,oN⟩=oM (oG Aa I.length ca)/\oT v ⟨T,4,oN⟩=oM (oG Ag ZG.length cg)/\oT v ⟨l+1+1,0,oN⟩=oM (oG (oM ⟨l+1,0,oN⟩) (g.nt+1) (g.nt+1)))) 8 oF oF oF (fun K o=>?_);go_simp;have gg:=g9.alloc (oP #[oG (z,0) g.nn g.nn] 22);have ho:=h7.alloc (oP #[oG (z,0) g.nn g.nn] 22);have j8:=AU ha0 (AG d0 (oP #[oG (z,0) g.nn g.nn] 22));have jf:=AU g4 (AG d0 (oP #[oG (z,0) g.nn g.nn] 22))
              have js:Ah (d0.alloc (oP #[oG (z,0) g.nn g.nn] 22)) d0.heap.size 22 #[oG (z,0) g.nn g.nn]:=Ah.new d0 _ _;have k9:t.heap.size<=(d0.alloc (oP #[oG (z,0) g.nn g.nn] 22)).heap.size:=AW bi oA;refine o (oG (d0,0) 1 1) _ (fun _ _=>a5 _ (gg.Aj a0.Cx (.inr nY)) ho) ?_;clear o K;simp only[List.set_cons_succ,List.set_cons_zero];generalize d0.alloc (oP #[oG (z,0) g.nn g.nn] 22)=af at *;generalize d0.heap.size=j0 at *
              refine JY 3 nZ rfl rfl rfl (fun K o=>?_);go_simp;have gh:=gg.alloc (oP #[oG (l+1,0) (g.nt+1) (g.nt+1)] 120);have hp:=ho.alloc (oP #[oG (l+1,0) (g.nt+1) (g.nt+1)] 120);have j9:=AU j8 (AG af (oP #[oG (l+1,0) (g.nt+1) (g.nt+1)] 120));have jg:=AU jf (AG af (oP #[oG (l+1,0) (g.nt+1) (g.nt+1)] 120));have jn:Ah (af.alloc (oP #[oG (l+1,0) (g.nt+1) (g.nt+1)] 120)) af.heap.size 120 #[oG (l+1,0) (g.nt+1) (g.nt+1)]:=Ah.new af _ _
              have jt:=js.alloc (oP #[oG (l+1,0) (g.nt+1) (g.nt+1)] 120);have i3:t.heap.size<=(af.alloc (oP #[oG (l+1,0) (g.nt+1) (g.nt+1)] 120)).heap.size:=AW k9 oA;refine o (oG (af,0) 1 1) _ (fun _ _=>a5 _ (gh.Aj a0.Cx (.inr nY)) hp) ?_;clear o K;simp only[List.set_cons_succ,List.set_cons_zero];generalize af.alloc (oP #[oG (l+1,0) (g.nt+1) (g.nt+1)] 120)=km at *;generalize af.heap.size=ix at *;refine JY 4 nZ rfl rfl rfl (fun K o=>?_)
              refine Eu Oj (.tmp 118) (.tmp 120) rfl (base:=t.heap.size) (n:=I.length) (m:=1) (N:=I.length+1) (v:=oG Aa I.length ca) (src:=oG (oM ⟨ix,0,oN⟩) 1 1) (xs:=I.map (·.1)) (news:=[oG (oM ⟨l+1,0,oN⟩) (g.nt+1) (g.nt+1)]) rfl rfl j9 (Be.Aj (c:=1) (cs:=[oG (oM ⟨l+1,0,oN⟩) (g.nt+1) (g.nt+1)]) jn rfl oE) rfl oB nX i3 ?_;intro A4 c4 fo q1 C q3;have gi:=gh.trans (C.mono (Ay _) oA);have hq:Ah fo (l+1+1) 120 #[oG (l+1,0) (g.nt+1) (g.nt+1)]:=hp.grown q3.1 dq
              have jh:=C.own jg (.inr nY);have ja:=q1;have ju:=C.Aj jt (.inr nY);have i4:t.heap.size<=fo.heap.size:=AW i3 C.size;clear q1 C q3;refine o _ _ (fun _ _=>a5 _ (gi.Aj a0.Cx (.inr nY)) hq) ?_;clear o K;simp only[List.set_cons_succ,List.set_cons_zero];refine MJ 10 (v:=?vd10) rfl nZ nZ nZ (fun _ _ _ h=>h) (Or.inl ⟨oF,?hd10⟩) rfl ?rd10
              case hd10=>
               intro w a1;try dsimp only at a1
               go_simp;try with_reducible rfl
              simp only[List.set_cons_succ,List.set_cons_zero];refine JY 9 nZ rfl rfl rfl (fun K o=>?_);refine Eu MO (.tmp 123) (.tmp 125) rfl (base:=t.heap.size) (n:=ZG.length) (m:=1) (N:=ZG.length+1) (v:=oG Ag ZG.length cg) (src:=oG (oM ⟨j0,0,oN⟩) 1 1) (xs:=ZG.map (·.1)) (news:=[oG (oM ⟨z.heap.size,0,oN⟩) g.nn g.nn]) rfl rfl jh (Be.Aj (c:=1) (cs:=[oG (oM ⟨z.heap.size,0,oN⟩) g.nn g.nn]) ju rfl oE) rfl oB nX i4 ?_;intro A9 c9 fp q1 C q3;have d1:=gi.trans (C.mono (Ay _) oA)
              have hu:Ah fp (l+1+1) 120 #[oG (l+1,0) (g.nt+1) (g.nt+1)]:=C.Aj hq (.inr nY);have fx:=C.own ja (.inr nY);have g8:=q1;have ka:t.heap.size<=fp.heap.size:=AW i4 C.size;clear q1 C q3;refine o _ _ (fun _ _=>a5 _ (d1.Aj a0.Cx (.inr nY)) hu) ?_;clear o K;simp only[List.set_cons_succ,List.set_cons_zero];have ht:=d1.Aj a0.Cx (.inr nY);have t3:=ht.cell 3;have t4:=ht.cell 4;have f3:=ht.frozen 3;have f4:=ht.frozen 4;have tl:=ht.lt;simp at t3 t4
              have bk:=Hd (a0.more di dk d1 fx g8);clear ht d1 hu fx g8 ka;refine Il 11 nZ rfl rfl (fun K o=>?_);go_simp;refine o _ _ (fun h=>absurd h nY) ?_;clear o K;refine Il 12 nZ rfl rfl (fun K o=>?_);go_simp;refine o _ _ (fun _ h=>h) ?_;clear o K;refine Il 13 nZ rfl rfl (fun K o=>?_);go_simp;refine o _ _ (fun h=>absurd h nY) ?_;clear o K;refine Ou nZ ?_ _;go_wp2;have ek:((i+1:Nat):Int)=(i:Int)+1:=by omega
              exact Handed.intro (nL-(i+1)) nX (HJ _ _ _ ⟨i+1,_,_,_,_,nX,rfl,by rw[ek];rfl,bk⟩)
     ·obtain rfl:i=nL:=by omega
      have e9:=CG R.Kg;have ea:=CG R.goto;obtain⟨Aa,ca,rfl⟩:=e9;obtain⟨Ag,cg,rfl⟩:=ea;have t0:=Ah.cell R.Cx 0;have t1:=Ah.cell R.Cx 1;have t2:=Ah.cell R.Cx 2;have t3:=Ah.cell R.Cx 3;have t4:=Ah.cell R.Cx 4;have a3:=R.AA.Aj fc (by have:=a4.out;omega);have r0:=Ah.cell a3 0;have r1:=Ah.cell a3 1;have r2:=Ah.cell a3 2;have r3:=Ah.cell a3 3;have r4:=Ah.cell a3 4;have q0:=Ah.frozen a3 0;have q1:=Ah.frozen a3 1;have C:=Ah.frozen a3 2;have q3:=Ah.frozen a3 3;have q4:=Ah.frozen a3 4;have rl:=a3.lt
      simp at t0 t1 t2 t3 t4 r0 r1 r2 r3 r4;have fd:=Hd a3;clear a3;go_wp2;have j2:i=E.length:=by have:=bl.1;omega
      have gw:=R.out;rw[j2]at gw;have k0:w.heap.size+1<t.heap.size:=fc.lt;have hdone:=gw.done ip (by have:=bl.2;omega) jw jv k0 R.lt;have bc:=((((((Am.refl (·=w.heap.size+1) y).set (p:=⟨w.heap.size+1,0,oN⟩) (.inr rfl) (oG ab (g.R.length+1) ad)).set (p:=⟨w.heap.size+1,1,oN⟩) (.inr rfl) g.nt).set (p:=⟨w.heap.size+1,2,oN⟩) (.inr rfl) g.nn).set (p:=⟨w.heap.size+1,3,oN⟩) (.inr rfl) (oG Aa I.length ca)).set (p:=⟨w.heap.size+1,4,oN⟩) (.inr rfl) (oG Ag ZG.length cg))
      have cw:=((((fd.Ba 0 (oG ab (g.R.length+1) ad)).Ba 1 g.nt).Ba 2 g.nn).Ba 3 (oG Aa I.length ca)).Ba 4 (oG Ag ZG.length cg);have k5:y.heap[w.heap.size+1]?≠oM (.deferred (oM [])):=fun h=>by have P:=fd.out;unfold Ah at P;rw[h]at P;cases P
      generalize (((((y.setCell {block:=w.heap.size+1,off:=0} (Value.slice ab (g.R.length+1) ad)).setCell {block:=w.heap.size+1,off:=1} (Value.int IntKind.i64 ↑g.nt)).setCell {block:=w.heap.size+1,off:=2} (Value.int IntKind.i64 ↑g.nn)).setCell {block:=w.heap.size+1,off:=3} (Value.slice Aa I.length ca)).setCell {block:=w.heap.size+1,off:=4} (Value.slice Ag ZG.length cg))=W9 at *;simp at cw;refine T5 (B:=t.heap.size) (R.marks.AA bc (fun D _ hx e=>k5 (by rw[<-e];exact hx))) (fun w9 cx=>?_);have a2:=cx.Aj cw (fun h=>by have:=h.1;omega);have z0:=Ah.cell a2 0;have z1:=Ah.cell a2 1
      have z2:=Ah.cell a2 2;have z3:=Ah.cell a2 3;have z4:=Ah.cell a2 4;simp at z0 z1 z2 z3 z4;refine⟨.tuple #[.agg #[oG ab (g.R.length+1) ad,g.nt,g.nn,oG Aa I.length ca,oG Ag ZG.length cg],oH oO 0],?_,_,rfl,?_,?_⟩
      · rw[results_cell_tmp rfl]
        go_simp
      · refine((hdone.AA bc (fun b hb=>hb.1.2.2)).AA cx (fun b hb h=>hb.2 ⟨h.1,?_⟩)).mono (fun b hb=>?_)
        · rw[<-bc.block b hb.1.1 hb.1.2.2]
          exact h.2
        · exact A0 (A0 hb.1.1 bc.size) cx.size
      · have p:=ei.out
        have P:=a7.mono p.size;have U:=a4.out;have h4:Below w t y:=R.AA.below (AW p.size a7.size) (fun j hj e=>by omega);have h5:Below w y W9:=bc.below (AW (AW p.size a7.size) R.AA.size) (fun j hj e=>by omega);have h6:Below w W9 w9:=cx.below (AW (AW (AW p.size a7.size) R.AA.size) bc.size) (fun j hj e=>by have:=e.1;omega);exact(((p.trans P).trans h4).trans h5).trans h6
end
def QB(i j:Nat)(x:It):Prop:=(x.1=0/\x.2=0)\/(x.1=3/\x.2=0)\/(x.1=1/\x.2<i)\/(x.1=2/\x.2<j)
instance(nA nR:Nat)(x:It):Decidable (QB nA nR x):=by unfold QB;infer_instance
def EV.open_(h:EV A w v g E K):∃P U I ca J T,v=.agg #[oG P (g.R.length+1) U,g.nt,g.nn,oG I E.length ca,oG J E.length T] /\
  (∀k,k<=g.R.length->∃b off rv,P=oM ⟨b,off,oN⟩/\b<w.heap.size/\A b/\oT w ⟨b,off+k*2,oN⟩=oM (oH oO ((g.Br k).1:Nat))/\oT w ⟨b,off+k*2+1,oN⟩=oM rv/\Ca A w rv (g.right k)) /\
  (∀i,i<E.length->∃b off l o,I=oM ⟨b,off,oN⟩/\b<w.heap.size/\A b/\oT w ⟨b,off+i,oN⟩=oM (oG l (g.nt+1) o)/\DX A w (oG l (g.nt+1) o) (Es g E K i)) /\
  (∀i,i<E.length->∃b off l o,J=oM ⟨b,off,oN⟩/\b<w.heap.size/\A b/\oT w ⟨b,off+i,oN⟩=oM (oG l g.nn o)/\GZ A w (oG l g.nn o) (E4 g E i)):=by
 obtain⟨rv,av,gv,rfl,⟨P,U,rfl,-,-,hr⟩,⟨I,ca,rfl,-,-,ha⟩,⟨J,T,rfl,-,-,hg⟩⟩:=h;refine⟨P,U,I,ca,J,T,rfl,fun k hk=>?_,fun i hi=>?_,fun i hi=>?_⟩
 ·obtain⟨b,off,e,t,C,p⟩:=hr k nX
  obtain⟨R,h0,j⟩:=p 0 nX;obtain⟨x1,h1,e1⟩:=p 1 nX;rw[if_pos rfl]at j;rw[if_neg nX]at e1;exact⟨b,off,x1,e,C,t,by rw[<-Nat.add_zero (off+k*2),h0,j],h1,e1⟩
 ·obtain⟨b,off,e,t,C,p⟩:=ha i hi
  obtain⟨R,h0,j⟩:=p 0 nX;have j:DX A w R (Es g E K i):=j;obtain⟨l,o,rfl,-⟩:=j.form;rw[Nat.mul_one,Nat.add_zero]at h0;have hl:(Es g E K i).length=g.nt+1:=by simp[Es]
  rw[hl]at h0 j;exact⟨b,off,l,o,e,C,t,h0,j⟩
 ·obtain⟨b,off,e,t,C,p⟩:=hg i hi
  obtain⟨R,h0,j⟩:=p 0 nX;have j:GZ A w R (E4 g E i):=j;obtain⟨l,o,rfl,-,-,-⟩:=id j;rw[Nat.mul_one,Nat.add_zero]at h0;have hl:(E4 g E i).length=g.nn:=by simp[E4]
  rw[hl]at h0 j;exact⟨b,off,l,o,e,C,t,h0,j⟩
def GZ.at_{i:Option Addr}{c:Nat}(h:GZ A w (oG i n c) l){x:Int}(o:l[k]?=oM x):∃b off,i=oM ⟨b,off,oN⟩/\A b/\b<w.heap.size/\oT w ⟨b,off+k,oN⟩=oM (oH oO x):=by
 obtain⟨U,c',T,-,-,R⟩:=h;cases T
 have J:=(sG.1 o).1;obtain⟨b,off,p,t,P,C⟩:=R k J;obtain⟨y0,h0,j⟩:=C 0 nX;have I:l.getD k 0=x:=by rw[dG,o];rfl
 rw[I]at j;refine⟨b,off,p,t,P,?_⟩;rw[Nat.mul_one,Nat.add_zero]at h0;rw[h0,j]
section
set_option maxRecDepth 1000000
def lu:((List.range AS.length).all fun i=>(List.range (pz.nt+1)).all fun t=>decide ((pz.Ia (AS.getD i []) (Bv.getD i []) t).length<=1))=true:=by decide +kernel
def gO:Calm pz AS Bv:=fun i t j l=>by have h:=List.all_eq_true.1 (List.all_eq_true.1 lu i (List.mem_range.2 j)) t (List.mem_range.2 nX);exact of_decide_eq_true h
end
