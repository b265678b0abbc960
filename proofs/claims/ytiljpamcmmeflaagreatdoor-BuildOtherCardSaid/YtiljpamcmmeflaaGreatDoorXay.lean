/- . -/
import Derived.Test.YtiljpamcmmeflaaGreatDoorXaw
import Derived.Test.YtiljpamcmmeflaaGreatDoorXax
import Derived.Test.YtiljpamcmmeflaaGreatDoorXbo
set_option linter.all false
set_option maxRecDepth 100000
set_option maxHeartbeats 16000000
namespace Go.Proofs.YtiljpamcmmeflaaGreatDoor
open Go.RowKit Go.Proofs.Tryz
open Value renaming slice→nC,int→nE,pointer→nF
open Option renaming some→nJ,none→nK
open IntKind renaming i64→nM
open Obj renaming cells→nO
open Ending renaming returned→nP
open World renaming cell?→nQ
open Go renaming World→nS,Value→nU
variable{v:nU}{n:Nat}{A A' X:Nat->Prop}{w':nS}{XS:List nU}{cs:Array nU}
section
attribute [local go_sem] Oper.semAt_some
def Tp(w:nS)(own t:Nat)(iv tv p:nU)(e:Ending)(w':nS):Prop:=
 ∃l o i j,e=nP (.func (.func 117) #[] #[nF (nJ ⟨l,0,nK⟩),nF (nJ ⟨o,0,nK⟩),nF (nJ ⟨i,0,nK⟩),nF (nJ ⟨j,0,nK⟩)])/\w.heap.size<=l/\w.heap.size<=o/\w.heap.size<=i/\w.heap.size<=j /\
  Ah w' l 151 #[iv,tv]/\Ah w' o 3 #[t]/\Ah w' i 156 #[p]/\Ah w' j 3 #[own]/\Below w w w'
def Re{w:nS}{own t:Nat}{Ai At Ak:Option Addr}{ni ci nt ct nk ck:Nat} :
  () 81 #[own,.agg #[nC Ai ni ci,nC At nt ct],nC Ak nk ck,t] w (Tp w own t (nC Ai ni ci) (nC At nt ct) (nC Ak nk ck)):=by
 unfold Tp;go_enter func81,ntmps81
 go_wp2;go_ret;have i:(w.alloc (nO #[own] 3)).heap.size=w.heap.size+1:=by simp
 have j:((w.alloc (nO #[own] 3)).alloc (nO #[nC Ai ni ci,nC At nt ct] 151)).heap.size=w.heap.size+1+1:=by simp
 have l:(((w.alloc (nO #[own] 3)).alloc (nO #[nC Ai ni ci,nC At nt ct] 151)).alloc (nO #[nC Ak nk ck] 156)).heap.size=w.heap.size+1+1+1:=by simp
 refine⟨_,_,_,_,rfl,mR,mR,mR,AF _,?_,?_,?_,?_,?_⟩
 ·exact((Ah.newAt i).alloc _).alloc _
 ·exact Ah.newAt l
 ·exact(Ah.newAt j).alloc _
 ·exact(((Ah.new w _ _).alloc _).alloc _).alloc _
 ·exact(((AE w _).alloc mR _).alloc mR _).alloc mR _
def QO{w:nS}{l:List Nat}(h:Bv w v l):BX (fun b=>b<w.heap.size) w v l:=by
 refine⟨h,fun b i p=>?_⟩;obtain⟨⟨I,c,t,o⟩,-,-⟩:=h;obtain⟨x,C⟩:∃x,l[0]?=nJ x:=⟨_,eG p⟩
 obtain⟨J,off,j,P,-⟩:=o 0 x C;rw[t,j]at i;simp only[Value.ownBlock,Option.some.injEq]at i;omega
def GF.UI{w:nS}{m:Nat}{l:List (Nat×Nat)}(h:GF w m v l):Ik (fun b=>b<w.heap.size) w m v l:=by
 refine Bo.mono (show Bo (fun b=>b<w.heap.size) w v l.length 2 _ from h) (fun _=>id) (fun k j x _ _ o=>?_);split at o
 ·rename_i i;rw[if_pos i];exact o
 ·rename_i i;rw[if_neg i];exact QO o
theorem CK.cJ{w:nS}{l:List It}(h:CK w v l)(T:l.length<=1000000):D6 (fun b=>b<w.heap.size) w v l:=by
 obtain⟨⟨A,c,o,J⟩,-,U⟩:=h;refine⟨A,c,o,(U A l.length c o).1,T,fun k R=>?_⟩;obtain⟨x,p⟩:∃x,l[k]?=nJ x:=⟨_,eG R⟩
 obtain⟨b,off,I,j,t,C⟩:=J k x p;have i:l.getD k (0,0)=x:=by rw[dG,p];rfl
 refine⟨b,off,I,j,j,fun a0 P=>?_⟩
 match a0,P with
 | 0,_=>exact⟨_,t,by dsimp only;rw[i];rfl⟩
 | 1,_=>exact⟨_,C,by dsimp only;rw[i];rfl⟩
def GV.at_{w:nS}{g:Gz}{L E:List (List It)}{K:List (List (Nat×Nat))}(h:GV w v g L E K){i:Nat}(hi:i<L.length)(hK:K.length=L.length)(hE:(E.getD i []).length<=1000000) :
  ∃C J I co b off Ai ni ci At nt ct j p Ak nk ck,v=.agg #[g.R.length,nC C L.length J,nC I L.length co]/\C=nJ ⟨b,off,nK⟩/\I=nJ ⟨j,p,nK⟩ /\
   (∀y,Below w w y->b<y.heap.size/\j<y.heap.size/\nQ y ⟨b,off+i*2,nK⟩=nJ (nC Ai ni ci)/\nQ y ⟨b,off+i*2+1,nK⟩=nJ (nC At nt ct)/\nQ y ⟨j,p+i,nK⟩=nJ (nC Ak nk ck)) /\
   D6 (fun b=>b<w.heap.size) w (nC At nt ct) (E.getD i [])/\Ik (fun b=>b<w.heap.size) w (g.nt+1) (nC Ak nk ck) (K.getD i []):=by
 obtain⟨lv,lo,V,rfl,⟨⟨C,J,rfl,-,hc⟩,⟨a3,a8⟩,hit,a4,-⟩,⟨I,co,rfl,-,-,hr⟩⟩:=h;rw[hK]at hr ⊢;rw[<-a3];obtain⟨x,U⟩:∃x,V[i]?=nJ x:=⟨_,eG mR⟩
 obtain⟨l,hl⟩:∃l,L[i]?=nJ l:=⟨_,eG hi⟩
 obtain⟨t,ht⟩:∃t,E[i]?=nJ t:=⟨_,eG mR⟩
 obtain⟨b,off,hA,T,e0,e1⟩:=hc i x U;obtain⟨j,p,a1,-,a0,a2⟩:=hr i hi;obtain⟨kv,h0,R⟩:=a2 0 mR;have hI:=hit i x l U hl;have P:=a4 i x t U ht;have eT:E.getD i []=t:=by rw[dG,ht];rfl
 rw[eT]at hE ⊢;obtain⟨⟨Ai,ci,a5,-⟩,-,-⟩:=id hI;obtain⟨⟨At,ct,a7,-⟩,-,-⟩:=id P;obtain⟨Ak,ck,a6,-⟩:=R.UI.form;rw[a5]at e0;rw[a7]at e1 P;rw[a6]at h0 R;rw[Nat.mul_one,Nat.add_zero]at h0;exact⟨C,J,I,co,b,off,Ai,_,ci,At,_,ct,j,p,Ak,_,ck,rfl,hA,a1,fun y o=>⟨AK T o.size,AK a0 o.size,(o.cell (p:=⟨b,off+i*2,nK⟩) T).trans e0,(o.cell (p:=⟨b,off+i*2+1,nK⟩) T).trans e1,(o.cell (p:=⟨j,p+i,nK⟩) a0).trans h0⟩,P.cJ hE,R.UI⟩
def C4(x:It):List nU:=[nE nM x.1,nE nM x.2]
def lO:El Tryz.prog 152 158 2 16:=El.of (z:=.agg #[nE nM 0,nE nM 0]) underlying152 mU rfl mT
def fF(own t:Nat)(tr:List It)(i:List (Nat×Nat)):(Cu t tr++C7 own t i++Ec own t i).length<=tr.length+i.length+i.length:=by
 have j:(Cu t tr).length<=tr.length:=by
  unfold Cu;rw[lM];split
  ·exact List.length_filter_le _ _
  ·simp
 have l:(C7 own t i).length<=i.length:=by unfold C7;rw[lM];exact List.length_filter_le _ _
 have o:(Ec own t i).length<=i.length:=by unfold Ec;rw[lM];exact List.length_filter_le _ _
 simp only[BS];omega
def Vk(w:nS)(j:Nat)(W:nS)(pre:List It)(A':Nat->Prop)(i:nS):Prop:=Fo 158 2 152 w j pre.length (pre.flatMap C4) A' i/\W.heap.size<=i.heap.size
def jF{w:nS}{g:Gz}{L E:List (List It)}{K:List (List (Nat×Nat))}(h:GV w v g L E K){i t:Nat}(hi:i<L.length)(hL:L.length<=1000000)(hK:K.length=L.length)(hE:(E.getD i []).length<=1000000)(hk:(K.getD i []).length<=1000000)(ht:t<=g.nt)(b8:g.nt<=120) :
  () 116 #[v,i,t] w fun e w'=>∃o,e=nP o/\Ld 158 2 w (g.JR (E.getD i []) (K.getD i []) t).length ((g.JR (E.getD i []) (K.getD i []) t).flatMap C4) o w':=by
 obtain⟨AL,cL,Ao,co,b,off,Ai,ni,ci,At,nt,ct,b2,a1,Ak,nk,ck,rfl,rfl,rfl,b3,bh,b6⟩:=h.at_ hi hK hE;rw[U8];have af:=fF g.R.length t (E.getD i []) (K.getD i []);generalize E.getD i []=tr at *;generalize K.getD i []=lk at *;obtain⟨xs,al⟩:∃xs,Cu t tr++C7 g.R.length t lk++Ec g.R.length t lk=xs:=⟨_,rfl⟩
 have cd:(i:Int)<(L.length:Int):=by omega
 generalize L.length=U at *;generalize cc:g.R.length=own at *;rw[al]at af ⊢;obtain⟨j,a0⟩:∃j,(w.alloc (nO #[own,nC (nJ ⟨b,off,nK⟩) U cL,nC (b2,a1) U co] 139)).alloc (nO #[nC nK 0 0] 152)=j:=⟨_,rfl⟩
 have a5:Below w w j:=by rw[<-a0];exact(AE w _).alloc mV _
 have bi:j.heap.size=w.heap.size+2:=by rw[<-a0];simp
 have ah:Ah j w.heap.size 139 #[own,nC (nJ ⟨b,off,nK⟩) U cL,nC (b2,a1) U co]:=by rw[<-a0];exact(Ah.new w _ _).alloc _
 have ba:Ah j (w.heap.size+1) 152 #[nC nK 0 0]:=by rw[<-a0];exact Ah.newAt mV
 have a3:Hid (∀y,Below j j y->nQ y (w,0)=nJ (nE nM own)/\nQ y (w,1)=nJ (nC (nJ ⟨b,off,nK⟩) U cL)/\nQ y (w,2)=nJ (nC (b2,a1) U co)/\nQ y ⟨b,off+i*2,nK⟩=nJ (nC Ai ni ci)/\nQ y ⟨b,off+i*2+1,nK⟩=nJ (nC At nt ct)/\nQ y (b2,a1+i)=nJ (nC Ak nk ck)):=Hd (fun y hy=>by obtain⟨p,P,J,R,h5⟩:=b3 y (a5.trans (hy.mono a5.size));have hm:=ah.below hy ah.lt;exact⟨hm.cell 0,hm.cell 1,hm.cell 2,J,R,h5⟩)
 obtain⟨c0,c1,c2,c3,c4,c5⟩:=a3 j (Below.refl _ _);have a8:=Hd a5;have bt:=Hd bi;have aa:=Hd ba;have bv:=Hd a0;have aw:=Hd bh;have ar:=Hd b6;have bw:=Hd al;have bo:=Hd af;have HT:=Hd (And.intro ht b8);have bm:=Hd (And.intro hE hk);have HP:=Hd (fun y:nS=>Re (w:=y) (own:=own) (t:=t) (Ai:=Ai) (At:=At) (Ak:=Ak) (ni:=ni) (ci:=ci) (nt:=nt) (ct:=ct) (nk:=nk) (ck:=ck));clear h hi hL hK hE hk ht b8 b3 bh b6 al a5 bi ah ba af cc;refine(callsIn_wide (n:=0)).1 ?_;refine callsIn_of_wp_marks func116 rfl trivial ?_ rfl
 simp only[ntmps116,List.size_toArray,List.length_cons,List.length_nil,Nat.reduceAdd,Nat.reduceSub,Array.replicate_succ,Array.replicate_zero,List.push_toArray,List.append_toArray,List.nil_append,List.cons_append];refine wpIn_wide.2 ?_;have a9:Hid (Below j j j.drew):=Hd ((Below.refl j.heap.size j).drew);go_upto_region 2 with fail
 clear a0
 go_region_held3 (fun v=>nQ v (w,0)=nJ (nE nM own)/\nQ v (w,1)=nJ (nC (nJ ⟨b,off,nK⟩) U cL)/\nQ v (w,2)=nJ (nC (b2,a1) U co)/\nQ v ⟨b,off+i*2,nK⟩=nJ (nC Ai ni ci)/\nQ v ⟨b,off+i*2+1,nK⟩=nJ (nC At nt ct)/\nQ v (b2,a1+i)=nJ (nC Ak nk ck))
  (first|exact a3 _ a9|exact a3 _ a2)
  (first|(
     go_at_call 81;refine(HP _).mono ?_;rintro e l ⟨sb,tb,kb,ob,rfl,p,P,J,R,k1,k2,k3,k4,az⟩
     have a2:Hid (Below j j l):=Hd (a9.trans az);have HK:=Hd (And.intro (And.intro p (And.intro P (And.intro J R))) (And.intro k1 (And.intro k2 (And.intro k3 k4))));clear p P J R k1 k2 k3 k4 az))
 obtain⟨⟨p,P,J,R⟩,k1,k2,k3,k4⟩:=HK.out;have p:j.heap.size<=sb:=p;have P:j.heap.size<=tb:=P;have J:j.heap.size<=kb:=J;have R:j.heap.size<=ob:=R;have I:Below w w l:=a8.trans (a2.mono a8.size);have hA:∀b,(b<w.heap.size\/(j.heap.size<=b/\b<l.heap.size))->b<l.heap.size:=fun b C=>C.elim (fun h=>AK h I.size) (·.2)
 have ak:Bm (fun b=>b<w.heap.size) w l:=fun b C=>I.block b C
 have aj:=SG (A:=fun b=>b<w.heap.size\/(j.heap.size<=b/\b<l.heap.size)) (w:=l) (m:=g.nt+1) (by have:=HT.out;omega) (by have:=HT.out;omega) hA (.inr ⟨p,k1.lt⟩) (.inr ⟨P,k2.lt⟩) (.inr ⟨J,k3.lt⟩) (.inr ⟨R,k4.lt⟩) k1 k2 k3 k4
  (aw.Bu (fun _=>.inl) I.size ak) (ar.Bu (fun _=>.inl) I.size ak)
 rw[bw.out]at aj;have ai:Ah l (w.heap.size+1) 152 #[nC nK 0 0]:=aa.below a2 aa.lt;have ay:Vk w (w.heap.size+1) l [] (fun b=>b<w.heap.size\/(j.heap.size<=b/\b<l.heap.size)) l:=by refine⟨⟨mR,?_,nC nK 0 0,ai,⟨nK,0,rfl,⟨mV,.inl ⟨rfl,rfl⟩⟩,I⟩,fun b C=>by cases C⟩,AF _⟩;have:=bt.out;rintro(h|h)<;>omega
 have ch:w.heap.size+1<l.heap.size:=ai.lt;have bu:=Hd aj;have bl:=Hd hA;have bn:=Hd ay;have aq:=Hd I;clear aj hA ay I ak ai p P J R k1 k2 k3 k4 HK HP a3 a8 a2 aa bv aw ar a9 c0 c1 c2 c3 c4 c5;go_wp2;refine(wpIn_wide (n:=0)).1 ?_;refine Lp (gf:=117) (lb:=#[nF (nJ ⟨sb,0,nK⟩),nF (nJ ⟨tb,0,nK⟩),nF (nJ ⟨kb,0,nK⟩),nF (nJ ⟨ob,0,nK⟩)]) rfl (fun _ _=>by kernel_rfl) bu bl (fun _=>rfl)
  (Vk w (w.heap.size+1) l) (fun c A' W'=>False) ?hI ?hIx ?h0 ?hround ?hdone ?hstop
 case hI=>exact fun s A1 A2 bx U' h hc bz=>⟨h.1.Jz mR hc bz,AY h.2 hc.size⟩
 case hIx=>exact fun c s A1 A2 bx U' h _ _=>h
 case h0=>exact bn
 case hstop=>exact fun D c A' W' _ _ _ _ h _=>h.elim
 case hdone=>rintro D A5 T hD c6 bj ag ⟨hj,-⟩ hK;obtain⟨o,b0,bc⟩:=hj.R9 (D:=D) mR c6 (.deferred nK);have HO:=Hd bc;clear bc hj;go_wp2;refine⟨mV,.inl ⟨_,_,rfl,run_takeDeferred hK,?_⟩⟩;refine⟨_,results_tmp rfl _ _ _,?_⟩;exact⟨o,rfl,HO⟩
 case hround=>
  rintro l1 pre x A5 T bf cf cg c8 bj ag ⟨hj,cn⟩;obtain⟨xk,xn⟩:=x;obtain⟨W6,ab⟩:∃W6,T.alloc (nO #[xk,xn] 158)=W6:=⟨_,rfl⟩
  have b1:Below T T W6:=by rw[<-ab];exact AE _ _
  have bk:Ah W6 T.heap.size 158 #[xk,xn]:=by rw[<-ab];exact Ah.new _ _ _
  have cl:W6.heap.size=T.heap.size+1:=by rw[<-ab];simp
  have bd:=bf.length_le;have an:=Hd b1;have ax:=Hd bk;have HJ:=Hd hj;have au:=Hd ag;have bq:=Hd bd;simp only[JD];clear b1 bk hj ag bj bf bd;simp
  gi_wp2
  refine⟨mR,fun b C=>an.block b (au b C),fun W7 ae cm r hr=>?_⟩;have a7:Ah W7 T.heap.size 158 #[xk,xn]:=ae.Ap ax mR;have b5:=HJ.Jz (B:=T.heap.size) (A':=A5) mR (Aj.AJ an) (fun _=>.inl);have cb:=b5.Jz (B:=w.heap.size) (A':=A5) (AF _) (ae.mono (fun b C=>by subst C;exact⟨mR,c8⟩)) (fun _=>.inl);have b7:∀b,A5 b->b<W7.heap.size:=fun b C=>by have:=au b C;omega
  have x0:=a7.cell 0;have x1:=a7.cell 1;have xl:=a7.lt;obtain⟨ca,c7,o,a6,⟨Ao,oc,rfl,ho,I⟩,bb⟩:=cb;have b0:=a6.cell 0;have f0:=a6.frozen 0;simp at b0 x0 x1;have cp:=I.size;have ao:=Hd a6;have HO:=Hd ho;have aq:=Hd I;have bp:=Hd bb;have av:=Hd b7;have cj:pre.length+1<=3000000:=by have p:=bq.out;have P:=bo.out;have J:=bm.out;simp at p;omega
  generalize be:pre.length=n at *;have br:=Hd be;clear a7 b5 a6 ho I bb b7 ax HJ hr ae be
  gi_wp2_with (first
   | (
    gi_at_builtin;refine S1 lO (.tmp 24) (.tmp 26) rfl rfl (base:=w.heap.size) (n:=n) (m:=1) (N:=n+1) (v:=nC Ao n oc) (src:=nC (nJ ⟨W7.heap.size,0,nK⟩) 1 1) (xs:=pre.flatMap C4) (news:=[nE nM xk,nE nM xn]) rfl rfl (AV HO (AE _ _)) (Ba.Ap (c:=1) (cs:=[nE nM xk,nE nM xn]) (Ah.new W7 158 _) rfl mZ) rfl mW mR mX ?_
    intro A9 c9 w9 r1 r2 r3;have ad:=r2.Ap (ao.alloc _) (.inr mT);have b9:=ad.cell 0;have f9:=ad.frozen 0;simp at b9;have b4:=Fo.put ca c7 ao bp av HO aq ((Aj.refl _ W7).alloc _) r3.1 r3.2 r1 mT;have a4:=Hd b4;clear r1 r2 r3 ad b4))
  refine⟨a4.2.size,PQ a4.2 av,?_,?_⟩
  ·rw[BS,List.flatMap_append,br.out]
   exact a4.1
  ·have p:=a4.2.size
   omega
end
def Calm(g:Gz)(E:List (List It))(K:List (List (Nat×Nat))):Prop:=∀i t,i<E.length->t<=g.nt->(g.JR (E.getD i []) (K.getD i []) t).length<=1
structure Sz(g:Gz)(L E:List (List It))(K:List (List (Nat×Nat))):Prop where
 l:L.length<=1000000
 e:E.length=L.length
 k:K.length=L.length
 es:∀i,(E.getD i []).length<=1000000
 ks:∀i,(K.getD i []).length<=1000000
 nt:g.nt<=120
variable{L:List (List It)}{l:List Int}{e:TypeId}
def Xh{w:nS}{g:Gz}{E:List (List It)}{K:List (List (Nat×Nat))}(h:GV w v g L E K)(j:Sz g L E K)(hc:Calm g E K) :
  () 79 #[v,g.nt] w fun e w'=>e=nP (nC nK 0 0)/\Below w w w':=by
 have R:Hid (∀y i t,Below w w y->i<L.length->t<=g.nt->() 116 #[v,nE nM i,nE nM t] y fun e w'=>∃p n co,e=nP (nC p n co)/\n<=1/\Below y y w'):=Hd (fun y i t hy T U=>(jF (h.later hy) T j.l j.k (j.es i) (j.ks i) U j.nt).mono (by rintro e w' ⟨o,rfl,p,co,rfl,-,hb⟩;exact⟨p,_,co,rfl,hc i t (by rw[j.e];exact T) U,hb⟩))
 have hl:=j.l;have ab:=j.nt;obtain⟨lv,lo,V,rfl,⟨⟨I,J,rfl,-,-⟩,⟨a5,-⟩,-,-,-⟩,⟨p,co,rfl,-,-,-⟩⟩:=h;have hk:=j.k;rw[hk]at R ⊢;rw[<-a5]at R ⊢;clear j hc hk a5;generalize L.length=n at *;generalize g.nt=P at *;generalize g.R.length=own at *;have C:=Ah.new w 139 #[own,nC I n J,nC p n co];have a2:=AE w (nO #[own,nC I n J,nC p n co] 139);have a1:=Hd C;have a0:=Hd a2;clear C a2;go_enter func79,ntmps79
 go_wp2_with fail
 go_loopw [13,5] (fun ii o wr=>∃i:Nat,i<=n/\ii=nE nM i/\o=nC nK 0 0/\Hid (Below (w.heap.size+1) (w.alloc (nO #[own,nC I n J,nC p n co] 139)) wr)) (fun ii _ _=>n-(intOf ii).toNat)
 case atStart=>exact⟨0,A0 _,rfl,rfl,Hd (by simpa using Below.refl _ _)⟩
 case round=>
  obtain⟨i,T,rfl,rfl,l⟩:=hrel;rename nS=>w9
  by_cases a8:i<n
  ·go_wp2_with fail
   go_loopw [18,5] (fun tt o wr=>∃t:Nat,t<=P+1/\tt=nE nM t/\o=nC nK 0 0/\Hid (Below (w.heap.size+1) (w.alloc (nO #[own,nC I n J,nC p n co] 139)) wr)) (fun tt _ _=>P+1-(intOf tt).toNat)
   case atStart=>exact⟨0,A0 _,rfl,rfl,l⟩
   case round=>
    clear l;obtain⟨t,U,rfl,rfl,l⟩:=hrel;rename nS=>w8
    have a4:Below w w w8:=a0.trans (l.mono mR);have C:=a1.below (by simpa using l.out) a1.lt;have c0:=C.cell 0;have c1:=C.cell 1;have c2:=C.cell 2;have cl:=C.lt;simp at c0 c1 c2;have a7:=Hd a4;clear C a4;by_cases a9:t<P+1
    ·have HA:=Hd (R w8 i t a7 a8 mR)
     go_wp2_with (go_at_call 116;refine HA.mono ?_;rintro e w7 ⟨Aa,na,ca,rfl,aa,a3⟩;have a6:=Hd a3;have hq:¬((1:Int)<(na:Int)):=mR;clear a3)
     go_loopw [9,5] (fun kk o wr=>kk=nE nM 1/\o=nC nK 0 0/\Hid (wr=w7)) (fun _ _ _=>0)
     case atStart=>exact⟨rfl,rfl,Hd rfl⟩
     case round=>
      obtain⟨rfl,rfl,HW⟩:=hrel;have hw:=HW.out;subst hw;clear HW;go_wp2;go_roundw
      case rel=>exact⟨t+1,mR,mY,rfl,Hd (l.trans (a6.mono (by have:=l.size;simpa using this)))⟩
      case measure=>simp[intOf];omega
    ·obtain rfl:t=P+1:=by omega
     go_wp2;go_roundw
     case rel=>exact⟨i+1,mR,mY,rfl,l⟩
     case measure=>simp[intOf];omega
  ·obtain rfl:i=n:=by omega
   go_wp2;go_ret;exact⟨rfl,a0.trans (l.mono mR)⟩
section
set_option maxRecDepth 1000000
def Zq:IU pz BV Bi 1000 1000 PC O1 DP DX 291 Nr Ke Nc where
 first:=Wh
 ND:=ZX
 comes:=ZR
 Ex:=Wn
 spread:=kD
 items:=fun K o x C=>by
  have h:(BV.all fun K=>K.all fun x=>decide (x.1<=pz.R.length)&&decide (x.2<=1000000))=true:=by decide +kernel
  have i:=List.all_eq_true.1 (List.all_eq_true.1 h K o) x C;simp only[Bool.and_eq_true,decide_eq_true_eq]at i;exact i
 some_:=by decide +kernel
 B7:=by decide +kernel
 rules:=fun F hF=>by
  have h:(Nr.all fun F=>decide (F.length<=100000)&&F.all fun f=>decide (f.1<=pz.R.length)&&decide (f.2<291))=true:=by decide +kernel
  have i:=List.all_eq_true.1 h F hF;simp only[Bool.and_eq_true,decide_eq_true_eq]at i;refine⟨i.1,fun f t=>?_⟩;have j:=List.all_eq_true.1 i.2 f t;simp only[Bool.and_eq_true,decide_eq_true_eq]at j;exact j
 fit:=fun e p=>by have l:=List.all_eq_true.1 Sa e p;simp only[Bool.and_eq_true,decide_eq_true_eq]at l;exact l.1
def Ch:List (List (Nat×Nat)):=[[],[(68,De)],[(73,Bx)],[(69,De)],[],[(97,Bk)],[],[],[],[],[],[],[],[],[],[(97,Bk)],[],[(97,Bk)],[(97,Bk)],[],[(97,Bk)],[],[(104,1)],[],[(1,32)],[(4,1568)],[(5,Dn)],[(8,Dn)],[(10,BE)],[(13,BE)],[(17,AQ)],[(18,AQ)],[(19,AQ)],[(20,AQ)],[(21,AQ)],[(22,AQ)],[(15,BE)],[(16,AQ)],[(12,BE)],[(67,BE)],[(65,BE)],[(71,Bx)],[(81,Bx)],[(83,Bx)],[],[(82,Bx)],[(84,Bx)],[(94,J2)],[],[(96,Ms)],[],[(85,Bx)],[(87,Bx)],[(89,Bx)],[(92,Bx)],[(93,Bx)],[(86,Bx)],[(88,Bx)],[(90,Bx)],[(91,Bx)],[],[(97,EJ)],[],[],[(97,EJ)],[],[(9,Dn)],[(0,1)],[(99,JM)],[(98,JM)],[(2,32)],[(97,Bk)],[(97,Bk)],[(97,IJ)],[(14,BE)],[(79,AQ)],[(77,De)],[(66,BE)],[(75,De)],[(70,De)],[(74,Bx)],[(64,BE)],[(72,Bx)],[(97,I1)],[(23,AQ)],[(95,J2)],[(27,I8)],[(24,Jt)],[(97,Bk)],[],[(97,Bk)],[(56,AQ)],[(57,AQ)],[(97,C8)],[(28,AQ)],[(96,EJ),(103,C8)],[],[],[(61,AQ)],[(3,1568)],[],[],[],[(80,AQ)],[(78,De)],[(76,De)],[(63,BE)],[],[(101,IL)],[(97,IL)],[(25,Jt)],[],[(97,BO)],[],[(102,C8)],[],[(29,AQ)],[(6,Dn)],[(7,Dn)],[(11,BE)],[(59,BE)],[(58,BE)],[(100,IL)],[(26,I8)],[(97,Bk)],[(97,Bk)],[(52,AQ)],[],[],[(62,AQ)],[(33,546)],[],[(103,C8)],[],[(60,BE)],[(55,DF)],[],[(51,AQ)],[(49,DG)],[],[(36,AQ)],[],[],[(38,Ci)],[(40,BO)],[],[(32,546)],[],[(30,AQ)],[(97,Bk)],[],[(35,AQ)],[(34,AQ)],[(37,Ci)],[(39,BO)],[],[(97,M1)],[(31,AQ)],[(53,DF)],[(97,M1)],[(50,DG)],[(42,Ci)],[(41,Ci)],[(54,DF)],[(44,Ci)],[(43,Ci)],[(97,BO)],[(97,BO)],[(97,BO)],[(97,BO)],[(46,BO)],[(45,BO)],[(48,BO)],[(47,BO)]]
def Z6:pz.Hz Nc BV (Gz.Ca BV 0) Nr=Ch:=by decide +kernel
theorem Tx{o:Type}{l:List (List o)}(h:(l.all fun x=>decide (x.length<=n))=true)(i:Nat):(l.getD i []).length<=n:=by
 rw[dG];cases j:l[i]? with
 | none=>simp
 | some x=>have:=List.all_eq_true.1 h x (mG j);simpa using this
def iV:Sz pz BV Bi Ch where
 l:=by decide +kernel
 e:=by decide +kernel
 k:=by decide +kernel
 es:=Tx (by decide +kernel)
 ks:=Tx (by decide +kernel)
 nt:=by decide
end
def Bp(g:Gz)(E:List (List It))(K:List (List (Nat×Nat)))(i t:Nat):It:=(g.JR (E.getD i []) (K.getD i []) t).headD (0,0)
def EA(g:Gz)(E:List (List It))(K:List (List (Nat×Nat)))(i:Nat):List It:=(List.range (g.nt+1)).map (Bp g E K i)
def EO(g:Gz)(E:List (List It))(i:Nat):List Int:=(List.range g.nn).map fun k=>DS (E.getD i []) (g.nt+1+k)
def GG(A:Nat->Prop)(w:nS)(v:nU)(l:List Int):Prop:=Bo A w v l.length 1 (fun k _ x=>x=nE nM (l.getD k 0))
def Im(A:Nat->Prop)(w:nS)(v:nU)(g:Gz):Prop:=Bo A w v (g.R.length+1) 2 (fun k j x=>if j=0 then x=nE nM ((g.AX k).1:Nat) else BX A w x (g.right k))
def EP(A:Nat->Prop)(w:nS)(v:nU)(g:Gz)(E:List (List It))(K:List (List (Nat×Nat))):Prop:=
 ∃o j l,v=.agg #[o,g.nt,g.nn,j,l]/\Im A w o g/\Bo A w j E.length 1 (fun i _ x=>D6 A w x (EA g E K i))/\Bo A w l E.length 1 (fun i _ x=>GG A w x (EO g E i))
def D6.mono{w:nS}{l:List It}(h:D6 A w v l)(i:∀b,A b->A' b):D6 A' w v l:=Bo.mono h i (fun _ _ _ _ _ h=>h)
def GG.mono{w:nS}(h:GG A w v l)(i:∀b,A b->A' b):GG A' w v l:=Bo.mono h i (fun _ _ _ _ _ h=>h)
def D6.Ay{w:nS}{l:List It}(h:D6 A w v l)(j:Aj X w w')(i:∀b,A b->¬X b):D6 A w' v l:=Bo.Ay h j i (fun _ _ _ _ _ h=>h)
def GG.Ay{w:nS}(h:GG A w v l)(j:Aj X w w')(i:∀b,A b->¬X b):GG A w' v l:=Bo.Ay h j i (fun _ _ _ _ _ h=>h)
def Im.Ay{w:nS}{g:Gz}(h:Im A w v g)(p:Aj X w w')(o:∀b,A b->¬X b):Im A w' v g:=Bo.Ay h p o (fun k j x _ _ l=>by
 split at l
 ·rename_i i;rw[if_pos i];exact l
 ·rename_i i;rw[if_neg i];exact l.Ay p o)
def Im.mono{w:nS}{g:Gz}(h:Im A w v g)(o:∀b,A b->A' b):Im A' w v g:=Bo.mono h o (fun k j x _ _ l=>by
 split at l
 ·rename_i i;rw[if_pos i];exact l
 ·rename_i i;rw[if_neg i];exact l.mono o)
def EP.Ay{w:nS}{g:Gz}{E:List (List It)}{K:List (List (Nat×Nat))}(h:EP A w v g E K)(j:Aj X w w')(i:∀b,A b->¬X b):EP A w' v g E K:=by obtain⟨J,l,o,p,t,C,I⟩:=h;exact⟨J,l,o,p,t.Ay j i,Bo.Ay C j i (fun _ _ _ _ _ h=>h.Ay j i),Bo.Ay I j i (fun _ _ _ _ _ h=>h.Ay j i)⟩
def EP.mono{w:nS}{g:Gz}{E:List (List It)}{K:List (List (Nat×Nat))}(h:EP A w v g E K)(i:∀b,A b->A' b):EP A' w v g E K:=by obtain⟨I,j,l,o,p,t,C⟩:=h;exact⟨I,j,l,o,p.mono i,Bo.mono t i (fun _ _ _ _ _ h=>h.mono i),Bo.mono C i (fun _ _ _ _ _ h=>h.mono i)⟩
def Bo.Lw{w:nS}{B:Nat}{sz:Nat}{f:Nat->Nat->nU->Prop}(h:w.ownsRow B e sz v n XS)(hn:n<=1000000)(P:∀b cs,B<=b->Ah w b e cs->A b)(T:∀i j x,i<n->j<sz->XS[i*sz+j]?=nJ x->f i j x):Bo A w v n sz f:=by
 rcases Bg h with⟨rfl,rfl⟩|⟨b,c,rfl,t,C,I,_,p,R⟩
 ·exact⟨nK,0,rfl,AF _,mR,fun k l=>by omega⟩
 ·refine⟨_,c,rfl,I,hn,fun k l=>⟨b,0,rfl,P b p t R,C,fun j U=>?_⟩⟩
  have hl:=h.1;have a0:k*sz+j<n*sz:=by have J:(k+1)*sz<=n*sz:=Nat.mul_le_mul_right _ l;rw[Nat.succ_mul]at J;omega
  have o:XS[k*sz+j]?=nJ (XS[k*sz+j]'(by omega)):=eG mR;exact⟨_,by rw[Nat.zero_add,Bb h _ a0,o],T k j _ l U o⟩
def D3(H:Nat->It)(n k:Nat):List It:=(List.range n).map fun t=>if t<k then H t else(0,0)
def Kp(H:Nat->It)(n k:Nat):(D3 H n k).length=n:=by simp[D3]
def Wa(H:Nat->It)(n:Nat):D3 H n n=(List.range n).map H:=by
 unfold D3;refine List.map_congr_left fun t i=>?_
 rw[if_pos (List.mem_range.1 i)]
def Wi(H:Nat->It){k:Nat}(j:k<n):D3 H n (k+1)=(D3 H n k).set k (H k):=by
 apply List.ext_getElem?;intro t;by_cases i:t<n
 ·by_cases e:t=k
  ·subst e
   rw[tG (by rw[Kp];exact i)];simp[D3,i]
  ·rw[uG (Ne.symm e)]
   simp only[D3,pG,List.getElem?_range i,Option.map_some];by_cases h:t<k
   ·rw[if_pos h,if_pos mR]
   ·rw[if_neg h,if_neg mR]
 ·rw[nG (by rw[Kp];omega),nG (by rw[List.length_set,Kp];omega)]
def lX(H:Nat->It){k:Nat}(j:k<n)(h:H k=(0,0)):D3 H n (k+1)=D3 H n k:=by
 unfold D3;refine List.map_congr_left fun t l=>?_
 by_cases e:t=k
 ·rw[if_pos mR,if_neg mR,e,h]
 ·by_cases i:t<k
  ·rw[if_pos i,if_pos mR]
  ·rw[if_neg i,if_neg mR]
theorem Sp:∀(l:List It) (k:Nat) (x:It),k<l.length->((l.flatMap C4).set (k*2) x.1).set (k*2+1) x.2=(l.set k x).flatMap C4
 | [],k,x,h=>by simp at h
 | y::l,0,x,_=>by simp[C4]
 | y::l,k+1,x,h=>by have:=Sp l k x (by simpa using h);rw[show (k+1)*2=k*2+2 by omega,List.flatMap_cons,List.set_cons_succ,List.flatMap_cons,<-this];simp[C4]
theorem Xi(H:Nat->It)(n:Nat):((D3 H n 0).flatMap C4).toArray=Array.replicate (n*2) (nE nM 0):=by
 have e:D3 H n 0=List.replicate n (0,0):=by
  unfold D3;apply List.ext_getElem?;intro t;by_cases i:t<n
  ·simp[i]
  ·rw[nG (by simpa using i),nG (by simpa using i)]
 rw[e];induction n with
 | zero=>simp
 | succ n o=>
  have l:D3 H n 0=List.replicate n (0,0):=by
   unfold D3;apply List.ext_getElem?;intro t;by_cases i:t<n
   ·simp[i]
   ·rw[nG (by simpa using i),nG (by simpa using i)]
  have j:=congrArg Array.toList (o l);simp only[Array.toList_replicate]at j;apply Array.toList_inj.1;rw[List.replicate_succ,List.flatMap_cons,Array.toList_replicate,show (n+1)*2=n*2+1+1 by omega,List.replicate_succ,List.replicate_succ];simpa [C4] using j
def bG(R:n<=1000000)(y:nS):(Instr.makeSlice 152 (nE nM (n:Nat)) (nE nM (n:Nat))).run Tryz.prog y=.ok (nC (y,0) n n) (y.alloc (nO (Array.replicate (n*2) (nE nM 0)) 158)):=by
 obtain⟨i,o,t,C,I⟩:=info_parts (show (Tryz.prog.info? 158).map (fun i=>(i.zero,i.size,i.bytes))=nJ (nJ (.agg #[nE nM 0,nE nM 0]),2,16) by kernel_rfl);have l:(i.bytes:Int)*(n:Int)<=281474976710656:=by rw[I];omega
 have p:=run_make (P:=Tryz.prog) y 152 158 i (.agg #[nE nM 0,nE nM 0]) underlying152 o t nM nM n n mR (Int.le_refl _) l mR;rw[p,C,Int.toNat_natCast];congr 4;unfold madeCells;apply Array.ext
 ·simp
 ·intro j J P
  simp[Value.cells];have:j%2=0\/j%2=1:=by omega
  rcases this with h|h<;>simp[h]
def MS{w:nS}{B b:Nat}{sz:Nat}(h:Ah w b e XS.toArray)(j:B<=b)(i:XS.length=n*sz)(l:n<=1000000):w.ownsRow B e sz (nC (b,0) n n) n XS:=
 ⟨i,.inr ⟨b,n,XS.toArray,rfl,j,h,AF _,mW,by simp[i],by simp[<-i]⟩⟩
def Rt(w wr:nS)(b:Nat):Prop:=b<w.heap.size\/(w.heap.size<=b/\∃j,Ah wr b 3 j)
def BX.rt{w wr w2:nS}{l:List Nat}(h:BX (Rt w wr) wr v l)(R:w.heap.size<=wr.heap.size)(P:wr.heap.size<=w2.heap.size)(I:∀b,b<wr.heap.size->Rt w wr b->w2.heap[b]?=wr.heap[b]?):BX (Rt w w2) w2 v l:=by
 have J:∀b,Rt w wr b->b<wr.heap.size:=fun b j=>by
  rcases j with o|⟨o,t,p⟩
  ·omega
  ·exact p.lt
 have C:Bm (Rt w wr) wr w2:=fun b j=>I b (J b j) j
 refine h.Bu (fun b j=>?_) P C;rcases id j with o|⟨o,t,p⟩
 ·exact .inl o
 ·exact .inr ⟨o,t,(C b j).trans p⟩
def KO(z:Nat×nU):List nU:=[nE nM z.1,z.2]
structure G9(w wr:nS)(B:Nat)(g:Gz)(k:Nat)(rv:nU)(Z:List (Nat×nU)):Prop where
 size:w.heap.size<=B/\B<=wr.heap.size
 len:Z.length=k
 row:wr.ownsRow B 145 2 rv Z.length (Z.flatMap KO)
 is:∀(j:Nat) (x:Nat×nU),Z[j]?=nJ x->x.1=(g.AX j).1/\BX (Rt w wr) wr x.2 (g.right j)
variable{w:nS}{B k:Nat}{Z:List (Nat×nU)}
def G9.later{wr w2:nS}{g:Gz}{rv:nU}(h:G9 w wr B g k rv Z)(l:Below wr wr w2):G9 w w2 B g k rv Z:=
 ⟨⟨h.size.1,AY h.size.2 l.size⟩,h.len,AV h.row l,fun j x o=>⟨(h.is j x o).1,(h.is j x o).2.rt (AY h.size.1 h.size.2) l.size (fun b p _=>l.block b p)⟩⟩
def G9.more{l wc:nS}{g:Gz}{rv:nU}(h:G9 w l B g k rv Z){x:nU}(hx:BX (Rt w l) l x (g.right k)){A:Option Addr}{c:Nat}(r1:wc.ownsRow B 145 2 (nC A (Z.length+1) c) (Z.length+1) (Z.flatMap KO++[nE nM ((g.AX k).1:Nat),x]))(r2:AI B [145] l wc)
  {tb:Nat}  (T:Ah wc tb 100 cs) (hB:w.heap.size<=tb) (u:nU):G9 w (wc.setCell (tb,0) u) B g (k+1) (nC A (Z.length+1) c) (Z++[((g.AX k).1,x)]):=by
 have P:∀b,b<l.heap.size->Rt w l b->(wc.setCell (tb,0) u).heap[b]?=l.heap[b]?:=fun b hb R=>by
  have o:wc.heap[b]?=l.heap[b]?:=r2.block b hb (by
   rcases R with o|⟨_,C,o⟩
   ·exact .inl (AK o h.size.1)
   ·refine .inr fun a2 a3 m J=>?_
    unfold Ah at o;rw[o]at J;cases J
    decide)
  have a1:b≠tb:=by
   rcases R with I|⟨_,C,I⟩
   ·omega
   ·have h3:Ah wc b 3 C:=o.trans I
    exact Ah.Bh h3 T mT
  exact(Below.heap_setCell _ _ _ _ a1).trans o
 have t:l.heap.size<=(wc.setCell (tb,0) u).heap.size:=by simpa [World.setCell] using r2.size
 have U:=AY h.size.1 h.size.2;refine⟨⟨h.size.1,AY h.size.2 t⟩,by simp[h.len],?_,fun j y p=>?_⟩
 ·rw[BS,List.flatMap_append]
  exact Ee r1 (p:=⟨tb,0,nK⟩) (DL r1 T mT) u
 ·by_cases hj:j<Z.length
  ·rw[gL hj]at p
   exact⟨(h.is j y p).1,(h.is j y p).2.rt U t P⟩
  ·rw[List.getElem?_append_right mR]at p
   have a0:j-Z.length=0:=by have:=(sG.1 p).1;simpa using this
   rw[a0]at p;cases p
   have:j=k:=by have:=h.len;omega
   subst this;exact⟨rfl,hx.rt U t P⟩
def G9.done{wr:nS}{g:Gz}{rv:nU}(h:G9 w wr B g (g.R.length+1) rv Z)(hn:g.R.length<=300){tb rb:Nat}{T:Array nU}(P:Ah wr tb 100 cs)(J:Ah wr rb 100 T)(hB:w.heap.size<=tb)(a1:w.heap.size<=rb):Im (fun b=>b<wr.heap.size/\b≠tb/\b≠rb) wr rv g:=by
 unfold Im;have hl:=h.len;rw[<-hl];refine Bo.Lw h.row mR (fun b U a2 o=>⟨o.lt,Ah.Bh o P mT,Ah.Bh o J mT⟩) (fun i j x C I hx=>?_);obtain⟨z,R⟩:∃z,Z[i]?=nJ z:=⟨_,eG C⟩
 obtain⟨_,a0⟩:=sG.1 R;have p:=CR KO 2 (fun _=>rfl) Z i j C I;rw[hx,a0]at p;obtain⟨h1,h2⟩:=h.is i z R
 match j,I with
 | 0,_=>rw[if_pos rfl];cases p;rw[h1]
 | 1,_=>
  rw[if_neg mR];cases p
  refine h2.mono (fun b hb=>?_);rcases hb with t|⟨t,U,l⟩
  ·exact⟨AK t (AY h.size.1 h.size.2),mR,mR⟩
  ·exact⟨l.lt,Ah.Bh l P mT,Ah.Bh l J mT⟩
structure Gv(w1 wr:nS)(tb:Nat)(g:Gz)(E:List (List It))(K:List (List (Nat×Nat)))(i:Nat)(rv av gv:nU)(ZA:List (nU×List It))(ZG:List (nU×List Int))(ds:List Deferred):Prop where
 Ay:Aj (·=tb) w1 wr
 lt:tb<w1.heap.size
 Cp:Ah wr tb 100 #[rv,g.nt,g.nn,av,gv]
 za:ZA.map (·.2)=(List.range i).map (EA g E K)
 zg:ZG.map (·.2)=(List.range i).map (EO g E)
 JX:wr.ownsRow w1 152 1 av ZA.length (ZA.map (·.1))
 Mo:∀z∈ZA,wr.ownsRow w1 158 2 z.1 z.2.length (z.2.flatMap C4)
 goto:wr.ownsRow w1 34 1 gv ZG.length (ZG.map (·.1))
 Mq:∀z∈ZG,wr.ownsRow w1 3 1 z.1 z.2.length (z.2.map BZ)
 marks:Ck w1.heap.size wr ds
variable{g:Gz}{E:List (List It)}{K:List (List (Nat×Nat))}
section
variable {w1 wr w':nS} {tb rb:Nat} {g:Gz} {E:List (List It)} {K:List (List (Nat×Nat))} {i:Nat} {rv av gv:nU} {ZA:List (nU×List It)} {ZG:List (nU×List Int)} {ds:List Deferred}
def Ck.later(h:Ck B wr ds)(l:Below wr wr w'):Ck B w' ds:=h.Bu fun D _ j _=>(l.block D (aG.1 j).1).trans j
def Ck.keeps{o:Nat}{T:List TypeId}(h:Ck B wr ds)(p:AI o T wr w'):Ck B w' ds:=h.Bu fun D _ j _=>(p.block D (aG.1 j).1 (.inr fun C t m l=>by rw[j]at l;cases l)).trans j
def Ck.stored{b:Nat}{t:TypeId}(h:Ck B wr ds)(l:Ah wr b t cs)(j:Nat)(u:nU):Ck B (wr.setCell (b,j) u) ds:=h.Bu fun D _ o _=>(Below.heap_setCell _ _ _ _ (fun e=>by have e:D=b:=e;subst e;unfold Ah at l;rw[o]at l;cases l)).trans o
def Gv.later(h:Gv w1 wr tb g E K i rv av gv ZA ZG ds)(j:Below wr wr w'):Gv w1 w' tb g E K i rv av gv ZA ZG ds:=
 ⟨h.Ay.next (Aj.AJ j),h.lt,h.Cp.below j h.Cp.lt,h.za,h.zg,AV h.JX j,fun z l=>AV (h.Mo z l) j,AV h.goto j,fun z l=>AV (h.Mq z l) j,h.marks.later j⟩
def Gv.marked(h:Gv w1 wr tb g E K i rv av gv ZA ZG ds){j:List Deferred}(l:Ck w1.heap.size wr j):Gv w1 wr tb g E K i rv av gv ZA ZG j:=
 ⟨h.Ay,h.lt,h.Cp,h.za,h.zg,h.JX,h.Mo,h.goto,h.Mq,l⟩
def Gv.more(h:Gv w1 wr tb g E K i rv av gv ZA ZG ds){T U:nU}(ha:wr.ownsRow w1 158 2 T (EA g E K i).length ((EA g E K i).flatMap C4))(hg:wr.ownsRow w1 3 1 U (EO g E i).length ((EO g E i).map BZ))
  (o:AI w1 [152,34] wr w') {j l:nU} (ka:w'.ownsRow w1 152 1 j (ZA.length+1) (ZA.map (·.1)++[T])) (kg:w'.ownsRow w1 34 1 l (ZG.length+1) (ZG.map (·.1)++[U])) :
  Gv w1 ((w'.setCell (tb,3) j).setCell (tb,4) l) tb g E K (i+1) rv j l (ZA++[(T,EA g E K i)]) (ZG++[(U,EO g E i)]) ds:=by
 have hs:=h.Ay.size;have P:Ah w' tb 100 #[rv,g.nt,g.nn,av,gv]:=o.Ap h.Cp (.inr mT);have a0:Ah (w'.setCell (tb,3) j) tb 100 #[rv,g.nt,g.nn,j,gv]:=by simpa using P.AW 3 j
 have a3:Ah ((w'.setCell (tb,3) j).setCell (tb,4) l) tb 100 #[rv,g.nt,g.nn,j,l]:=by simpa using a0.AW 4 l
 have a1:Aj (·=tb) w1 w':=h.Ay.trans (Y:=fun b=>w1.heap.size<=b) ⟨o.os,o.tape,o.output,o.size,fun k a2 hx=>o.block k a2 (.inl mR)⟩ (fun b hb hx=>by omega);have hc:Aj (·=tb) w1 ((w'.setCell (tb,3) j).setCell (tb,4) l):=(a1.set (p:=⟨tb,3,nK⟩) (.inr rfl) _).set (p:=⟨tb,4,nK⟩) (.inr rfl) _;have BC:∀{e:TypeId} {C n:Nat} {v:nU} {I:List nU},w'.ownsRow w1 e C v n I->e≠100->((w'.setCell (tb,3) j).setCell (tb,4) l).ownsRow w1 e C v n I:=fun t J=>Ee (Ee t (p:=⟨tb,3,nK⟩) (DL t P J) _) (p:=⟨tb,4,nK⟩) (DL t P J) _
 have Bu:∀{e:TypeId} {C n:Nat} {v:nU} {I:List nU},wr.ownsRow w1 e C v n I->e ∉ [152,34]->w'.ownsRow w1 e C v n I:=fun t J=>o.own t (.inr J)
 refine⟨hc,h.lt,a3,?_,?_,?_,fun z R=>?_,?_,fun z R=>?_,((h.marks.keeps o).stored P 3 _).stored a0 4 _⟩
 ·rw[Bz,h.za,List.range_succ,Bz];rfl
 ·rw[Bz,h.zg,List.range_succ,Bz];rfl
 ·rw[Bz,BS]
  exact BC ka mT
 ·rcases mA.1 R with p|p
  ·exact BC (Bu (h.Mo z p) mT) mT
  ·rw[mS.1 p]
   exact BC (Bu ha mT) mT
 ·rw[Bz,BS]
  exact BC kg mT
 ·rcases mA.1 R with p|p
  ·exact BC (Bu (h.Mq z p) mT) mT
  ·rw[mS.1 p]
   exact BC (Bu hg mT) mT
def lA(l:List It)(k:Nat):(l.flatMap C4)[k*2]?=l[k]?.map (fun x=>Value.int nM x.1)/\(l.flatMap C4)[k*2+1]?=l[k]?.map (fun x=>Value.int nM x.2):=by
 by_cases j:k<l.length
 ·have h0:=CR C4 2 (fun _=>rfl) l k 0 j mR
  have o:=CR C4 2 (fun _=>rfl) l k 1 j mR;rw[Nat.add_zero]at h0;rw[h0,o,eG j];exact⟨rfl,rfl⟩
 ·have p:=LB C4 2 (fun _=>rfl) l
  rw[nG mR,nG mR,nG mR];exact⟨rfl,rfl⟩
theorem aZ{l:List It}(h:w.ownsRow B 158 2 v l.length (l.flatMap C4))(P:l.length<=1000000)(C:∀b cs,B<=b->Ah w b 158 cs->A b):D6 A w v l:=by
 refine Bo.Lw h P C (fun i j x I J o=>?_);obtain⟨h0,t⟩:=lA l i;have p:l[i]?=nJ (l.getD i (0,0)):=by rw[dG,eG I];rfl
 match j,J with
 | 0,_=>
  rw[Nat.add_zero,h0,p]at o;cases o
  rfl
 | 1,_=>
  rw[t,p]at o;cases o
  rfl
def iM(h:w.ownsRow B 3 1 v l.length (l.map BZ))(C:l.length<=1000000)(t:∀b cs,B<=b->Ah w b 3 cs->A b):GG A w v l:=by
 refine Bo.Lw h C t (fun i j x o I p=>?_);obtain rfl:j=0:=by omega
 rw[Nat.mul_one,Nat.add_zero,pG,eG o]at p;cases p
 rw[dG,eG o];rfl
def Gv.done(h:Gv w1 wr tb g E K E.length rv av gv ZA ZG ds)(hr:Im (fun b=>b<w1.heap.size/\b≠tb/\b≠rb) w1 rv g)(hn:E.length<=1000000)(a2:g.nt<=120)(a1:g.nn<=120)(a3:rb<w1.heap.size)(a4:tb<w1.heap.size) :
  EP (fun b=>(b<wr.heap.size/\b≠tb/\b≠rb)/\¬(w1.heap.size<=b/\wr.heap[b]?=nJ (.deferred (nJ [])))) wr (.agg #[rv,g.nt,g.nn,av,gv]) g E K:=by
 have hs:=h.Ay.size;have R:ZA.length=E.length:=by simpa using congrArg List.length h.za
 have T:ZG.length=E.length:=by simpa using congrArg List.length h.zg
 have I:∀{a0:TypeId} (b:Nat) (P:Array nU),w1.heap.size<=b->Ah wr b a0 P->(b<wr.heap.size/\b≠tb/\b≠rb)/\¬(w1.heap.size<=b/\wr.heap[b]?=nJ (.deferred (nJ []))):=fun b P t o=>⟨⟨o.lt,mR,mR⟩,fun p=>by unfold Ah at o;rw[p.2]at o;cases o⟩
 refine⟨rv,av,gv,rfl,(hr.Ay h.Ay (fun b J=>J.2.1)).mono (fun b J=>⟨⟨AK J.1 hs,J.2⟩,fun p=>by omega⟩),?_,?_⟩
 ·rw[<-R]
  refine Bo.Lw h.JX mR I (fun i j x l U C=>?_);obtain rfl:j=0:=by omega
  rw[Nat.mul_one,Nat.add_zero,pG,eG l]at C;cases C
  have t:=h.Mo _ (List.getElem_mem l);have o:ZA[i].2=EA g E K i:=by have p:=congrArg (·[i]?) h.za;simp only[pG,eG l,List.getElem?_range (R▸l),Option.map_some]at p;exact Option.some.inj p
  rw[o]at t;exact aZ t (by simp[EA];omega) I
 ·rw[<-T]
  refine Bo.Lw h.goto mR I (fun i j x l U C=>?_);obtain rfl:j=0:=by omega
  rw[Nat.mul_one,Nat.add_zero,pG,eG l]at C;cases C
  have t:=h.Mq _ (List.getElem_mem l);have o:ZG[i].2=EO g E i:=by have p:=congrArg (·[i]?) h.zg;simp only[pG,eG l,List.getElem?_range (T▸l),Option.map_some]at p;exact Option.some.inj p
  rw[o]at t;exact iM t (by simp[EO];omega) I
end
def Fc(G:Nat->Int)(n k:Nat):List Int:=(List.range n).map fun t=>if t<k then G t else 0
def iS(G:Nat->Int)(l:k<n):Fc G n (k+1)=(Fc G n k).set k (G k):=by
 apply List.ext_getElem?;intro t;by_cases j:t<n
 ·by_cases e:t=k
  ·subst e
   rw[tG (by simp[Fc];exact j)];simp[Fc,j]
  ·rw[uG (Ne.symm e)]
   simp only[Fc,pG,List.getElem?_range j,Option.map_some];by_cases h:t<k
   ·rw[if_pos h,if_pos mR]
   ·rw[if_neg h,if_neg mR]
 ·rw[nG (by simp[Fc];omega),nG (by simp[Fc];omega)]
def Yw(G:Nat->Int)(n:Nat):Fc G n n=(List.range n).map G:=by
 unfold Fc;refine List.map_congr_left fun t j=>?_
 rw[if_pos (List.mem_range.1 j)]
def gY(G:Nat->Int)(n:Nat):((Fc G n 0).map BZ).toArray=Array.replicate n (nE nM 0):=by apply Array.toList_inj.1;rw[Array.toList_replicate];simp[Fc,BZ,List.map_const']
section
attribute [local go_sem] Oper.semAt_some
def jJ(P:Program)(fn:Func)(R:Ending->nS->Prop):Exit->Act->nS->Prop
 | .normal,a,w | .ret,a,w=>LeavesInM Fence.wide 0 P fn a.tmps R a.defers .returning w
 | _,_,_=>False
theorem YD{P:Program}{f:FuncId}{fn:Func}{c:Code}{args:Array nU}{R:Ending->nS->Prop}(j:P.funcs[f]?=nJ fn)(i:fn.body=nJ c)
  (h:c.wp P (jJ P fn R) {tmps:=args++Array.replicate (fn.ntmps-args.size) undef,defers:=[]} w):Calls P f args w R:=by
 refine(callsIn_wide (n:=0)).1 (callsIn_of_wp_marks j i trivial (wpIn_wide.2 (Code.wp_mono ?_ h)) rfl);intro e a w h;cases e with
 | normal=>exact h
 | ret=>exact h
 | panic o=>exact h.elim
 | exit id=>exact h.elim
 | goto l=>exact h.elim
 | outgrown=>exact h.elim
def S7(y:nS)(g:Gz)(L E:List (List It))(K:List (List (Nat×Nat)))(e:Ending)(w':nS):Prop:=∃i,e=nP (.tuple #[i,nE nM 0])/\GV w' i g L E K/\Below y y w'
def RT(w:nS)(g:Gz)(E:List (List It))(K:List (List (Nat×Nat)))(e:Ending)(w':nS):Prop:=∃i,e=nP (.tuple #[i,nE nM 0])/\EP (fun b=>b<w'.heap.size) w' i g E K/\Below w w w'
def GV.form(h:GV w v g L E K)(o:K.length=L.length):∃i l j co,v=.agg #[g.R.length,nC i L.length l,nC j L.length co]:=by obtain⟨R,P,V,rfl,⟨⟨i,l,rfl,-,t⟩,⟨p,C⟩,hit,J,-⟩,⟨j,co,rfl,-,-,I⟩⟩:=h;exact⟨i,l,j,co,by rw[o,p]⟩
def Q3(j rb mb tb:Nat)(l o p:nU)(f:Nat->nU)(i:List Deferred):Act:={tmps:=#[f 0,nF (nJ ⟨j,0,nK⟩),nF (nJ ⟨rb,0,nK⟩),nE nM 0,nF (nJ ⟨mb,0,nK⟩),f 5,nF (nJ ⟨tb,0,nK⟩),f 7,f 8,f 9,f 10,f 11,f 12,f 13,f 14,f 15,f 16,f 17,f 18,f 19,f 20,f 21,f 22,f 23,f 24,f 25,f 26,f 27,f 28,f 29,f 30,f 31,f 32,f 33,f 34,f 35,f 36,f 37,f 38,f 39,f 40,f 41,f 42,f 43,f 44,f 45,f 46,f 47,f 48,f 49,f 50,f 51,f 52,f 53,f 54,f 55,f 56,f 57,f 58,f 59,f 60,f 61,f 62,f 63,l,o,p,f 67,f 68,f 69,f 70,f 71,f 72,f 73,f 74,f 75,f 76,f 77,f 78,f 79,f 80,f 81,f 82,f 83,f 84,f 85,f 86,f 87,f 88,f 89,f 90,f 91,f 92,f 93,f 94,f 95,f 96,f 97,f 98,f 99,f 100,f 101,f 102,f 103,f 104,f 105,f 106,f 107,f 108,f 109,f 110,f 111,f 112,f 113,f 114,f 115,f 116,f 117,f 118,f 119,f 120,f 121,f 122,f 123,f 124,f 125,f 126,f 127,f 128,f 129,f 130],defers:=i}
def UA(l rb mb tb o J:Nat)(i p t C I:nU)(f:Nat->nU)(j:List Deferred):Act:={tmps:=#[f 0,nF (nJ ⟨l,0,nK⟩),nF (nJ ⟨rb,0,nK⟩),nE nM 0,nF (nJ ⟨mb,0,nK⟩),f 5,nF (nJ ⟨tb,0,nK⟩),f 7,f 8,f 9,i,nF (nJ ⟨o,0,nK⟩),nF (nJ ⟨J,0,nK⟩),f 13,f 14,f 15,f 16,f 17,f 18,f 19,f 20,f 21,f 22,f 23,f 24,f 25,f 26,f 27,f 28,f 29,f 30,f 31,f 32,f 33,f 34,f 35,f 36,f 37,f 38,f 39,f 40,f 41,f 42,f 43,f 44,f 45,f 46,f 47,f 48,f 49,f 50,f 51,f 52,f 53,f 54,f 55,f 56,f 57,f 58,f 59,f 60,f 61,f 62,f 63,p,t,i,f 67,f 68,f 69,f 70,f 71,f 72,f 73,f 74,f 75,C,I,f 78,f 79,f 80,f 81,f 82,f 83,f 84,f 85,f 86,f 87,f 88,f 89,f 90,f 91,f 92,f 93,f 94,f 95,f 96,f 97,f 98,f 99,f 100,f 101,f 102,f 103,f 104,f 105,f 106,f 107,f 108,f 109,f 110,f 111,f 112,f 113,f 114,f 115,f 116,f 117,f 118,f 119,f 120,f 121,f 122,f 123,f 124,f 125,f 126,f 127,f 128,f 129,f 130],defers:=j}
def Mb(o y z:nS)(l p i n:Nat)(iv tv:nU)(H:Nat->It)(k:Nat)(j:List Deferred):Prop:=
 Below y y z/\Ah z l 151 #[iv,tv]/\Ah z p 152 #[nC (i,0) n n]/\Ah z i 158 ((D3 H n k).flatMap C4).toArray/\Ck o.heap.size z j
def Wo:El Tryz.prog 56 145 2 32:=El.of (z:=.agg #[nE nM 0,nC nK 0 0]) underlying56 mU rfl mT
def OJ:El Tryz.prog 97 152 1 24:=El.of (z:=nC nK 0 0) underlying97 mU rfl mT
def lZ(hg:GN w v g)(hs:Sz g L E K)(hc:Calm g E K)
  (b1:∀y,Below w w y->() 78 #[v] y (S7 y g L E K)):() 44 #[v] w (RT w g E K):=by
 have HG:=Hd hg;have HS:=Hd hs;have ez:=Hd b1;have en:Hid (∀y mv,GV y mv g L E K->() 79 #[mv,g.nt] y fun e w'=>e=nP (nC nK 0 0)/\Below y y w'):=Hd (fun y mv h=>Xh h hs hc);obtain⟨AT,cT,AN,cN,AR,cR,rfl,-,-⟩:=hg.open_;have ep:=Hd (Ah.new w 58 #[nC AT g.nt cT,nC AN g.nn cN,nC AR g.R.length cR,g.s]);have da:=Hd (AE w (nO #[nC AT g.nt cT,nC AN g.nn cN,nC AR g.R.length cR,g.s] 58));have de:=Hd (ep.alloc (nO #[nC nK 0 0,nE nM 0,nE nM 0,nC nK 0 0,nC nK 0 0] 100))
 have dj:=Hd (Ah.new (w.alloc (nO #[nC AT g.nt cT,nC AN g.nn cN,nC AR g.R.length cR,g.s] 58)) 100 #[nC nK 0 0,nE nM 0,nE nM 0,nC nK 0 0,nC nK 0 0]);have a7:=Hd (da.alloc da.size (nO #[nC nK 0 0,nE nM 0,nE nM 0,nC nK 0 0,nC nK 0 0] 100));have j3:=hg.fit.nr;have jw:=hs.nt;have jv:=hg.fit.nn;clear hg hs hc b1 ep da;refine YD func44 rfl ?_;simp only[ntmps44,List.size_toArray,List.length_cons,List.length_nil,Nat.reduceAdd,Nat.reduceSub,Array.replicate_succ,Array.replicate_zero,List.push_toArray,List.append_toArray,List.nil_append,List.cons_append]
 go_wp2_with (first
  | (
    go_at_call 78;refine(ez _ a7).mono ?_;rintro e J ⟨mv,rfl,hM,cv⟩
    obtain⟨AL,cL,Ao,co,jl⟩:=hM.form HS.k;subst jl;have HM:=Hd hM;have ei:=Hd (a7.trans (cv.mono a7.size));have ak:=Hd (de.below cv de.lt);have cl:=Hd (dj.below cv dj.lt);have eo:=Hd (en (J.alloc (nO #[g.R.length,nC AL L.length cL,nC Ao L.length co] 139)) _ (hM.later (AE _ _)));have g0:=Ah.cell ak 0;have g1:=Ah.cell ak 1;have g2:=Ah.cell ak 2;have g3:=Ah.cell ak 3;have gl:=ak.lt;simp at g0 g1 g2 g3;clear hM cv)
  | (
    go_at_call 79;refine eo.mono ?_;rintro e w3 ⟨rfl,bt⟩
    have au:=Hd ((ak.alloc (nO #[g.R.length,nC AL L.length cL,nC Ao L.length co] 139)).below bt (ak.alloc _).lt);have fb:=Hd ((cl.alloc (nO #[g.R.length,nC AL L.length cL,nC Ao L.length co] 139)).below bt (cl.alloc _).lt);have df:=Hd ((Ah.new J 139 #[g.R.length,nC AL L.length cL,nC Ao L.length co]).below bt mV);have db:Hid (Below J J w3):=Hd ((AE J _).trans (bt.mono mV));have x0:=Ah.cell au 0;have x1:=Ah.cell au 1;have x2:=Ah.cell au 2
    have x3:=Ah.cell au 3;have xl:=au.lt;simp at x0 x1 x2 x3;clear bt g0 g1 g2 g3 gl))
 clear en ez eo;have ff:=Hd (fun(y:nS) (hy:Below w w y) (k:Nat) (hk:k<=g.R.length)=>Ri HG hy hk);have a4:Hid (w.heap.size+1<J.heap.size/\J.heap.size<w3.heap.size):=Hd ⟨by have h:=cl.lt;simpa using h,df.lt⟩;have HT:=Hd (Ah.new w3 100 #[nC nK 0 0,g.nt,g.nn,nC nK 0 0,nC nK 0 0]);have es:=Hd (au.alloc (nO #[nC nK 0 0,g.nt,g.nn,nC nK 0 0,nC nK 0 0] 100));have dn:=Hd (fb.alloc (nO #[nC nK 0 0,g.nt,g.nn,nC nK 0 0,nC nK 0 0] 100))
 have f2:=Hd (df.alloc (nO #[nC nK 0 0,g.nt,g.nn,nC nK 0 0,nC nK 0 0] 100));have bj:Hid (Below J J (w3.alloc (nO #[nC nK 0 0,g.nt,g.nn,nC nK 0 0,nC nK 0 0] 100))):=Hd (db.alloc db.size _);have it:Hid ((w3.alloc (nO #[nC nK 0 0,g.nt,g.nn,nC nK 0 0,nC nK 0 0] 100)).heap.size=w3.heap.size+1):=Hd mV;have a3:(w.alloc (nO #[nC AT g.nt cT,nC AN g.nn cN,nC AR g.R.length cR,g.s] 58)).heap.size=w.heap.size+1:=by simp
 rw[a3]at dn;clear de dj a7 ak cl au fb df db x0 x1 x2 x3 xl a3;generalize w3.alloc (nO #[nC nK 0 0,g.nt,g.nn,nC nK 0 0,nC nK 0 0] 100)=W at *;generalize w3.heap.size=T at *;generalize gm:J.heap.size=mb at *;have dg:=Hd gm;clear gm;have ev:Hid (G9 w W W.heap.size g 0 (nC nK 0 0) []):=Hd ⟨⟨by have p:=bj.size;have P:=a4.out;have U:=it.out;omega,AF _⟩,rfl,⟨rfl,.inl ⟨rfl,rfl⟩⟩,fun j x hx=>by cases hx⟩;go_loopw [47] (fun kk wr=>∃(k:Nat) (rv:nU) (Z:List (Nat×nU)),k<=g.R.length+1/\kk=nE nM k/\Hid (G9 w wr W.heap.size g k rv Z)/\Hid (Ah wr T 100 #[rv,g.nt,g.nn,nC nK 0 0,nC nK 0 0])/\Hid (Aj (·=T) W wr)) (fun kk _=>g.R.length+1-(intOf kk).toNat)
 case atStart=>exact⟨0,_,[],A0 _,rfl,ev,HT,Hd (Aj.refl _ _)⟩
 case round=>
  obtain⟨k,rv,Z,hk,rfl,aw,ax,ar⟩:=hrel;rename nS=>wr
  have bd:=ar.Ap es (by have:=a4.out;omega);have jz:=CS aw.row;obtain⟨ab,ad,rfl⟩:=jz;have dw:=aw.len;rw[dw]at aw ax;have x0:=Ah.cell bd 0;have x1:=Ah.cell bd 1;have x2:=Ah.cell bd 2;have x3:=Ah.cell bd 3;have t0:=Ah.cell ax 0;simp at x0 x1 x2 x3 t0;have an:=Hd dw;have ij:=Hd bd;clear bd dw;by_cases e6:k<g.R.length+1
  ·have dy:Below w w wr:=by
     have p:=ei.out;have P:Below w J W:=bj.mono (by have:=a4.out;omega);have U:Below w W wr:=ar.below (by have h4:=bj.size;have h5:=dg.out;have:=a4.out;omega) (fun j hj e=>by have:=a4.out;omega);exact(p.trans P).trans U
   have iq:=Hd (ff wr dy k mR);have dc:=Hd dy;clear dy;go_upto_region 11 with(first
     | (
       go_at_call 80;refine iq.mono ?_;rintro e y ⟨rk,rfl,hn,bb,gp,gq⟩
       obtain⟨⟨aq,ay,jy,-⟩,-,-⟩:=id hn;subst jy;have ik:Hid (BX (Rt w y) y (nC aq (g.right k).length ay) (g.right k)):=Hd (by
         by_cases ji:k<g.R.length
         · have p:=QO (gp ji)
           have ao:Below w w y:=dc.trans (bb.mono dc.size);exact p.Bu (fun b hb=>.inl hb) ao.size (fun b hb=>ao.block b hb)
         · obtain⟨b,hb,gj,cs,cw⟩:=gq mR
           refine⟨hn,fun b' dx _=>?_⟩;rw[hb]at dx;simp only[Value.ownBlock,Option.some.injEq]at dx;subst dx;exact .inr ⟨AY dc.size gj,cs,cw⟩)
       have aj:=Hd bb;have cn:=Hd (aw.later bb);have ir:Hid (y.ownsRow W 145 2 (nC ab k ad) k (Z.flatMap KO)):=Hd (by have h:=(aw.later bb).row;rw[an.out]at h;exact h);have dp:=Hd (ax.below bb ax.lt);have y0:=Ah.cell dp 0;have yl:=dp.lt;simp at y0;clear hn bb gp gq))
   go_wp2_with (first
     | (
       at_builtin;refine Du Wo (.tmp 57) (.tmp 59) rfl rfl (base:=W.heap.size) (n:=k) (m:=1) (N:=k+1) (xs:=Z.flatMap KO) (news:=[nE nM ((g.AX k).1:Nat),nC aq (g.right k).length ay]) rfl rfl (AV (AV ir (AE _ _)) (AE _ _)) (Ba.Ap (c:=1) (cs:=[nE nM ((g.AX k).1:Nat),nC aq (g.right k).length ay]) (Ah.newAt mV) rfl mZ) rfl mW mR (by have:=cn.size.2;simp;omega) ?_
       intro A9 c9 w9 r1 r2 r3;have bf:Ah w9 T 100 #[nC ab k ad,g.nt,g.nn,nC nK 0 0,nC nK 0 0]:=r2.Ap ((dp.alloc _).alloc _) (.inr mT);have f9:=bf.frozen 0;have b9:=bf.cell 0;have l9:=bf.lt;simp at b9;have bz:=(AE y (nO #[nE nM ((g.AX k).1:Nat),nC aq (g.right k).length ay] 145)).trans ((AE (y.alloc (nO #[nE nM ((g.AX k).1:Nat),nC aq (g.right k).length ay] 145)) (nO #[nE nM ((g.AX k).1:Nat),nC aq (g.right k).length ay] 145)).mono mV);have h3:w.heap.size<=y.heap.size:=AY cn.size.1 cn.size.2
       have hx:=ik.rt h3 bz.size (fun b hb _=>bz.block b hb);have ia:w9.ownsRow W 145 2 (nC A9 (Z.length+1) c9) (Z.length+1) (Z.flatMap KO++[nE nM ((g.AX k).1:Nat),nC aq (g.right k).length ay]):=by rw[an.out];exact r1
       have h9:=(cn.later bz).more hx ia r2 bf (by have:=a4.out;omega) (nC A9 (Z.length+1) c9);rw[an.out]at h9;have H9:=Hd h9;have iu:Hid (Ah (w9.setCell (T,0) (nC A9 (k+1) c9)) T 100 #[nC A9 (k+1) c9,g.nt,g.nn,nC nK 0 0,nC nK 0 0]):=Hd (by simpa using bf.AW 0 (nC A9 (k+1) c9));have ie:Hid (Aj (·=T) W (w9.setCell (T,0) (nC A9 (k+1) c9))):=Hd (((((ar.next (Aj.AJ aj)).next (Aj.AJ bz)).trans (Y:=fun b=>W.heap.size<=b) ⟨r2.os,r2.tape,r2.output,r2.size,fun i hi hx=>r2.block i hi (.inl mR)⟩ (fun b hb hx=>by omega))).set (p:=⟨T,0,nK⟩) (.inr rfl) _)
       clear bf bz h3 hx h9 r1 ia r2 r3))
   go_roundw
   case rel=>exact⟨k+1,_,_,mR,mY,H9,iu,ie⟩
   case measure=>simp[intOf];omega
  ·obtain rfl:k=g.R.length+1:=by omega
   have e7:=ar.Ap dn (by have:=a4.out;omega);have ip:=Hd (G9.done aw j3 ax e7 (by have:=a4.out;omega) mR);have a7:Hid (Below J J wr):=Hd (by have p:=bj.out;have P:=a4.out;have U:=dg.out;rw[U];exact p.trans (ar.below (by have:=p.size;omega) (fun j hj e=>by omega)))
   have cf:=Hd (ar.Ap f2 (by have:=a4.out;omega));have fc:=Hd e7;have fg:Hid (Gv wr wr T g E K 0 (nC ab (g.R.length+1) ad) (nC nK 0 0) (nC nK 0 0) [] [] []):=Hd ⟨Aj.refl _ _,ax.lt,ax,rfl,rfl,⟨rfl,.inl ⟨rfl,rfl⟩⟩,(fun z hz=>by cases hz),⟨rfl,.inl ⟨rfl,rfl⟩⟩,(fun z hz=>by cases hz),trivial⟩;have m0:=Ah.cell cf 0;have m1:=Ah.cell cf 1;have m2:=Ah.cell cf 2;simp at m0 m1 m2;have bl:Hid (L.length=E.length/\L.length<=1000000):=Hd ⟨HS.e.symm,HS.l⟩;clear e7 aw ar ij x0 x1 x2 x3 t0 an e6 hk ev HT es dn f2 bj ff
   go_wp2_with fail
   generalize gs:L.length=nL at *;have f6:=Hd gs;clear gs;rename nS=>t
   refine wp_loop_ghost_k (fun n a y=>∃(i:Nat) (av gv:nU) (I:List (nU×List It)) (ZG:List (nU×List Int)),i<=nL/\n=nL-i/\a=Q3 w.heap.size (w.heap.size+1) mb T (nC AL nL cL) nL (nE nM i) (fun j=>a.tmps.getD j undef) a.defers/\Hid (Gv t y T g E K i (nC ab (g.R.length+1) ad) av gv I ZG a.defers)) nL ?start ?round
   case start=>exact⟨0,_,_,[],[],A0 _,rfl,rfl,fg⟩
   case round=>
     intro n a y hI kf K2 hJ o;obtain⟨i,av,gv,I,ZG,hi,hn,ha,R⟩:=hI;obtain⟨f,hf⟩:∃f,(fun j=>a.tmps.getD j undef)=f:=⟨_,rfl⟩
     obtain⟨ds,az⟩:∃ds,a.defers=ds:=⟨_,rfl⟩
     rw[hf,az]at ha;rw[az]at R;clear hf az;subst ha;unfold Q3;subst hn;clear fg m0 m1 m2;have HJ:=Hd hJ;clear hJ;by_cases e6:i<nL
     ·obtain⟨kc,kg,kd,kh,b,off,Ai,ni,ci,At,nq,ct,b2,d9,Ak,nk,ck,hv,fr,fs,e3,gy,b0⟩:=HM.at_ (i:=i) (by rw[f6.out];exact e6) HS.k (HS.es i)
      simp at hv;obtain⟨⟨e1,-,-⟩,⟨e2,-,-⟩⟩:=hv;rw[<-e1]at fr;rw[<-e2]at fs;subst fr;subst fs;clear e1 e2;have aj:Hid (Below J J y):=Hd (a7.trans (R.Ay.below a7.size (fun j hj e=>by have:=a4.out;have:=dg.out;omega)));have em:=Hd e3;obtain⟨yb,l2,s0,s1,s2⟩:=e3 y aj;have f8:=Hd gy;have ew:=Hd b0;have ag:=R.Ay.Ap cf (by have:=a4.out;omega);have m0:=Ah.cell ag 0;have m1:=Ah.cell ag 1;have m2:=Ah.cell ag 2;have ml:=ag.lt;have t1:=Ah.cell R.Cp 1;have t2:=Ah.cell R.Cp 2;have tl:=R.Cp.lt;simp at m0 m1 m2 t1 t2
      have ch:=Hd ag;have kx:(i:Int)<(nL:Int):=by omega
      have ky:nL<=1000000:=bl.2;have b1:=fun(y:nS)=>bG (n:=g.nt+1) mR y
      have ec:((g.nt+1:Nat):Int)=(g.nt:Int)+1:=by omega
      simp only[ec]at b1;clear e3 gy b0 ag ec;go_wp2_with fail
      have e1:(y.alloc (nO #[nC Ai ni ci,nC At nq ct] 151)).heap.size=y.heap.size+1:=by simp
      have e2:((y.alloc (nO #[nC Ai ni ci,nC At nq ct] 151)).alloc (nO (Array.replicate ((g.nt+1)*2) (nE nM 0)) 158)).heap.size=y.heap.size+1+1:=by simp
      have fa:Hid (Mb t y (((y.alloc (nO #[nC Ai ni ci,nC At nq ct] 151)).alloc (nO (Array.replicate ((g.nt+1)*2) (nE nM 0)) 158)).alloc (nO #[nC (y.heap.size+1,0) (g.nt+1) (g.nt+1)] 152)) y.heap.size (y.heap.size+1+1) (y.heap.size+1) (g.nt+1) (nC Ai ni ci) (nC At nq ct) (Bp g E K i) 0 ds):=Hd ⟨((AE y _).alloc mR _).alloc mR _,((Ah.new y _ _).alloc _).alloc _,Ah.newAt e2,by rw[Xi];exact(Ah.newAt e1).alloc _,R.marks.later (((AE y _).alloc mR _).alloc mR _)⟩;clear e1 e2 s0 s1 s2 m0 m1 m2 t1 t2 b1
      generalize h1:y.heap.size=l at *;have bn:=Hd h1;clear h1;have ke:Hid (g.nt+1<=121):=Hd mR;refine wp_loop_ghost_k (fun n a z=>∃k:Nat,k<=g.nt+1/\n=g.nt+1-k/\a=UA w.heap.size (w.heap.size+1) mb T l (l+1+1) (nE nM i) (nC (nJ ⟨b,off,nK⟩) nL cL) nL (nE nM ((g.nt:Int)+1)) (nE nM k) (fun j=>a.tmps.getD j undef) a.defers/\Hid (Mb t y z l (l+1+1) (l+1) (g.nt+1) (nC Ai ni ci) (nC At nq ct) (Bp g E K i) k a.defers)) (g.nt+1) ?start5 ?round5
      case start5=>exact⟨0,A0 _,rfl,rfl,fa⟩
      case round5=>
        intro n a z hI J5 K5 ft ko;obtain⟨k,hk,hn,ha,cm⟩:=hI;obtain⟨f5,hf⟩:∃f,(fun j=>a.tmps.getD j undef)=f:=⟨_,rfl⟩
        obtain⟨cu,az⟩:∃ds,a.defers=ds:=⟨_,rfl⟩
        rw[hf,az]at ha;rw[az]at cm;clear hf az;subst ha;unfold UA;subst hn;clear fa;have et:=Hd ft;clear ft;obtain⟨ah,eg,c7,d8,d7⟩:=cm.out;by_cases b0:k<g.nt+1
        · have bi:Below J J z:=aj.trans (ah.mono aj.size)
          have d6:=AE z (nO #[nE nM k] 3);have d2:=Ah.new z 3 #[nE nM k];have kb:(z.alloc (nO #[nE nM k] 3)).heap.size=z.heap.size+1:=by simp
          have d5:Below J J (z.alloc (nO #[nE nM k] 3)):=bi.trans (d6.mono bi.size);have dr:Hid (Below y y (z.alloc (nO #[nE nM k] 3))):=Hd (ah.trans (d6.mono ah.size));have bq:Hid (Ah (z.alloc (nO #[nE nM k] 3)) l 151 #[nC Ai ni ci,nC At nq ct]):=Hd (eg.alloc _);have dt:Hid (Ah (z.alloc (nO #[nE nM k] 3)) (l+1+1) 152 #[nC (l+1,0) (g.nt+1) (g.nt+1)]):=Hd (c7.alloc _);have cr:Hid (Ah (z.alloc (nO #[nE nM k] 3)) (l+1) 158 ((D3 (Bp g E K i) (g.nt+1) k).flatMap C4).toArray):=Hd (d8.alloc _)
          have fi:Hid (Ck t.heap.size (z.alloc (nO #[nE nM k] 3)) cu):=Hd (d7.later d6);have b8:=Hd d5;have cq:=Hd d2;have an:Hid (l+1+1<z.heap.size/\J.heap.size<=l/\t.heap.size<=l):=Hd ⟨c7.lt,by have:=aj.size;have:=bn.out;omega,by have:=R.Ay.size;have:=bn.out;omega⟩;have cc:Hid (∀y',Below (z.alloc (nO #[nE nM k] 3)).heap.size (z.alloc (nO #[nE nM k] 3)) y'->y'.cell? (mb,0)=nJ (nE nM g.R.length)/\y'.cell? (mb,2)=nJ (nC (b2,d9) nL co)/\y'.cell? (l,0)=nJ (nC Ai ni ci)/\y'.cell? (l,1)=nJ (nC At nq ct)/\y'.cell? (b2,d9+i)=nJ (nC Ak nk ck)/\y'.cell? (z,0)=nJ (nE nM k)):=Hd (fun y' bh=>by
            have p:=(ch.below ah ch.lt).alloc (nO #[nE nM k] 3);have P:=p.below bh p.lt;have U:=bq.below bh bq.lt;have h4:=d2.below bh d2.lt;exact⟨P.cell 0,P.cell 2,U.cell 0,U.cell 1,(em y' (d5.trans (bh.mono d5.size))).2.2.2.2,h4.cell 0⟩)
          clear bi d6 d2 kb d5 ah eg c7 d8 d7 cm;have kr:(k:Int)<(g.nt:Int)+1:=by omega
          go_upto_region 20 with fail
          generalize z.alloc (nO #[nE nM k] 3)=z1 at *;obtain⟨c0,c1,c2,c3,c4,c5⟩:=cc z1 (Below.refl _ _);have dd:Hid (Below z1 z1 z1.drew):=Hd ((Below.refl z1.heap.size z1).drew);have HP:=Hd (fun y:nS=>Re (w:=y) (own:=g.R.length) (t:=k) (Ai:=Ai) (At:=At) (Ak:=Ak) (ni:=ni) (ci:=ci) (nt:=nq) (ct:=ct) (nk:=nk) (ck:=ck))
          go_region_held3 (fun v=>nQ v (mb,0)=nJ (nE nM g.R.length)/\nQ v (mb,2)=nJ (nC (b2,d9) nL co)/\nQ v (l,0)=nJ (nC Ai ni ci)/\nQ v (l,1)=nJ (nC At nq ct)/\nQ v (b2,d9+i)=nJ (nC Ak nk ck)/\nQ v (z,0)=nJ (nE nM k))
            (first|exact cc _ dd|exact cc _ ai)
            (first|(
                 go_at_call 81;refine(HP _).mono ?_;rintro e z2 ⟨i5,i6,i7,i9,rfl,p,P,U,h4,k1,k2,k3,k4,fy⟩
                 have ai:Hid (Below z1 z1 z2):=Hd (dd.trans fy);have f7:=Hd (And.intro (And.intro p (And.intro P (And.intro U h4))) (And.intro k1 (And.intro k2 (And.intro k3 k4))));clear p P U h4 k1 k2 k3 k4 fy))
          clear c0 c1 c2 c3 c4 c5 HP;go_wp2;obtain⟨⟨p,P,U,h4⟩,k1,k2,k3,k4⟩:=f7.out;have p:z1.heap.size<=i5:=p;have P:z1.heap.size<=i6:=P;have U:z1.heap.size<=i7:=U;have h4:z1.heap.size<=i9:=h4;have ao:Below J J z2:=b8.trans (ai.mono b8.size);have hA:∀b,(b<J.heap.size\/(z1.heap.size<=b/\b<z2.heap.size))->b<z2.heap.size:=fun b hb=>hb.elim (fun h=>AK h ao.size) (·.2)
          have e8:Bm (fun b=>b<J.heap.size) J z2:=fun b hb=>ao.block b hb
          have d3:=SG (A:=fun b=>b<J.heap.size\/(z1.heap.size<=b/\b<z2.heap.size)) (w:=z2) (m:=g.nt+1) b0 mR hA (.inr ⟨p,k1.lt⟩) (.inr ⟨P,k2.lt⟩) (.inr ⟨U,k3.lt⟩) (.inr ⟨h4,k4.lt⟩) k1 k2 k3 k4
            (f8.Bu (fun _=>.inl) ao.size e8) (ew.Bu (fun _=>.inl) ao.size e8)
          rw[<-U8]at d3;obtain⟨xs,ed⟩:∃xs,g.JR (E.getD i []) (K.getD i []) k=xs:=⟨_,rfl⟩
          rw[ed]at d3;have bp:Hid (Bp g E K i k=xs.headD (0,0)):=Hd (by unfold Bp;rw[ed]);have gu:¬(l+1<J.heap.size\/(z1.heap.size<=l+1/\l+1<z2.heap.size)):=by have q1:=an.out;have C:=cr.lt;omega
          have cp:=Hd d3;have cb:=Hd hA;have cj:=Hd gu;have b7:=Hd (cr.below ai cr.lt);have a8:=Hd (dt.below ai dt.lt);have cd:=Hd (cq.below ai cq.lt);have bo:=Hd (bq.below ai bq.lt);have b4:Hid (Below y y z2):=Hd (dr.trans (ai.mono dr.size));have b5:Hid (Ck t.heap.size z2 cu):=Hd (fi.later ai);have bm:Hid (z.heap.size<z2.heap.size/\l+1+1<z2.heap.size/\z.heap.size<z1.heap.size):=Hd ⟨cd.lt,a8.lt,cq.lt⟩;clear d3 hA ao e8 p P U h4 k1 k2 k3 k4 f7 cc ed gu dd cr dt cq bq dr fi
          refine(wpIn_wide (n:=0)).1 ?_;refine Lp (gf:=117) (lb:=#[nF (nJ ⟨i5,0,nK⟩),nF (nJ ⟨i6,0,nK⟩),nF (nJ ⟨i7,0,nK⟩),nF (nJ ⟨i9,0,nK⟩)]) rfl (fun _ _=>by kernel_rfl) cp cb (fun _=>rfl)
            (fun pre A' W'=>pre=[]/\¬A' (l+1)/\Below z2 z2 W') (fun c A' W'=>c=.exit 7/\Aj (·=l+1) z2 W'/\Ah W' (l+1) 158 ((D3 (Bp g E K i) (g.nt+1) (k+1)).flatMap C4).toArray) ?hI ?hIx ?h0 ?hround ?hdone ?hstop
          case hI=>rintro s A1 A2 iw U' ⟨p,P,U⟩ hc fq;refine⟨p,fun h=>(fq _ h).elim P (by have:=bm.out;have:=U.size;omega),U.trans (hc.below U.size (fun j hj h=>by omega))⟩
          case hIx=>rintro c s A1 A2 iw U' ⟨p,P,U⟩ hc fq;refine⟨p,P.trans hc (fun j hj h=>by omega),hc.Ap U (fun h=>by have:=bm.out;omega)⟩
          case h0=>exact⟨rfl,cj,Below.refl _ _⟩
          case hround=>
            rintro l1 pre x A5 W5 gx ks kt kn bx be ⟨rfl,aa,a6⟩;have HX:Hid (Bp g E K i k=x):=Hd (by obtain⟨rest,hr⟩:=gx;rw[bp.out,<-hr];rfl)
            obtain⟨xk,xn⟩:=x;obtain⟨W6,dv⟩:∃W6,W5.alloc (nO #[xk,xn] 158)=W6:=⟨_,rfl⟩
            have fz:Below W5 W5 W6:=by rw[<-dv];exact AE _ _
            have hw:Ah W6 W5.heap.size 158 #[xk,xn]:=by rw[<-dv];exact Ah.new _ _ _
            have kz:W6.heap.size=W5.heap.size+1:=by rw[<-dv];simp
            have ej:=Hd fz;have iv:=Hd hw;have ey:=Hd be;have eu:=Hd (And.intro aa a6);simp only[JD];clear fz hw be bx gx aa a6 bp cp cb cj;simp
            gi_wp2
            refine⟨mR,fun b hb=>ej.block b (ey b hb),fun W7 dz l0 r hr=>?_⟩;have bu:Aj (·=l1) z2 W7:=(((Aj.AJ eu.2).next (Aj.AJ ej))).next dz;have d4:Ah W7 W5.heap.size 158 #[xk,xn]:=dz.Ap iv mR;have bv:=bm.out;have b3:=bu.Ap b7 mR;have ee:=bu.Ap a8 mR;have e5:=bu.Ap cd mR;have jj:((D3 (Bp g E K i) (g.nt+1) k).flatMap C4).length=(g.nt+1)*2:=by rw[LB C4 2 (fun _=>rfl),Kp]
            have x0:=d4.cell 0;have x1:=d4.cell 1;have xl:=d4.lt;have y0:=ee.cell 0;have yl:=ee.lt;have w0:=e5.cell 0;have wl:=e5.lt;have f0:=b3.frozen (k*2);have f1:=b3.frozen (k*2+1);have rl:=b3.lt;obtain⟨u0,r0⟩:∃u,nQ W7 (l+1,k*2)=nJ u:=⟨_,(b3.cell (k*2)).trans (by rw[List.getElem?_toArray];exact eG mR)⟩
            obtain⟨u1,r1⟩:∃u,nQ W7 (l+1,k*2+1)=nJ u:=⟨_,(b3.cell (k*2+1)).trans (by rw[List.getElem?_toArray];exact eG mR)⟩
            simp at x0 x1 y0 w0;have ic:=Hd bu;have im:=Hd b3;clear bu d4 b3 ee e5 jj dz bv
            gi_wp2
            have e0:Aj (·=l+1) W7 ((W7.setCell (l+1,k*2) xk).setCell (l+1,k*2+1) xn):=((Aj.refl (·=l+1) W7).set (p:=⟨l+1,k*2,nK⟩) (.inr rfl) xk).set (p:=⟨l+1,k*2+1,nK⟩) (.inr rfl) xn;have jx:=(im.AW (k*2) xk).AW (k*2+1) xn;refine⟨e0.size,fun b hb=>e0.block b (by have:=ey b hb;omega) (fun e=>eu.1 (e▸hb)),rfl,((Aj.refl (·=l+1) z2).trans ic (fun j hj e=>by omega)).next e0,?_⟩;rw[Wi _ b0,HX.out,<-Sp _ _ _ (by rw[Kp];exact b0)];simpa using jx
          case hdone=>
            rintro D A5 W5 hD j1 bx be ⟨hx,aa,a6⟩ br;have hz:Bp g E K i k=(0,0):=by rw[bp.out,hx];rfl
            have bv:=bm.out;have dm:Hid (Mb t y W5 l (l+1+1) (l+1) (g.nt+1) (nC Ai ni ci) (nC At nq ct) (Bp g E K i) (k+1) ({target:=.collected D,args:=#[]}::cu)):=Hd ⟨b4.trans (a6.mono b4.size),bo.below a6 bo.lt,a8.below a6 a8.lt,by rw[lX _ b0 hz];exact b7.below a6 b7.lt,(b5.later a6).more (by have p:=an.out;omega) br (fun D' du=>by have:=b5.lt D' du;omega)⟩;clear bx be hx aa a6 br hz bv bp cp cb cj b7 a8 cd bo b4 b5;go_wp2;have ek:((k+1:Nat):Int)=(k:Int)+1:=by omega
            exact Handed.intro (g.nt+1-(k+1)) mR (et _ _ _ ⟨k+1,mR,rfl,by rw[ek];rfl,dm⟩)
          case hstop=>
            rintro D c A5 W5 hD j1 bx be ⟨rfl,aa,a6⟩ br;have bv:=bm.out;have gj:=an.out;have dm:Hid (Mb t y W5 l (l+1+1) (l+1) (g.nt+1) (nC Ai ni ci) (nC At nq ct) (Bp g E K i) (k+1) ({target:=.collected D,args:=#[]}::cu)):=Hd ⟨b4.trans (aa.below b4.size (fun j hj e=>by have:=bn.out;omega)),aa.Ap bo mR,aa.Ap a8 mR,a6,(b5.Ay aa (fun D' p P e=>by have U:=b7.out;have e:D'=l+1:=e;unfold Ah at U;rw[<-e,P]at U;cases U)).more mR br (fun D' du=>by have:=b5.lt D' du;omega)⟩
            clear bx be aa a6 br bv bp cp cb cj b7 a8 cd bo b4 b5;refine wpIn_wide.2 ?_;go_wp2;have ek:((k+1:Nat):Int)=(k:Int)+1:=by omega
            exact Handed.intro (g.nt+1-(k+1)) mR (et _ _ _ ⟨k+1,mR,rfl,by rw[ek];rfl,dm⟩)
        · obtain rfl:k=g.nt+1:=by omega
          have gz:z.ownsRow t 158 2 (nC (l+1,0) (g.nt+1) (g.nt+1)) (g.nt+1) ((EA g E K i).flatMap C4):=by have p:=MS (sz:=2) (n:=g.nt+1) (B:=t.heap.size) d8 (by have:=R.Ay.size;have:=bn.out;omega) (by rw[LB C4 2 (fun _=>rfl),Kp]) mR;rw[Wa]at p;exact p
          have fe:=Hd gz;have al:=Hd ((R.later ah).marked d7);have c6:Below J J z:=aj.trans (ah.mono aj.size);have b8:=Hd c6;have a8:=Hd c7;have dh:=Hd (ch.below ah ch.lt);have t2:=Ah.cell al.Cp 2;have tl:=al.Cp.lt;simp at t2;have b1:=fun y=>Ji (P:=Tryz.prog) (t:=34) (e:=3) (z:=nE nM 0) (bytes:=8) underlying34 mU rfl (l:=((g.nn:Nat):Int)) (n:=g.nn) rfl mR mR y
          clear gz ah eg c7 d8 d7 cm c6;go_wp2_with fail
          have ig:Hid (Below z z (z.alloc (nO (Array.replicate g.nn (nE nM 0)) 3))/\Ah (z.alloc (nO (Array.replicate g.nn (nE nM 0)) 3)) z.heap.size 3 ((Fc (fun c8=>DS (E.getD i []) (g.nt+1+c8)) g.nn 0).map BZ).toArray):=Hd ⟨AE z _,by rw[gY];exact Ah.new z _ _⟩;have er:Hid (∀y',Below J J y'->∀k:Nat,() 82 #[nC (nJ ⟨b,off,nK⟩) nL cL,nE nM i,nE nM ((g.nt:Int)+1+(k:Int))] y' fun e w'=>e=nP (nE nM (DS (E.getD i []) (g.nt+1+k)))/\Below y' y' w'):=Hd (fun y' bh k=>by obtain⟨lv,lo,V,hv,hA,-⟩:=HM.out;simp at hv;rw[<-hv.1]at hA;have p:=RR (hA.later bh) (i:=i) (s:=g.nt+1+k) (by have:=hA.len.1;have:=f6.out;omega);rwa [show ((g.nt+1+k:Nat):Int)=(g.nt:Int)+1+(k:Int) by omega]at p)
          clear t2 b1;go_loopw [101] (fun kk wr=>∃k:Nat,k<=g.nn/\kk=nE nM k/\Hid (Below z z wr/\Ah wr z.heap.size 3 ((Fc (fun c8=>DS (E.getD i []) (g.nt+1+c8)) g.nn k).map BZ).toArray)) (fun kk _=>g.nn-(intOf kk).toNat)
          case atStart=>exact⟨0,A0 _,rfl,ig⟩
          case round=>
            obtain⟨k,kp,rfl,b6⟩:=hrel;rename nS=>z9
            by_cases jk:k<g.nn
            ·have a2:=b6.1
             have ag:=dh.below a2 dh.lt;have h2:=al.Cp.below a2 al.Cp.lt;have m1:=ag.cell 1;have t1:=h2.cell 1;simp at m1 t1;have ih:=Hd (er z9 (b8.trans (a2.mono b8.size)) k);have el:=Hd a2;have kq:(k:Int)<(g.nn:Int):=by omega
             have kw:((Fc (fun c8=>DS (E.getD i []) (g.nt+1+c8)) g.nn k).map BZ).length=g.nn:=by simp[Fc]
             clear a2 ag h2;go_wp2_with (
                  go_at_call 82;refine ih.mono ?_;rintro e eh ⟨rfl,hb10⟩
                  have bw:=b6.2.below hb10 b6.2.lt;obtain⟨u0,r0⟩:∃u,nQ eh ⟨z.heap.size,k,nK⟩=nJ u:=⟨_,(bw.cell k).trans (by rw[List.getElem?_toArray];exact eG mR)⟩
                  have f0:=bw.frozen k;have rl:=bw.lt;have il:=Hd bw;have ib:=Hd hb10;clear bw hb10)
             go_roundw
             case rel=>exact⟨k+1,mR,mY,Hd ⟨by
              have p:Below z z eh:=el.trans (ib.mono el.size);exact p.trans (((Aj.refl (fun b=>z.heap.size<=b) eh).set (p:=⟨z.heap.size,k,nK⟩) (.inr (AF _)) _).below p.size (fun j hj h=>by omega)),by
              rw[iS _ jk,List.map_set];simpa [BZ] using il.AW k (nE nM (DS (E.getD i []) (g.nt+1+k)))⟩⟩
             case measure=>simp[intOf];omega
            ·obtain rfl:k=g.nn:=by omega
             have a2:=b6.1;have e9:=CS al.JX;have ea:=CS al.goto;obtain⟨Aa,ca,rfl⟩:=e9;obtain⟨Ag,cg,rfl⟩:=ea;have a0:=Hd (al.later a2);have fh:=Hd (a8.below a2 a8.lt);have c6:t.heap.size<=z.heap.size:=al.Ay.size;have di:Hid (z9.ownsRow t 158 2 (nC (l+1,0) (g.nt+1) (g.nt+1)) (EA g E K i).length ((EA g E K i).flatMap C4)):=Hd (by have p:=AV fe a2;rwa [show (EA g E K i).length=g.nt+1 by simp[EA]])
             have dk:Hid (z9.ownsRow t 3 1 (nC (z,0) g.nn g.nn) (EO g E i).length ((EO g E i).map BZ)):=Hd (by have p:=MS (sz:=1) (n:=g.nn) (B:=t.heap.size) b6.2 c6 (by simp[Fc]) mR;rw[Yw]at p;rw[show (EO g E i).length=g.nn by simp[EO]];exact p)
             have dq:Hid (nJ (l+1+1)≠(Value.slice Aa I.length ca).ownBlock):=Hd (fun e=>by have p:=(BR R.JX _ e.symm).1;have P:=bn.out;omega)
             have ku:I.length<=1000000:=by have p:=congrArg List.length R.za;simp at p;have:=bl.2;omega
             have kv:ZG.length<=1000000:=by have p:=congrArg List.length R.zg;simp at p;have:=bl.2;omega
             have a5:Hid (∀v:nS,Ah v T 100 #[nC ab (g.R.length+1) ad,g.nt,g.nn,nC Aa I.length ca,nC Ag ZG.length cg]->Ah v (l+1+1) 152 #[nC (l+1,0) (g.nt+1) (g.nt+1)]->(nQ v (T,3)=nJ (nC Aa I.length ca)/\nQ v (T,4)=nJ (nC Ag ZG.length cg)/\nQ v (l+1+1,0)=nJ (nC (l+1,0) (g.nt+1) (g.nt+1)))):=Hd (fun v p P=>⟨p.cell 3,p.cell 4,P.cell 0⟩);obtain⟨t3,t4,y0⟩:=a5 z9 a0.Cp fh;clear a2 c6 b6 er dh b8 fe a8 f8 ew em;go_upto_region 30 with fail
             refine fQ (fun j=>j==11||j==13) (fun(v:nS)=>nQ v (T,3)=nJ (nC Aa I.length ca)/\nQ v (T,4)=nJ (nC Ag ZG.length cg)/\nQ v (l+1+1,0)=nJ (nC (l+1,0) (g.nt+1) (g.nt+1))) mU ?_;have ba:(fun(v:nS)=>nQ v (T,3)=nJ (nC Aa I.length ca)/\nQ v (T,4)=nJ (nC Ag ZG.length cg)/\nQ v (l+1+1,0)=nJ (nC (l+1,0) (g.nt+1) (g.nt+1))) z9.drew:=⟨t3,t4,y0⟩
             refine KQ 0 (v:=?va0) rfl mU mU mU mU (fun _ _ _ h=>h) (Or.inl ⟨nB,?ha0⟩) ba rfl ?ra0
             case ha0=>
              intro w a1;try dsimp only at a1
              go_simp;try with_reducible rfl
             simp only[List.set_cons_succ,List.set_cons_zero];refine KQ 1 (v:=?va1) rfl mU mU mU mU (fun _ _ _ h=>h) (Or.inl ⟨nB,?ha1⟩) ba rfl ?ra1
             case ha1=>
              intro w a1;try dsimp only at a1
              go_simp;try with_reducible rfl
             simp only[List.set_cons_succ,List.set_cons_zero];refine KQ 2 (v:=?va2) rfl mU mU mU mU (fun _ _ _ h=>h) (Or.inl ⟨nB,?ha2⟩) ba rfl ?ra2
             case ha2=>
              intro w a1;try dsimp only at a1
              go_simp;try with_reducible rfl
             simp only[List.set_cons_succ,List.set_cons_zero];refine KQ 5 (v:=?va5) rfl mU mU mU mU (fun _ _ _ h=>h) (Or.inl ⟨nB,?ha5⟩) ba rfl ?ra5
             case ha5=>
              intro w a1;try dsimp only at a1
              go_simp;try with_reducible rfl
             simp only[List.set_cons_succ,List.set_cons_zero];refine KQ 6 (v:=?va6) rfl mU mU mU mU (fun _ _ _ h=>h) (Or.inl ⟨nB,?ha6⟩) ba rfl ?ra6
             case ha6=>
              intro w a1;try dsimp only at a1
              go_simp;try with_reducible rfl
             simp only[List.set_cons_succ,List.set_cons_zero];refine MY 7 (v:=?va7) rfl mU mU mU (fun _ _ _ h=>h) (Or.inl ⟨nB,?ha7⟩) rfl ?ra7
             case ha7=>
              intro w a1;try dsimp only at a1
              go_simp;try with_reducible rfl
             simp only[List.set_cons_succ,List.set_cons_zero];clear ba;have g9:AI t [152,34] z9 z9.drew:=(AI.refl _ _ z9).drew;have ha0:z9.drew.ownsRow t 152 1 (nC Aa I.length ca) I.length (I.map (·.1)):=a0.JX;have g4:z9.drew.ownsRow t 34 1 (nC Ag ZG.length cg) ZG.length (ZG.map (·.1)):=a0.goto;have h7:Ah z9.drew (l+1+1) 152 #[nC (l+1,0) (g.nt+1) (g.nt+1)]:=fh.out;have bi:t.heap.size<=z9.drew.heap.size:=a0.Ay.size;generalize z9.drew=d0 at *;refine T7 3 8 mU ?_ ?_
             ·
              refine ME (Z:=fun j=>j==11||j==13) (S:=(fun(v:nS)=>nQ v ⟨T,3,nK⟩=nJ (nC Aa I.length ca)/\nQ v ⟨T,4,nK⟩=nJ (nC Ag ZG.length cg)/\nQ v ⟨l+1+1,0,nK⟩=nJ (nC (nJ ⟨l+1,0,nK⟩) (g.nt+1) (g.nt+1)))) 3 nB nB nB (fun K o=>?_);go_simp;have e4:=g9.alloc (nO #[nC (l+1,0) (g.nt+1) (g.nt+1)] 152);have eb:=h7.alloc (nO #[nC (l+1,0) (g.nt+1) (g.nt+1)] 152);have fu:=AV ha0 (AE d0 (nO #[nC (l+1,0) (g.nt+1) (g.nt+1)] 152));have g5:=AV g4 (AE d0 (nO #[nC (l+1,0) (g.nt+1) (g.nt+1)] 152))
              have gr:Ah (d0.alloc (nO #[nC (l+1,0) (g.nt+1) (g.nt+1)] 152)) d0.heap.size 152 #[nC (l+1,0) (g.nt+1) (g.nt+1)]:=Ah.new d0 _ _;have ef:t.heap.size<=(d0.alloc (nO #[nC (l+1,0) (g.nt+1) (g.nt+1)] 152)).heap.size:=AY bi mV;refine o (nC (d0,0) 1 1) _ (fun _ _=>a5 _ (e4.Ap a0.Cp (.inr mT)) eb) ?_;clear o K;simp only[List.set_cons_succ,List.set_cons_zero];generalize d0.alloc (nO #[nC (l+1,0) (g.nt+1) (g.nt+1)] 152)=ae at *;generalize d0.heap.size=fj at *
              refine T7 4 8 mU ?_ ?_
              ·
               refine ME (Z:=fun j=>j==11||j==13) (S:=(fun(v:nS)=>nQ v ⟨T,3,nK⟩=nJ (nC Aa I.length ca)/\nQ v ⟨T,4,nK⟩=nJ (nC Ag ZG.length cg)/\nQ v ⟨l+1+1,0,nK⟩=nJ (nC (nJ ⟨l+1,0,nK⟩) (g.nt+1) (g.nt+1)))) 4 nB nB nB (fun K o=>?_);refine Dt OJ (.tmp 118) (.tmp 120) rfl (base:=t.heap.size) (n:=I.length) (m:=1) (N:=I.length+1) (v:=nC Aa I.length ca) (src:=nC (nJ ⟨fj,0,nK⟩) 1 1) (xs:=I.map (·.1)) (news:=[nC (nJ ⟨l+1,0,nK⟩) (g.nt+1) (g.nt+1)]) rfl rfl fu (Ba.Ap (c:=1) (cs:=[nC (nJ ⟨l+1,0,nK⟩) (g.nt+1) (g.nt+1)]) gr rfl mZ) rfl mW mR ef ?_
               intro A4 c4 a9 q1 C q3;have ga:=e4.trans (C.mono (AF _) mV);have h8:Ah a9 (l+1+1) 152 #[nC (l+1,0) (g.nt+1) (g.nt+1)]:=eb.grown q3.1 dq;have jb:=C.own g5 (.inr mT);have j4:=q1;have k6:t.heap.size<=a9.heap.size:=AY ef C.size;clear q1 C q3;refine o _ _ (fun _ _=>a5 _ (ga.Ap a0.Cp (.inr mT)) h8) ?_;clear o K;simp only[List.set_cons_succ,List.set_cons_zero];refine MY 10 (v:=?vb10) rfl mU mU mU (fun _ _ _ h=>h) (Or.inl ⟨nB,?hb10⟩) rfl ?rb10
               case hb10=>
                intro w a1;try dsimp only at a1
                go_simp;try with_reducible rfl
               simp only[List.set_cons_succ,List.set_cons_zero];refine JP 8 mU rfl rfl rfl (fun K o=>?_);go_simp;have gb:=ga.alloc (nO #[nC (z,0) g.nn g.nn] 34);have hd:=h8.alloc (nO #[nC (z,0) g.nn g.nn] 34);have j5:=AV j4 (AE a9 (nO #[nC (z,0) g.nn g.nn] 34));have jc:=AV jb (AE a9 (nO #[nC (z,0) g.nn g.nn] 34));have jo:Ah (a9.alloc (nO #[nC (z,0) g.nn g.nn] 34)) a9.heap.size 34 #[nC (z,0) g.nn g.nn]:=Ah.new a9 _ _
               have i0:t.heap.size<=(a9.alloc (nO #[nC (z,0) g.nn g.nn] 34)).heap.size:=AY k6 mV;refine o (nC (a9,0) 1 1) _ (fun _ _=>a5 _ (gb.Ap a0.Cp (.inr mT)) hd) ?_;clear o K;simp only[List.set_cons_succ,List.set_cons_zero];generalize a9.alloc (nO #[nC (z,0) g.nn g.nn] 34)=ki at *;generalize a9.heap.size=iy at *;refine JP 9 mU rfl rfl rfl (fun K o=>?_);refine Dt L9 (.tmp 123) (.tmp 125) rfl (base:=t.heap.size) (n:=ZG.length) (m:=1) (N:=ZG.length+1) (v:=nC Ag ZG.length cg) (src:=nC (nJ ⟨iy,0,nK⟩) 1 1) (xs:=ZG.map (·.1)) (news:=[nC (nJ ⟨z.heap.size,0,nK⟩) g.nn g.nn]) rfl rfl jc (Ba.Ap (c:=1) (cs:=[nC (nJ ⟨z.heap.size,0,nK⟩) g.nn g.nn]) jo rfl mZ) rfl mW mR i0 ?_
               intro A9 c9 fk q1 C q3;have cy:=gb.trans (C.mono (AF _) mV);have he:Ah fk (l+1+1) 152 #[nC (l+1,0) (g.nt+1) (g.nt+1)]:=C.Ap hd (.inr mT);have fv:=C.own j5 (.inr mT);have g6:=q1;have k7:t.heap.size<=fk.heap.size:=AY i0 C.size;clear q1 C q3;refine o _ _ (fun _ _=>a5 _ (cy.Ap a0.Cp (.inr mT)) he) ?_;clear o K;simp only[List.set_cons_succ,List.set_cons_zero];have ht:=cy.Ap a0.Cp (.inr mT);have t3:=ht.cell 3
               have t4:=ht.cell 4;have f3:=ht.frozen 3;have f4:=ht.frozen 4;have tl:=ht.lt;simp at t3 t4;have bk:=Hd (a0.more di dk cy fv g6);clear ht cy he fv g6 k7;refine Ga 11 mU rfl rfl (fun K o=>?_);go_simp;refine o _ _ (fun h=>absurd h mT) ?_;clear o K;refine Ga 12 mU rfl rfl (fun K o=>?_);go_simp;refine o _ _ (fun _ h=>h) ?_;clear o K;refine Ga 13 mU rfl rfl (fun K o=>?_);go_simp;refine o _ _ (fun h=>absurd h mT) ?_;clear o K;refine LW mU ?_ _
               go_wp2;have ek:((i+1:Nat):Int)=(i:Int)+1:=by omega
               exact Handed.intro (nL-(i+1)) mR (HJ _ _ _ ⟨i+1,_,_,_,_,mR,rfl,by rw[ek];rfl,bk⟩)
              ·
               refine ME (Z:=fun j=>j==11||j==13) (S:=(fun(v:nS)=>nQ v ⟨T,3,nK⟩=nJ (nC Aa I.length ca)/\nQ v ⟨T,4,nK⟩=nJ (nC Ag ZG.length cg)/\nQ v ⟨l+1+1,0,nK⟩=nJ (nC (nJ ⟨l+1,0,nK⟩) (g.nt+1) (g.nt+1)))) 8 nB nB nB (fun K o=>?_);go_simp;have gd:=e4.alloc (nO #[nC (z,0) g.nn g.nn] 34);have hh:=eb.alloc (nO #[nC (z,0) g.nn g.nn] 34);have j6:=AV fu (AE ae (nO #[nC (z,0) g.nn g.nn] 34));have jd:=AV g5 (AE ae (nO #[nC (z,0) g.nn g.nn] 34))
               have jq:Ah (ae.alloc (nO #[nC (z,0) g.nn g.nn] 34)) ae.heap.size 34 #[nC (z,0) g.nn g.nn]:=Ah.new ae _ _;have jm:=gr.alloc (nO #[nC (z,0) g.nn g.nn] 34);have i1:t.heap.size<=(ae.alloc (nO #[nC (z,0) g.nn g.nn] 34)).heap.size:=AY ef mV;refine o (nC (ae,0) 1 1) _ (fun _ _=>a5 _ (gd.Ap a0.Cp (.inr mT)) hh) ?_;clear o K;simp only[List.set_cons_succ,List.set_cons_zero];generalize ae.alloc (nO #[nC (z,0) g.nn g.nn] 34)=kj at *
               generalize ae.heap.size=iz at *;refine JP 4 mU rfl rfl rfl (fun K o=>?_);refine Dt OJ (.tmp 118) (.tmp 120) rfl (base:=t.heap.size) (n:=I.length) (m:=1) (N:=I.length+1) (v:=nC Aa I.length ca) (src:=nC (nJ ⟨fj,0,nK⟩) 1 1) (xs:=I.map (·.1)) (news:=[nC (nJ ⟨l+1,0,nK⟩) (g.nt+1) (g.nt+1)]) rfl rfl j6 (Ba.Ap (c:=1) (cs:=[nC (nJ ⟨l+1,0,nK⟩) (g.nt+1) (g.nt+1)]) jm rfl mZ) rfl mW mR i1 ?_;intro A4 c4 fl q1 C q3;have gf:=gd.trans (C.mono (AF _) mV)
               have hl:Ah fl (l+1+1) 152 #[nC (l+1,0) (g.nt+1) (g.nt+1)]:=hh.grown q3.1 dq;have je:=C.own jd (.inr mT);have j7:=q1;have jr:=C.Ap jq (.inr mT);have i2:t.heap.size<=fl.heap.size:=AY i1 C.size;clear q1 C q3;refine o _ _ (fun _ _=>a5 _ (gf.Ap a0.Cp (.inr mT)) hl) ?_;clear o K;simp only[List.set_cons_succ,List.set_cons_zero];refine MY 10 (v:=?vc10) rfl mU mU mU (fun _ _ _ h=>h) (Or.inl ⟨nB,?hc10⟩) rfl ?rc10
               case hc10=>
                intro w a1;try dsimp only at a1
                go_simp;try with_reducible rfl
               simp only[List.set_cons_succ,List.set_cons_zero];refine JP 9 mU rfl rfl rfl (fun K o=>?_);refine Dt L9 (.tmp 123) (.tmp 125) rfl (base:=t.heap.size) (n:=ZG.length) (m:=1) (N:=ZG.length+1) (v:=nC Ag ZG.length cg) (src:=nC (nJ ⟨iz,0,nK⟩) 1 1) (xs:=ZG.map (·.1)) (news:=[nC (nJ ⟨z.heap.size,0,nK⟩) g.nn g.nn]) rfl rfl je (Ba.Ap (c:=1) (cs:=[nC (nJ ⟨z.heap.size,0,nK⟩) g.nn g.nn]) jr rfl mZ) rfl mW mR i2 ?_;intro A9 c9 fm q1 C q3;have cz:=gf.trans (C.mono (AF _) mV)
               have hm:Ah fm (l+1+1) 152 #[nC (l+1,0) (g.nt+1) (g.nt+1)]:=C.Ap hl (.inr mT);have fw:=C.own j7 (.inr mT);have g7:=q1;have k8:t.heap.size<=fm.heap.size:=AY i2 C.size;clear q1 C q3;refine o _ _ (fun _ _=>a5 _ (cz.Ap a0.Cp (.inr mT)) hm) ?_;clear o K;simp only[List.set_cons_succ,List.set_cons_zero];have ht:=cz.Ap a0.Cp (.inr mT);have t3:=ht.cell 3;have t4:=ht.cell 4;have f3:=ht.frozen 3;have f4:=ht.frozen 4;have tl:=ht.lt;simp at t3 t4
               have bk:=Hd (a0.more di dk cz fw g7);clear ht cz hm fw g7 k8;refine Ga 11 mU rfl rfl (fun K o=>?_);go_simp;refine o _ _ (fun h=>absurd h mT) ?_;clear o K;refine Ga 12 mU rfl rfl (fun K o=>?_);go_simp;refine o _ _ (fun _ h=>h) ?_;clear o K;refine Ga 13 mU rfl rfl (fun K o=>?_);go_simp;refine o _ _ (fun h=>absurd h mT) ?_;clear o K;refine LW mU ?_ _;go_wp2;have ek:((i+1:Nat):Int)=(i:Int)+1:=by omega
               exact Handed.intro (nL-(i+1)) mR (HJ _ _ _ ⟨i+1,_,_,_,_,mR,rfl,by rw[ek];rfl,bk⟩)
             ·
              refine ME (Z:=fun j=>j==11||j==13) (S:=(fun(v:nS)=>nQ v ⟨T,3,nK⟩=nJ (nC Aa I.length ca)/\nQ v ⟨T,4,nK⟩=nJ (nC Ag ZG.length cg)/\nQ v ⟨l+1+1,0,nK⟩=nJ (nC (nJ ⟨l+1,0,nK⟩) (g.nt+1) (g.nt+1)))) 8 nB nB nB (fun K o=>?_);go_simp;have gg:=g9.alloc (nO #[nC (z,0) g.nn g.nn] 34);have ho:=h7.alloc (nO #[nC (z,0) g.nn g.nn] 34);have j8:=AV ha0 (AE d0 (nO #[nC (z,0) g.nn g.nn] 34));have jf:=AV g4 (AE d0 (nO #[nC (z,0) g.nn g.nn] 34))
              have js:Ah (d0.alloc (nO #[nC (z,0) g.nn g.nn] 34)) d0.heap.size 34 #[nC (z,0) g.nn g.nn]:=Ah.new d0 _ _;have k9:t.heap.size<=(d0.alloc (nO #[nC (z,0) g.nn g.nn] 34)).heap.size:=AY bi mV;refine o (nC (d0,0) 1 1) _ (fun _ _=>a5 _ (gg.Ap a0.Cp (.inr mT)) ho) ?_;clear o K;simp only[List.set_cons_succ,List.set_cons_zero];generalize d0.alloc (nO #[nC (z,0) g.nn g.nn] 34)=af at *;generalize d0.heap.size=j0 at *
              refine JP 3 mU rfl rfl rfl (fun K o=>?_);go_simp;have gh:=gg.alloc (nO #[nC (l+1,0) (g.nt+1) (g.nt+1)] 152);have hp:=ho.alloc (nO #[nC (l+1,0) (g.nt+1) (g.nt+1)] 152);have j9:=AV j8 (AE af (nO #[nC (l+1,0) (g.nt+1) (g.nt+1)] 152));have jg:=AV jf (AE af (nO #[nC (l+1,0) (g.nt+1) (g.nt+1)] 152));have jn:Ah (af.alloc (nO #[nC (l+1,0) (g.nt+1) (g.nt+1)] 152)) af.heap.size 152 #[nC (l+1,0) (g.nt+1) (g.nt+1)]:=Ah.new af _ _
              have jt:=js.alloc (nO #[nC (l+1,0) (g.nt+1) (g.nt+1)] 152);have i3:t.heap.size<=(af.alloc (nO #[nC (l+1,0) (g.nt+1) (g.nt+1)] 152)).heap.size:=AY k9 mV;refine o (nC (af,0) 1 1) _ (fun _ _=>a5 _ (gh.Ap a0.Cp (.inr mT)) hp) ?_;clear o K;simp only[List.set_cons_succ,List.set_cons_zero];generalize af.alloc (nO #[nC (l+1,0) (g.nt+1) (g.nt+1)] 152)=km at *;generalize af.heap.size=ix at *;refine JP 4 mU rfl rfl rfl (fun K o=>?_)
              refine Dt OJ (.tmp 118) (.tmp 120) rfl (base:=t.heap.size) (n:=I.length) (m:=1) (N:=I.length+1) (v:=nC Aa I.length ca) (src:=nC (nJ ⟨ix,0,nK⟩) 1 1) (xs:=I.map (·.1)) (news:=[nC (nJ ⟨l+1,0,nK⟩) (g.nt+1) (g.nt+1)]) rfl rfl j9 (Ba.Ap (c:=1) (cs:=[nC (nJ ⟨l+1,0,nK⟩) (g.nt+1) (g.nt+1)]) jn rfl mZ) rfl mW mR i3 ?_;intro A4 c4 fo q1 C q3;have gi:=gh.trans (C.mono (AF _) mV);have hq:Ah fo (l+1+1) 152 #[nC (l+1,0) (g.nt+1) (g.nt+1)]:=hp.grown q3.1 dq
              have jh:=C.own jg (.inr mT);have ja:=q1;have ju:=C.Ap jt (.inr mT);have i4:t.heap.size<=fo.heap.size:=AY i3 C.size;clear q1 C q3;refine o _ _ (fun _ _=>a5 _ (gi.Ap a0.Cp (.inr mT)) hq) ?_;clear o K;simp only[List.set_cons_succ,List.set_cons_zero];refine MY 10 (v:=?vd10) rfl mU mU mU (fun _ _ _ h=>h) (Or.inl ⟨nB,?hd10⟩) rfl ?rd10
              case hd10=>
               intro w a1;try dsimp only at a1
               go_simp;try with_reducible rfl
              simp only[List.set_cons_succ,List.set_cons_zero];refine JP 9 mU rfl rfl rfl (fun K o=>?_);refine Dt L9 (.tmp 123) (.tmp 125) rfl (base:=t.heap.size) (n:=ZG.length) (m:=1) (N:=ZG.length+1) (v:=nC Ag ZG.length cg) (src:=nC (nJ ⟨j0,0,nK⟩) 1 1) (xs:=ZG.map (·.1)) (news:=[nC (nJ ⟨z.heap.size,0,nK⟩) g.nn g.nn]) rfl rfl jh (Ba.Ap (c:=1) (cs:=[nC (nJ ⟨z.heap.size,0,nK⟩) g.nn g.nn]) ju rfl mZ) rfl mW mR i4 ?_;intro A9 c9 fp q1 C q3;have d1:=gi.trans (C.mono (AF _) mV)
              have hu:Ah fp (l+1+1) 152 #[nC (l+1,0) (g.nt+1) (g.nt+1)]:=C.Ap hq (.inr mT);have fx:=C.own ja (.inr mT);have g8:=q1;have ka:t.heap.size<=fp.heap.size:=AY i4 C.size;clear q1 C q3;refine o _ _ (fun _ _=>a5 _ (d1.Ap a0.Cp (.inr mT)) hu) ?_;clear o K;simp only[List.set_cons_succ,List.set_cons_zero];have ht:=d1.Ap a0.Cp (.inr mT);have t3:=ht.cell 3;have t4:=ht.cell 4;have f3:=ht.frozen 3;have f4:=ht.frozen 4;have tl:=ht.lt;simp at t3 t4
              have bk:=Hd (a0.more di dk d1 fx g8);clear ht d1 hu fx g8 ka;refine Ga 11 mU rfl rfl (fun K o=>?_);go_simp;refine o _ _ (fun h=>absurd h mT) ?_;clear o K;refine Ga 12 mU rfl rfl (fun K o=>?_);go_simp;refine o _ _ (fun _ h=>h) ?_;clear o K;refine Ga 13 mU rfl rfl (fun K o=>?_);go_simp;refine o _ _ (fun h=>absurd h mT) ?_;clear o K;refine LW mU ?_ _;go_wp2;have ek:((i+1:Nat):Int)=(i:Int)+1:=by omega
              exact Handed.intro (nL-(i+1)) mR (HJ _ _ _ ⟨i+1,_,_,_,_,mR,rfl,by rw[ek];rfl,bk⟩)
     ·obtain rfl:i=nL:=by omega
      have e9:=CS R.JX;have ea:=CS R.goto;obtain⟨Aa,ca,rfl⟩:=e9;obtain⟨Ag,cg,rfl⟩:=ea;have t0:=Ah.cell R.Cp 0;have t1:=Ah.cell R.Cp 1;have t2:=Ah.cell R.Cp 2;have t3:=Ah.cell R.Cp 3;have t4:=Ah.cell R.Cp 4;have a3:=R.Ay.Ap fc (by have:=a4.out;omega);have r0:=Ah.cell a3 0;have r1:=Ah.cell a3 1;have r2:=Ah.cell a3 2;have r3:=Ah.cell a3 3;have r4:=Ah.cell a3 4;have q0:=Ah.frozen a3 0;have q1:=Ah.frozen a3 1;have C:=Ah.frozen a3 2;have q3:=Ah.frozen a3 3;have q4:=Ah.frozen a3 4;have rl:=a3.lt
      simp at t0 t1 t2 t3 t4 r0 r1 r2 r3 r4;have fd:=Hd a3;clear a3;go_wp2;have j2:i=E.length:=by have:=bl.1;omega
      have gw:=R.out;rw[j2]at gw;have k0:w.heap.size+1<t.heap.size:=fc.lt;have hdone:=gw.done ip (by have:=bl.2;omega) jw jv k0 R.lt;have bc:=((((((Aj.refl (·=w.heap.size+1) y).set (p:=⟨w.heap.size+1,0,nK⟩) (.inr rfl) (nC ab (g.R.length+1) ad)).set (p:=⟨w.heap.size+1,1,nK⟩) (.inr rfl) g.nt).set (p:=⟨w.heap.size+1,2,nK⟩) (.inr rfl) g.nn).set (p:=⟨w.heap.size+1,3,nK⟩) (.inr rfl) (nC Aa I.length ca)).set (p:=⟨w.heap.size+1,4,nK⟩) (.inr rfl) (nC Ag ZG.length cg))
      have cw:=((((fd.AW 0 (nC ab (g.R.length+1) ad)).AW 1 g.nt).AW 2 g.nn).AW 3 (nC Aa I.length ca)).AW 4 (nC Ag ZG.length cg);have k5:y.heap[w.heap.size+1]?≠nJ (.deferred (nJ [])):=fun h=>by have P:=fd.out;unfold Ah at P;rw[h]at P;cases P
      generalize (((((y.setCell {block:=w.heap.size+1,off:=0} (Value.slice ab (g.R.length+1) ad)).setCell {block:=w.heap.size+1,off:=1} (Value.int IntKind.i64 ↑g.nt)).setCell {block:=w.heap.size+1,off:=2} (Value.int IntKind.i64 ↑g.nn)).setCell {block:=w.heap.size+1,off:=3} (Value.slice Aa I.length ca)).setCell {block:=w.heap.size+1,off:=4} (Value.slice Ag ZG.length cg))=W9 at *;simp at cw;refine Qb (B:=t.heap.size) (R.marks.Ay bc (fun D _ hx e=>k5 (by rw[<-e];exact hx))) (fun w9 cx=>?_);have a2:=cx.Ap cw (fun h=>by have:=h.1;omega);have z0:=Ah.cell a2 0;have z1:=Ah.cell a2 1
      have z2:=Ah.cell a2 2;have z3:=Ah.cell a2 3;have z4:=Ah.cell a2 4;simp at z0 z1 z2 z3 z4;refine⟨.tuple #[.agg #[nC ab (g.R.length+1) ad,g.nt,g.nn,nC Aa I.length ca,nC Ag ZG.length cg],nE nM 0],?_,_,rfl,?_,?_⟩
      · rw[results_cell_tmp rfl]
        go_simp
      · refine((hdone.Ay bc (fun b hb=>hb.1.2.2)).Ay cx (fun b hb h=>hb.2 ⟨h.1,?_⟩)).mono (fun b hb=>?_)
        · rw[<-bc.block b hb.1.1 hb.1.2.2]
          exact h.2
        · exact AK (AK hb.1.1 bc.size) cx.size
      · have p:=ei.out
        have P:=a7.mono p.size;have U:=a4.out;have h4:Below w t y:=R.Ay.below (AY p.size a7.size) (fun j hj e=>by omega);have h5:Below w y W9:=bc.below (AY (AY p.size a7.size) R.Ay.size) (fun j hj e=>by omega);have h6:Below w W9 w9:=cx.below (AY (AY (AY p.size a7.size) R.Ay.size) bc.size) (fun j hj e=>by have:=e.1;omega);exact(((p.trans P).trans h4).trans h5).trans h6
end
def Qh(i j:Nat)(x:It):Prop:=(x.1=0/\x.2=0)\/(x.1=3/\x.2=0)\/(x.1=1/\x.2<i)\/(x.1=2/\x.2<j)
instance(nA nR:Nat)(x:It):Decidable (Qh nA nR x):=by unfold Qh;infer_instance
def EP.open_(h:EP A w v g E K):∃P cr I T J U,v=.agg #[nC P (g.R.length+1) cr,g.nt,g.nn,nC I E.length T,nC J E.length U] /\
  (∀k,k<=g.R.length->∃b off rv,P=nJ ⟨b,off,nK⟩/\b<w.heap.size/\A b/\nQ w ⟨b,off+k*2,nK⟩=nJ (nE nM ((g.AX k).1:Nat))/\nQ w ⟨b,off+k*2+1,nK⟩=nJ rv/\BX A w rv (g.right k)) /\
  (∀i,i<E.length->∃b off l o,I=nJ ⟨b,off,nK⟩/\b<w.heap.size/\A b/\nQ w ⟨b,off+i,nK⟩=nJ (nC l (g.nt+1) o)/\D6 A w (nC l (g.nt+1) o) (EA g E K i)) /\
  (∀i,i<E.length->∃b off l o,J=nJ ⟨b,off,nK⟩/\b<w.heap.size/\A b/\nQ w ⟨b,off+i,nK⟩=nJ (nC l g.nn o)/\GG A w (nC l g.nn o) (EO g E i)):=by
 obtain⟨rv,av,gv,rfl,⟨P,cr,rfl,-,-,hr⟩,⟨I,T,rfl,-,-,ha⟩,⟨J,U,rfl,-,-,hg⟩⟩:=h;refine⟨P,cr,I,T,J,U,rfl,fun k hk=>?_,fun i hi=>?_,fun i hi=>?_⟩
 ·obtain⟨b,off,e,t,C,p⟩:=hr k mR
  obtain⟨R,h0,j⟩:=p 0 mR;obtain⟨x1,h1,e1⟩:=p 1 mR;rw[if_pos rfl]at j;rw[if_neg mR]at e1;exact⟨b,off,x1,e,C,t,by rw[<-Nat.add_zero (off+k*2),h0,j],h1,e1⟩
 ·obtain⟨b,off,e,t,C,p⟩:=ha i hi
  obtain⟨R,h0,j⟩:=p 0 mR;have j:D6 A w R (EA g E K i):=j;obtain⟨l,o,rfl,-⟩:=j.form;rw[Nat.mul_one,Nat.add_zero]at h0;have hl:(EA g E K i).length=g.nt+1:=by simp[EA]
  rw[hl]at h0 j;exact⟨b,off,l,o,e,C,t,h0,j⟩
 ·obtain⟨b,off,e,t,C,p⟩:=hg i hi
  obtain⟨R,h0,j⟩:=p 0 mR;have j:GG A w R (EO g E i):=j;obtain⟨l,o,rfl,-,-,-⟩:=id j;rw[Nat.mul_one,Nat.add_zero]at h0;have hl:(EO g E i).length=g.nn:=by simp[EO]
  rw[hl]at h0 j;exact⟨b,off,l,o,e,C,t,h0,j⟩
def GG.at_{i:Option Addr}{c:Nat}(h:GG A w (nC i n c) l){x:Int}(o:l[k]?=nJ x):∃b off,i=nJ ⟨b,off,nK⟩/\A b/\b<w.heap.size/\nQ w ⟨b,off+k,nK⟩=nJ (nE nM x):=by
 obtain⟨U,c',T,-,-,R⟩:=h;cases T
 have J:=(sG.1 o).1;obtain⟨b,off,p,t,P,C⟩:=R k J;obtain⟨y0,h0,j⟩:=C 0 mR;have I:l.getD k 0=x:=by rw[dG,o];rfl
 rw[I]at j;refine⟨b,off,p,t,P,?_⟩;rw[Nat.mul_one,Nat.add_zero]at h0;rw[h0,j]
section
set_option maxRecDepth 1000000
def jM:((List.range Bi.length).all fun i=>(List.range (pz.nt+1)).all fun t=>decide ((pz.JR (Bi.getD i []) (Ch.getD i []) t).length<=1))=true:=by decide +kernel
def Ya:Calm pz Bi Ch:=fun i t j l=>by have h:=List.all_eq_true.1 (List.all_eq_true.1 jM i (List.mem_range.2 j)) t (List.mem_range.2 mR);exact of_decide_eq_true h
end
