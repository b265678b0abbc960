/- The actions of a place. -/
import Derived.Test.YtlogpnoioimhjaaGreatDoorXaw
import Derived.Test.YtlogpnoioimhjaaGreatDoorXax
import Derived.Test.YtlogpnoioimhjaaGreatDoorXbo
set_option linter.all false
set_option maxRecDepth 100000
set_option maxHeartbeats 16000000
namespace Go.Proofs.YtlogpnoioimhjaaGreatDoor
open Go.RowKit Go.Proofs.Tryz
variable{v:Value}{n:Nat}{A A' X:Nat->Prop}{w':World}{XS:List Value}{cs:Array Value}
section
attribute [local go_sem] Oper.semAt_some
def US(w:World)(own t:Nat)(iv tv p:Value)(e:Ending)(w':World):Prop:=
 ∃l o i j,e=.returned (.func (.func 82) #[] #[.pointer (some ⟨l,0,none⟩),.pointer (some ⟨o,0,none⟩),.pointer (some ⟨i,0,none⟩),.pointer (some ⟨j,0,none⟩)])/\w.heap.size<=l/\w.heap.size<=o/\w.heap.size<=i/\w.heap.size<=j /\
  Ah w' l 125 #[iv,tv]/\Ah w' o 3 #[t]/\Ah w' i 130 #[p]/\Ah w' j 3 #[own]/\Below w w w'
def TD{w:World}{own t:Nat}{Ai At Ak:Option Addr}{ni ci nt ct nk ck:Nat} :
  () 60 #[own,.agg #[.slice Ai ni ci,.slice At nt ct],.slice Ak nk ck,t] w (US w own t (.slice Ai ni ci) (.slice At nt ct) (.slice Ak nk ck)):=by
 unfold US;go_enter func60,ntmps60
 go_wp2;go_ret;have i:(w.alloc (.cells #[own] 3)).heap.size=w.heap.size+1:=by simp
 have j:((w.alloc (.cells #[own] 3)).alloc (.cells #[.slice Ai ni ci,.slice At nt ct] 125)).heap.size=w.heap.size+1+1:=by simp
 have l:(((w.alloc (.cells #[own] 3)).alloc (.cells #[.slice Ai ni ci,.slice At nt ct] 125)).alloc (.cells #[.slice Ak nk ck] 130)).heap.size=w.heap.size+1+1+1:=by simp
 refine⟨_,_,_,_,rfl,by omega,by omega,by omega,AF _,?_,?_,?_,?_,?_⟩
 ·exact((Ah.newAt i).alloc _).alloc _
 ·exact Ah.newAt l
 ·exact(Ah.newAt j).alloc _
 ·exact(((Ah.new w _ _).alloc _).alloc _).alloc _
 ·exact(((AG w _).alloc (by omega) _).alloc (by omega) _).alloc (by omega) _
def Ty{w:World}{l:List Nat}(h:BD w v l):B9 (fun b=>b<w.heap.size) w v l:=by
 refine⟨h,fun b i p=>?_⟩;obtain⟨⟨I,c,t,o⟩,-,-⟩:=h;obtain⟨x,C⟩:∃x,l[0]?=some x:=⟨_,eG p⟩
 obtain⟨J,off,j,P,-⟩:=o 0 x C;rw[t,j]at i;simp only[Value.ownBlock,Option.some.injEq]at i;omega
def GW.Q1{w:World}{m:Nat}{l:List (Nat×Nat)}(h:GW w m v l):H4 (fun b=>b<w.heap.size) w m v l:=by
 refine Bn.mono (show Bn (fun b=>b<w.heap.size) w v l.length 2 _ from h) (fun _=>id) (fun k j x _ _ o=>?_);split at o
 ·rename_i i;rw[if_pos i];exact o
 ·rename_i i;rw[if_neg i];exact Ty o
theorem CM.bH{w:World}{l:List It}(h:CM w v l)(T:l.length<=1000000):DX (fun b=>b<w.heap.size) w v l:=by
 obtain⟨⟨A,c,o,J⟩,-,U⟩:=h;refine⟨A,c,o,(U A l.length c o).1,T,fun k R=>?_⟩;obtain⟨x,p⟩:∃x,l[k]?=some x:=⟨_,eG R⟩
 obtain⟨b,off,I,j,t,C⟩:=J k x p;have i:l.getD k (0,0)=x:=by rw[dG,p];rfl
 refine⟨b,off,I,j,j,fun a0 P=>?_⟩
 match a0,P with
 | 0,_=>exact⟨_,t,by dsimp only;rw[i];rfl⟩
 | 1,_=>exact⟨_,C,by dsimp only;rw[i];rfl⟩
def GU.at_{w:World}{g:Gz}{L E:List (List It)}{K:List (List (Nat×Nat))}(h:GU w v g L E K){i:Nat}(hi:i<L.length)(hK:K.length=L.length)(hE:(E.getD i []).length<=1000000) :
  ∃C J I co b off Ai ni ci At nt ct j p Ak nk ck,v=.agg #[g.R.length,.slice C L.length J,.slice I L.length co]/\C=some ⟨b,off,none⟩/\I=some ⟨j,p,none⟩ /\
   (∀y,Below w w y->b<y.heap.size/\j<y.heap.size/\y.cell? ⟨b,off+i*2,none⟩=some (.slice Ai ni ci)/\y.cell? ⟨b,off+i*2+1,none⟩=some (.slice At nt ct)/\y.cell? ⟨j,p+i,none⟩=some (.slice Ak nk ck)) /\
   DX (fun b=>b<w.heap.size) w (.slice At nt ct) (E.getD i [])/\H4 (fun b=>b<w.heap.size) w (g.nt+1) (.slice Ak nk ck) (K.getD i []):=by
 obtain⟨lv,lo,V,rfl,⟨⟨C,J,rfl,-,hc⟩,⟨a3,a8⟩,hit,a4,-⟩,⟨I,co,rfl,-,-,hr⟩⟩:=h;rw[hK]at hr ⊢;rw[<-a3];obtain⟨x,U⟩:∃x,V[i]?=some x:=⟨_,eG (by omega)⟩
 obtain⟨l,hl⟩:∃l,L[i]?=some l:=⟨_,eG hi⟩
 obtain⟨t,ht⟩:∃t,E[i]?=some t:=⟨_,eG (by omega)⟩
 obtain⟨b,off,hA,T,e0,e1⟩:=hc i x U;obtain⟨j,p,a1,-,a0,a2⟩:=hr i hi;obtain⟨kv,h0,R⟩:=a2 0 (by omega);have hI:=hit i x l U hl;have P:=a4 i x t U ht;have eT:E.getD i []=t:=by rw[dG,ht];rfl
 rw[eT]at hE ⊢;obtain⟨⟨Ai,ci,a5,-⟩,-,-⟩:=id hI;obtain⟨⟨At,ct,a7,-⟩,-,-⟩:=id P;obtain⟨Ak,ck,a6,-⟩:=R.Q1.form;rw[a5]at e0;rw[a7]at e1 P;rw[a6]at h0 R;rw[Nat.mul_one,Nat.add_zero]at h0;exact⟨C,J,I,co,b,off,Ai,_,ci,At,_,ct,j,p,Ak,_,ck,rfl,hA,a1,fun y o=>⟨Ba T o.size,Ba a0 o.size,(o.cell (p:=⟨b,off+i*2,none⟩) T).trans e0,(o.cell (p:=⟨b,off+i*2+1,none⟩) T).trans e1,(o.cell (p:=⟨j,p+i,none⟩) a0).trans h0⟩,P.bH hE,R.Q1⟩
def Da(x:It):List Value:=[.int .i64 x.1,.int .i64 x.2]
def Ym:El Tryz.prog 126 106 2 16:=El.of (z:=.agg #[.int .i64 0,.int .i64 0]) underlying126 (by kernel_rfl) rfl (by decide)
def Xv(own t:Nat)(j:List It)(i:List (Nat×Nat)):(Cp t j++C9 own t i++Ek own t i).length<=j.length+i.length+i.length:=by
 have l:(Cp t j).length<=j.length:=by
  unfold Cp;rw[lM];split
  ·exact List.length_filter_le _ _
  ·simp
 have o:(C9 own t i).length<=i.length:=by unfold C9;rw[lM];exact List.length_filter_le _ _
 have p:(Ek own t i).length<=i.length:=by unfold Ek;rw[lM];exact List.length_filter_le _ _
 simp only[B8];omega
def SA(w:World)(j:Nat)(W:World)(pre:List It)(A':Nat->Prop)(i:World):Prop:=Gq 106 2 126 w j pre.length (pre.flatMap Da) A' i/\W.heap.size<=i.heap.size
def kD{w:World}{g:Gz}{L E:List (List It)}{K:List (List (Nat×Nat))}(h:GU w v g L E K){i t:Nat}(hi:i<L.length)(hL:L.length<=1000000)(hK:K.length=L.length)(hE:(E.getD i []).length<=1000000)(hk:(K.getD i []).length<=1000000)(ht:t<=g.nt)(b8:g.nt<=120) :
  () 81 #[v,i,t] w fun e w'=>∃o,e=.returned o/\Oa 106 2 w (g.Iv (E.getD i []) (K.getD i []) t).length ((g.Iv (E.getD i []) (K.getD i []) t).flatMap Da) o w':=by
 obtain⟨AL,cL,Ao,co,b,off,Ai,ni,ci,At,nt,ct,b2,a1,Ak,nk,ck,rfl,rfl,rfl,b3,bh,b6⟩:=h.at_ hi hK hE;rw[Ua];have af:=Xv g.R.length t (E.getD i []) (K.getD i []);generalize E.getD i []=tr at *;generalize K.getD i []=lk at *;obtain⟨xs,al⟩:∃xs,Cp t tr++C9 g.R.length t lk++Ek g.R.length t lk=xs:=⟨_,rfl⟩
 have cd:(i:Int)<(L.length:Int):=by omega
 generalize L.length=U at *;generalize cc:g.R.length=own at *;rw[al]at af ⊢;obtain⟨j,a0⟩:∃j,(w.alloc (.cells #[own,.slice (some ⟨b,off,none⟩) U cL,.slice (b2,a1) U co] 113)).alloc (.cells #[.slice none 0 0] 126)=j:=⟨_,rfl⟩
 have a5:Below w w j:=by rw[<-a0];exact(AG w _).alloc (by simp) _
 have bi:j.heap.size=w.heap.size+2:=by rw[<-a0];simp
 have ah:Ah j w.heap.size 113 #[own,.slice (some ⟨b,off,none⟩) U cL,.slice (b2,a1) U co]:=by rw[<-a0];exact(Ah.new w _ _).alloc _
 have ba:Ah j (w.heap.size+1) 126 #[.slice none 0 0]:=by rw[<-a0];exact Ah.newAt (by simp)
 have a3:Hid (∀y,Below j j y->y.cell? (w,0)=some (.int .i64 own)/\y.cell? (w,1)=some (.slice (some ⟨b,off,none⟩) U cL)/\y.cell? (w,2)=some (.slice (b2,a1) U co)/\y.cell? ⟨b,off+i*2,none⟩=some (.slice Ai ni ci)/\y.cell? ⟨b,off+i*2+1,none⟩=some (.slice At nt ct)/\y.cell? (b2,a1+i)=some (.slice Ak nk ck)):=Hd (fun y hy=>by obtain⟨p,P,J,R,h5⟩:=b3 y (a5.trans (hy.mono a5.size));have hm:=ah.below hy ah.lt;exact⟨hm.cell 0,hm.cell 1,hm.cell 2,J,R,h5⟩)
 obtain⟨c0,c1,c2,c3,c4,c5⟩:=a3 j (Below.refl _ _);have a8:=Hd a5;have bt:=Hd bi;have aa:=Hd ba;have bv:=Hd a0;have aw:=Hd bh;have ar:=Hd b6;have bw:=Hd al;have bo:=Hd af;have HT:=Hd (And.intro ht b8);have bm:=Hd (And.intro hE hk);have HP:=Hd (fun y:World=>TD (w:=y) (own:=own) (t:=t) (Ai:=Ai) (At:=At) (Ak:=Ak) (ni:=ni) (ci:=ci) (nt:=nt) (ct:=ct) (nk:=nk) (ck:=ck));clear h hi hL hK hE hk ht b8 b3 bh b6 al a5 bi ah ba af cc;refine(callsIn_wide (n:=0)).1 ?_;refine callsIn_of_wp_marks func81 rfl trivial ?_ rfl
 simp only[ntmps81,List.size_toArray,List.length_cons,List.length_nil,Nat.reduceAdd,Nat.reduceSub,Array.replicate_succ,Array.replicate_zero,List.push_toArray,List.append_toArray,List.nil_append,List.cons_append];refine wpIn_wide.2 ?_;have a9:Hid (Below j j j.drew):=Hd ((Below.refl j.heap.size j).drew);go_upto_region 2 with fail
 clear a0
 go_region_held3 (fun v=>v.cell? (w,0)=some (.int .i64 own)/\v.cell? (w,1)=some (.slice (some ⟨b,off,none⟩) U cL)/\v.cell? (w,2)=some (.slice (b2,a1) U co)/\v.cell? ⟨b,off+i*2,none⟩=some (.slice Ai ni ci)/\v.cell? ⟨b,off+i*2+1,none⟩=some (.slice At nt ct)/\v.cell? (b2,a1+i)=some (.slice Ak nk ck))
  (first|exact a3 _ a9|exact a3 _ a2)
  (first|(
     go_at_call 60;refine(HP _).mono ?_;rintro e l ⟨sb,tb,kb,ob,rfl,p,P,J,R,k1,k2,k3,k4,az⟩
     have a2:Hid (Below j j l):=Hd (a9.trans az);have HK:=Hd (And.intro (And.intro p (And.intro P (And.intro J R))) (And.intro k1 (And.intro k2 (And.intro k3 k4))));clear p P J R k1 k2 k3 k4 az))
 obtain⟨⟨p,P,J,R⟩,k1,k2,k3,k4⟩:=HK.out;have p:j.heap.size<=sb:=p;have P:j.heap.size<=tb:=P;have J:j.heap.size<=kb:=J;have R:j.heap.size<=ob:=R;have I:Below w w l:=a8.trans (a2.mono a8.size);have hA:∀b,(b<w.heap.size\/(j.heap.size<=b/\b<l.heap.size))->b<l.heap.size:=fun b C=>C.elim (fun h=>Ba h I.size) (·.2)
 have ak:BU (fun b=>b<w.heap.size) w l:=fun b C=>I.block b C
 have aj:=SG (A:=fun b=>b<w.heap.size\/(j.heap.size<=b/\b<l.heap.size)) (w:=l) (m:=g.nt+1) (by have:=HT.out;omega) (by have:=HT.out;omega) hA (.inr ⟨p,k1.lt⟩) (.inr ⟨P,k2.lt⟩) (.inr ⟨J,k3.lt⟩) (.inr ⟨R,k4.lt⟩) k1 k2 k3 k4
  (aw.BP (fun _=>.inl) I.size ak) (ar.BP (fun _=>.inl) I.size ak)
 rw[bw.out]at aj;have ai:Ah l (w.heap.size+1) 126 #[.slice none 0 0]:=aa.below a2 aa.lt;have ay:SA w (w.heap.size+1) l [] (fun b=>b<w.heap.size\/(j.heap.size<=b/\b<l.heap.size)) l:=by refine⟨⟨by omega,?_,.slice none 0 0,ai,⟨none,0,rfl,⟨by simp,.inl ⟨rfl,rfl⟩⟩,I⟩,fun b C=>by cases C⟩,AF _⟩;have:=bt.out;rintro(h|h)<;>omega
 have ch:w.heap.size+1<l.heap.size:=ai.lt;have bu:=Hd aj;have bl:=Hd hA;have bn:=Hd ay;have aq:=Hd I;clear aj hA ay I ak ai p P J R k1 k2 k3 k4 HK HP a3 a8 a2 aa bv aw ar a9 c0 c1 c2 c3 c4 c5;go_wp2;refine(wpIn_wide (n:=0)).1 ?_;refine QC (gf:=82) (lb:=#[.pointer (some ⟨sb,0,none⟩),.pointer (some ⟨tb,0,none⟩),.pointer (some ⟨kb,0,none⟩),.pointer (some ⟨ob,0,none⟩)]) rfl (fun _ _=>by kernel_rfl) bu bl (fun _=>rfl)
  (SA w (w.heap.size+1) l) (fun c A' W'=>False) ?hI ?hIx ?h0 ?hround ?hdone ?hstop
 case hI=>exact fun s A1 A2 bx U' h hc bz=>⟨h.1.L5 (by omega) hc bz,AW h.2 hc.size⟩
 case hIx=>exact fun c s A1 A2 bx U' h _ _=>h
 case h0=>exact bn
 case hstop=>exact fun D c A' W' _ _ _ _ h _=>h.elim
 case hdone=>rintro D A5 T hD c6 bj ag ⟨hj,-⟩ hK;obtain⟨o,b0,bc⟩:=hj.jL (D:=D) (by omega) c6 (.deferred none);have HO:=Hd bc;clear bc hj;go_wp2;refine⟨by simp,.inl ⟨_,_,rfl,run_takeDeferred hK,?_⟩⟩;refine⟨_,results_tmp rfl _ _ _,?_⟩;exact⟨o,rfl,HO⟩
 case hround=>
  rintro l1 pre x A5 T bf cf cg c8 bj ag ⟨hj,cn⟩;obtain⟨xk,xn⟩:=x;obtain⟨W6,ab⟩:∃W6,T.alloc (.cells #[xk,xn] 106)=W6:=⟨_,rfl⟩
  have b1:Below T T W6:=by rw[<-ab];exact AG _ _
  have bk:Ah W6 T.heap.size 106 #[xk,xn]:=by rw[<-ab];exact Ah.new _ _ _
  have cl:W6.heap.size=T.heap.size+1:=by rw[<-ab];simp
  have bd:=bf.length_le;have an:=Hd b1;have ax:=Hd bk;have HJ:=Hd hj;have au:=Hd ag;have bq:=Hd bd;simp only[JP];clear b1 bk hj ag bj bf bd;simp
  gi_wp2
  refine⟨by omega,fun b C=>an.block b (au b C),fun W7 ae cm r hr=>?_⟩;have a7:Ah W7 T.heap.size 106 #[xk,xn]:=ae.Ap ax (by omega);have b5:=HJ.L5 (B:=T.heap.size) (A':=A5) (by omega) (Aj.AJ an) (fun _=>.inl);have cb:=b5.L5 (B:=w.heap.size) (A':=A5) (AF _) (ae.mono (fun b C=>by subst C;exact⟨by omega,c8⟩)) (fun _=>.inl);have b7:∀b,A5 b->b<W7.heap.size:=fun b C=>by have:=au b C;omega
  have x0:=a7.cell 0;have x1:=a7.cell 1;have xl:=a7.lt;obtain⟨ca,c7,o,a6,⟨Ao,oc,rfl,ho,I⟩,bb⟩:=cb;have b0:=a6.cell 0;have f0:=a6.frozen 0;simp at b0 x0 x1;have cp:=I.size;have ao:=Hd a6;have HO:=Hd ho;have aq:=Hd I;have bp:=Hd bb;have av:=Hd b7;have cj:pre.length+1<=3000000:=by have p:=bq.out;have P:=bo.out;have J:=bm.out;simp at p;omega
  generalize be:pre.length=n at *;have br:=Hd be;clear a7 b5 a6 ho I bb b7 ax HJ hr ae be
  gi_wp2_with (first
   | (
    gi_at_builtin;refine dR Ym (.tmp 24) (.tmp 26) rfl rfl (base:=w.heap.size) (n:=n) (m:=1) (N:=n+1) (v:=.slice Ao n oc) (src:=.slice (some ⟨W7.heap.size,0,none⟩) 1 1) (xs:=pre.flatMap Da) (news:=[.int .i64 xk,.int .i64 xn]) rfl rfl (AS HO (AG _ _)) (AY.Ap (c:=1) (cs:=[.int .i64 xk,.int .i64 xn]) (Ah.new W7 106 _) rfl (by simp[Value.oneCell'])) rfl (by unfold maxLen;omega) (by omega) (by simp;omega) ?_
    intro A9 c9 w9 r1 r2 r3;have ad:=r2.Ap (ao.alloc _) (.inr (by decide));have b9:=ad.cell 0;have f9:=ad.frozen 0;simp at b9;have b4:=Gq.put ca c7 ao bp av HO aq ((Aj.refl _ W7).alloc _) r3.1 r3.2 r1 (by decide);have a4:=Hd b4;clear r1 r2 r3 ad b4))
  refine⟨a4.2.size,eD a4.2 av,?_,?_⟩
  ·rw[B8,List.flatMap_append,br.out]
   exact a4.1
  ·have p:=a4.2.size
   omega
end
def Calm(g:Gz)(E:List (List It))(K:List (List (Nat×Nat))):Prop:=∀i t,i<E.length->t<=g.nt->(g.Iv (E.getD i []) (K.getD i []) t).length<=1
structure Sz(g:Gz)(L E:List (List It))(K:List (List (Nat×Nat))):Prop where
 l:L.length<=1000000
 e:E.length=L.length
 k:K.length=L.length
 es:∀i,(E.getD i []).length<=1000000
 ks:∀i,(K.getD i []).length<=1000000
 nt:g.nt<=120
variable{L:List (List It)}{l:List Int}{e:TypeId}
def Vj{w:World}{g:Gz}{E:List (List It)}{K:List (List (Nat×Nat))}(h:GU w v g L E K)(j:Sz g L E K)(hc:Calm g E K) :
  () 58 #[v,g.nt] w fun e w'=>e=.returned (.slice none 0 0)/\Below w w w':=by
 have R:Hid (∀y i t,Below w w y->i<L.length->t<=g.nt->() 81 #[v,.int .i64 i,.int .i64 t] y fun e w'=>∃p n co,e=.returned (.slice p n co)/\n<=1/\Below y y w'):=Hd (fun y i t hy T U=>(kD (h.later hy) T j.l j.k (j.es i) (j.ks i) U j.nt).mono (by rintro e w' ⟨o,rfl,p,co,rfl,-,hb⟩;exact⟨p,_,co,rfl,hc i t (by rw[j.e];exact T) U,hb⟩))
 have hl:=j.l;have ab:=j.nt;obtain⟨lv,lo,V,rfl,⟨⟨I,J,rfl,-,-⟩,⟨a5,-⟩,-,-,-⟩,⟨p,co,rfl,-,-,-⟩⟩:=h;have hk:=j.k;rw[hk]at R ⊢;rw[<-a5]at R ⊢;clear j hc hk a5;generalize L.length=n at *;generalize g.nt=P at *;generalize g.R.length=own at *;have C:=Ah.new w 113 #[own,.slice I n J,.slice p n co];have a2:=AG w (.cells #[own,.slice I n J,.slice p n co] 113);have a1:=Hd C;have a0:=Hd a2;clear C a2;go_enter func58,ntmps58
 go_wp2_with fail
 go_loopw [13,5] (fun ii o wr=>∃i:Nat,i<=n/\ii=.int .i64 i/\o=.slice none 0 0/\Hid (Below (w.heap.size+1) (w.alloc (.cells #[own,.slice I n J,.slice p n co] 113)) wr)) (fun ii _ _=>n-(intOf ii).toNat)
 case atStart=>exact⟨0,AX _,rfl,rfl,Hd (by simpa using Below.refl _ _)⟩
 case round=>
  obtain⟨i,T,rfl,rfl,l⟩:=hrel;rename World=>w9
  by_cases a8:i<n
  ·go_wp2_with fail
   go_loopw [18,5] (fun tt o wr=>∃t:Nat,t<=P+1/\tt=.int .i64 t/\o=.slice none 0 0/\Hid (Below (w.heap.size+1) (w.alloc (.cells #[own,.slice I n J,.slice p n co] 113)) wr)) (fun tt _ _=>P+1-(intOf tt).toNat)
   case atStart=>exact⟨0,AX _,rfl,rfl,l⟩
   case round=>
    clear l;obtain⟨t,U,rfl,rfl,l⟩:=hrel;rename World=>w8
    have a4:Below w w w8:=a0.trans (l.mono (by omega));have C:=a1.below (by simpa using l.out) a1.lt;have c0:=C.cell 0;have c1:=C.cell 1;have c2:=C.cell 2;have cl:=C.lt;simp at c0 c1 c2;have a7:=Hd a4;clear C a4;by_cases a9:t<P+1
    ·have HA:=Hd (R w8 i t a7 a8 (by omega))
     go_wp2_with (go_at_call 81;refine HA.mono ?_;rintro e w7 ⟨Aa,na,ca,rfl,aa,a3⟩;have a6:=Hd a3;have hq:¬((1:Int)<(na:Int)):=(by omega);clear a3)
     go_loopw [9,5] (fun kk o wr=>kk=.int .i64 1/\o=.slice none 0 0/\Hid (wr=w7)) (fun _ _ _=>0)
     case atStart=>exact⟨rfl,rfl,Hd rfl⟩
     case round=>
      obtain⟨rfl,rfl,HW⟩:=hrel;have hw:=HW.out;subst hw;clear HW;go_wp2;go_roundw
      case rel=>exact⟨t+1,by omega,by go_num,rfl,Hd (l.trans (a6.mono (by have:=l.size;simpa using this)))⟩
      case measure=>simp[intOf];omega
    ·obtain rfl:t=P+1:=by omega
     go_wp2;go_roundw
     case rel=>exact⟨i+1,by omega,by go_num,rfl,l⟩
     case measure=>simp[intOf];omega
  ·obtain rfl:i=n:=by omega
   go_wp2;go_ret;exact⟨rfl,a0.trans (l.mono (by omega))⟩
section
set_option maxRecDepth 1000000
def YA:I4 pz BT AQ 1000 1000 Ol NB DG D1 291 Mg Le Md where
 first:=gQ
 Pa:=VJ
 comes:=kZ
 Ez:=Vn
 spread:=dY
 items:=fun K o x C=>by
  have h:(BT.all fun K=>K.all fun x=>decide (x.1<=pz.R.length)&&decide (x.2<=1000000))=true:=by decide +kernel
  have i:=List.all_eq_true.1 (List.all_eq_true.1 h K o) x C;simp only[Bool.and_eq_true,decide_eq_true_eq]at i;exact i
 some_:=by decide +kernel
 B7:=by decide +kernel
 rules:=fun F hF=>by
  have h:(Mg.all fun F=>decide (F.length<=100000)&&F.all fun f=>decide (f.1<=pz.R.length)&&decide (f.2<291))=true:=by decide +kernel
  have i:=List.all_eq_true.1 h F hF;simp only[Bool.and_eq_true,decide_eq_true_eq]at i;refine⟨i.1,fun f t=>?_⟩;have j:=List.all_eq_true.1 i.2 f t;simp only[Bool.and_eq_true,decide_eq_true_eq]at j;exact j
 fit:=fun e p=>by have l:=List.all_eq_true.1 QI e p;simp only[Bool.and_eq_true,decide_eq_true_eq]at l;exact l.1
def Bs:List (List (Nat×Nat)):=[[],[(68,Di)],[(73,Bv)],[(69,Di)],[],[(97,Bj)],[],[],[],[],[],[],[],[],[],[(97,Bj)],[],[(97,Bj)],[(97,Bj)],[],[(97,Bj)],[],[(104,1)],[],[(1,32)],[(4,1568)],[(5,Dl)],[(8,Dl)],[(10,Bz)],[(13,Bz)],[(17,AM)],[(18,AM)],[(19,AM)],[(20,AM)],[(21,AM)],[(22,AM)],[(15,Bz)],[(16,AM)],[(12,Bz)],[(67,Bz)],[(65,Bz)],[(71,Bv)],[(81,Bv)],[(83,Bv)],[],[(82,Bv)],[(84,Bv)],[(94,JQ)],[],[(96,M9)],[],[(85,Bv)],[(87,Bv)],[(89,Bv)],[(92,Bv)],[(93,Bv)],[(86,Bv)],[(88,Bv)],[(90,Bv)],[(91,Bv)],[],[(97,EL)],[],[],[(97,EL)],[],[(9,Dl)],[(0,1)],[(99,JF)],[(98,JF)],[(2,32)],[(97,Bj)],[(97,Bj)],[(97,I0)],[(14,Bz)],[(79,AM)],[(77,Di)],[(66,Bz)],[(75,Di)],[(70,Di)],[(74,Bv)],[(64,Bz)],[(72,Bv)],[(97,Jk)],[(23,AM)],[(95,JQ)],[(27,Jf)],[(24,JG)],[(97,Bj)],[],[(97,Bj)],[(56,AM)],[(57,AM)],[(97,C8)],[(28,AM)],[(96,EL),(103,C8)],[],[],[(61,AM)],[(3,1568)],[],[],[],[(80,AM)],[(78,Di)],[(76,Di)],[(63,Bz)],[],[(101,I3)],[(97,I3)],[(25,JG)],[],[(97,BN)],[],[(102,C8)],[],[(29,AM)],[(6,Dl)],[(7,Dl)],[(11,Bz)],[(59,Bz)],[(58,Bz)],[(100,I3)],[(26,Jf)],[(97,Bj)],[(97,Bj)],[(52,AM)],[],[],[(62,AM)],[(33,546)],[],[(103,C8)],[],[(60,Bz)],[(55,DL)],[],[(51,AM)],[(49,DM)],[],[(36,AM)],[],[],[(38,Cj)],[(40,BN)],[],[(32,546)],[],[(30,AM)],[(97,Bj)],[],[(35,AM)],[(34,AM)],[(37,Cj)],[(39,BN)],[],[(97,MC)],[(31,AM)],[(53,DL)],[(97,MC)],[(50,DM)],[(42,Cj)],[(41,Cj)],[(54,DL)],[(44,Cj)],[(43,Cj)],[(97,BN)],[(97,BN)],[(97,BN)],[(97,BN)],[(46,BN)],[(45,BN)],[(48,BN)],[(47,BN)]]
def bJ:pz.Is Md BT (Gz.Cd BT 0) Mg=Bs:=by decide +kernel
theorem S3{o:Type}{l:List (List o)}(h:(l.all fun x=>decide (x.length<=n))=true)(i:Nat):(l.getD i []).length<=n:=by
 rw[dG];cases j:l[i]? with
 | none=>simp
 | some x=>have:=List.all_eq_true.1 h x (mG j);simpa using this
def Zf:Sz pz BT AQ Bs where
 l:=by decide +kernel
 e:=by decide +kernel
 k:=by decide +kernel
 es:=S3 (by decide +kernel)
 ks:=S3 (by decide +kernel)
 nt:=by decide
end
def AZ(g:Gz)(E:List (List It))(K:List (List (Nat×Nat)))(i t:Nat):It:=(g.Iv (E.getD i []) (K.getD i []) t).headD (0,0)
def Ev(g:Gz)(E:List (List It))(K:List (List (Nat×Nat)))(i:Nat):List It:=(List.range (g.nt+1)).map (AZ g E K i)
def EN(g:Gz)(E:List (List It))(i:Nat):List Int:=(List.range g.nn).map fun k=>Dx (E.getD i []) (g.nt+1+k)
def GM(A:Nat->Prop)(w:World)(v:Value)(l:List Int):Prop:=Bn A w v l.length 1 (fun k _ x=>x=.int .i64 (l.getD k 0))
def Hz(A:Nat->Prop)(w:World)(v:Value)(g:Gz):Prop:=Bn A w v (g.R.length+1) 2 (fun k j x=>if j=0 then x=.int .i64 ((g.Bo k).1:Nat) else B9 A w x (g.right k))
def E0(A:Nat->Prop)(w:World)(v:Value)(g:Gz)(E:List (List It))(K:List (List (Nat×Nat))):Prop:=
 ∃o j l,v=.agg #[o,g.nt,g.nn,j,l]/\Hz A w o g/\Bn A w j E.length 1 (fun i _ x=>DX A w x (Ev g E K i))/\Bn A w l E.length 1 (fun i _ x=>GM A w x (EN g E i))
def DX.mono{w:World}{l:List It}(h:DX A w v l)(i:∀b,A b->A' b):DX A' w v l:=Bn.mono h i (fun _ _ _ _ _ h=>h)
def GM.mono{w:World}(h:GM A w v l)(i:∀b,A b->A' b):GM A' w v l:=Bn.mono h i (fun _ _ _ _ _ h=>h)
def DX.AE{w:World}{l:List It}(h:DX A w v l)(j:Aj X w w')(i:∀b,A b->¬X b):DX A w' v l:=Bn.AE h j i (fun _ _ _ _ _ h=>h)
def GM.AE{w:World}(h:GM A w v l)(j:Aj X w w')(i:∀b,A b->¬X b):GM A w' v l:=Bn.AE h j i (fun _ _ _ _ _ h=>h)
def Hz.AE{w:World}{g:Gz}(h:Hz A w v g)(p:Aj X w w')(o:∀b,A b->¬X b):Hz A w' v g:=Bn.AE h p o (fun k j x _ _ l=>by
 split at l
 ·rename_i i;rw[if_pos i];exact l
 ·rename_i i;rw[if_neg i];exact l.AE p o)
def Hz.mono{w:World}{g:Gz}(h:Hz A w v g)(o:∀b,A b->A' b):Hz A' w v g:=Bn.mono h o (fun k j x _ _ l=>by
 split at l
 ·rename_i i;rw[if_pos i];exact l
 ·rename_i i;rw[if_neg i];exact l.mono o)
def E0.AE{w:World}{g:Gz}{E:List (List It)}{K:List (List (Nat×Nat))}(h:E0 A w v g E K)(j:Aj X w w')(i:∀b,A b->¬X b):E0 A w' v g E K:=by obtain⟨J,l,o,p,t,C,I⟩:=h;exact⟨J,l,o,p,t.AE j i,Bn.AE C j i (fun _ _ _ _ _ h=>h.AE j i),Bn.AE I j i (fun _ _ _ _ _ h=>h.AE j i)⟩
def E0.mono{w:World}{g:Gz}{E:List (List It)}{K:List (List (Nat×Nat))}(h:E0 A w v g E K)(i:∀b,A b->A' b):E0 A' w v g E K:=by obtain⟨I,j,l,o,p,t,C⟩:=h;exact⟨I,j,l,o,p.mono i,Bn.mono t i (fun _ _ _ _ _ h=>h.mono i),Bn.mono C i (fun _ _ _ _ _ h=>h.mono i)⟩
def Bn.L2{w:World}{B:Nat}{sz:Nat}{f:Nat->Nat->Value->Prop}(h:w.ownsRow B e sz v n XS)(hn:n<=1000000)(P:∀b cs,B<=b->Ah w b e cs->A b)(T:∀i j x,i<n->j<sz->XS[i*sz+j]?=some x->f i j x):Bn A w v n sz f:=by
 rcases Bi h with⟨rfl,rfl⟩|⟨b,c,rfl,t,C,I,_,p,R⟩
 ·exact⟨none,0,rfl,AF _,by omega,fun k l=>by omega⟩
 ·refine⟨_,c,rfl,I,hn,fun k l=>⟨b,0,rfl,P b p t R,C,fun j U=>?_⟩⟩
  have hl:=h.1;have a0:k*sz+j<n*sz:=by have J:(k+1)*sz<=n*sz:=Nat.mul_le_mul_right _ l;rw[Nat.succ_mul]at J;omega
  have o:XS[k*sz+j]?=some (XS[k*sz+j]'(by omega)):=eG (by omega);exact⟨_,by rw[Nat.zero_add,Bh h _ a0,o],T k j _ l U o⟩
def DZ(H:Nat->It)(n k:Nat):List It:=(List.range n).map fun t=>if t<k then H t else(0,0)
def Kr(H:Nat->It)(n k:Nat):(DZ H n k).length=n:=by simp[DZ]
def fW(H:Nat->It)(n:Nat):DZ H n n=(List.range n).map H:=by
 unfold DZ;refine List.map_congr_left fun t i=>?_
 rw[if_pos (List.mem_range.1 i)]
def jF(H:Nat->It){k:Nat}(j:k<n):DZ H n (k+1)=(DZ H n k).set k (H k):=by
 apply List.ext_getElem?;intro t;by_cases i:t<n
 ·by_cases e:t=k
  ·subst e
   rw[tG (by rw[Kr];exact i)];simp[DZ,i]
  ·rw[uG (Ne.symm e)]
   simp only[DZ,pG,List.getElem?_range i,Option.map_some];by_cases h:t<k
   ·rw[if_pos h,if_pos (by omega)]
   ·rw[if_neg h,if_neg (by omega)]
 ·rw[nG (by rw[Kr];omega),nG (by rw[List.length_set,Kr];omega)]
def jD(H:Nat->It){k:Nat}(j:k<n)(h:H k=(0,0)):DZ H n (k+1)=DZ H n k:=by
 unfold DZ;refine List.map_congr_left fun t l=>?_
 by_cases e:t=k
 ·rw[if_pos (by omega),if_neg (by omega),e,h]
 ·by_cases i:t<k
  ·rw[if_pos i,if_pos (by omega)]
  ·rw[if_neg i,if_neg (by omega)]
theorem TE:∀(l:List It) (k:Nat) (x:It),k<l.length->((l.flatMap Da).set (k*2) x.1).set (k*2+1) x.2=(l.set k x).flatMap Da
 | [],k,x,h=>by simp at h
 | y::l,0,x,_=>by simp[Da]
 | y::l,k+1,x,h=>by have:=TE l k x (by simpa using h);rw[show (k+1)*2=k*2+2 by omega,List.flatMap_cons,List.set_cons_succ,List.flatMap_cons,<-this];simp[Da]
theorem iS(H:Nat->It)(n:Nat):((DZ H n 0).flatMap Da).toArray=Array.replicate (n*2) (.int .i64 0):=by
 have e:DZ H n 0=List.replicate n (0,0):=by
  unfold DZ;apply List.ext_getElem?;intro t;by_cases i:t<n
  ·simp[i]
  ·rw[nG (by simpa using i),nG (by simpa using i)]
 rw[e];induction n with
 | zero=>simp
 | succ n o=>
  have l:DZ H n 0=List.replicate n (0,0):=by
   unfold DZ;apply List.ext_getElem?;intro t;by_cases i:t<n
   ·simp[i]
   ·rw[nG (by simpa using i),nG (by simpa using i)]
  have j:=congrArg Array.toList (o l);simp only[Array.toList_replicate]at j;apply Array.toList_inj.1;rw[List.replicate_succ,List.flatMap_cons,Array.toList_replicate,show (n+1)*2=n*2+1+1 by omega,List.replicate_succ,List.replicate_succ];simpa [Da] using j
def WB(R:n<=1000000)(y:World):(Instr.makeSlice 126 (.int .i64 (n:Nat)) (.int .i64 (n:Nat))).run Tryz.prog y=.ok (.slice (y,0) n n) (y.alloc (.cells (Array.replicate (n*2) (.int .i64 0)) 106)):=by
 obtain⟨i,o,t,C,I⟩:=info_parts (show (Tryz.prog.info? 106).map (fun i=>(i.zero,i.size,i.bytes))=some (some (.agg #[.int .i64 0,.int .i64 0]),2,16) by kernel_rfl);have l:(i.bytes:Int)*(n:Int)<=281474976710656:=by rw[I];omega
 have p:=run_make (P:=Tryz.prog) y 126 106 i (.agg #[.int .i64 0,.int .i64 0]) underlying126 o t .i64 .i64 n n (by omega) (Int.le_refl _) l (by omega);rw[p,C,Int.toNat_natCast];congr 4;unfold madeCells;apply Array.ext
 ·simp
 ·intro j J P
  simp[Value.cells];have:j%2=0\/j%2=1:=by omega
  rcases this with h|h<;>simp[h]
def NW{w:World}{B b:Nat}{sz:Nat}(h:Ah w b e XS.toArray)(j:B<=b)(i:XS.length=n*sz)(l:n<=1000000):w.ownsRow B e sz (.slice (b,0) n n) n XS:=
 ⟨i,.inr ⟨b,n,XS.toArray,rfl,j,h,AF _,by unfold maxLen;omega,by simp[i],by simp[<-i]⟩⟩
def Rt(w wr:World)(b:Nat):Prop:=b<w.heap.size\/(w.heap.size<=b/\∃j,Ah wr b 3 j)
def B9.rt{w wr w2:World}{l:List Nat}(h:B9 (Rt w wr) wr v l)(R:w.heap.size<=wr.heap.size)(P:wr.heap.size<=w2.heap.size)(I:∀b,b<wr.heap.size->Rt w wr b->w2.heap[b]?=wr.heap[b]?):B9 (Rt w w2) w2 v l:=by
 have J:∀b,Rt w wr b->b<wr.heap.size:=fun b j=>by
  rcases j with o|⟨o,t,p⟩
  ·omega
  ·exact p.lt
 have C:BU (Rt w wr) wr w2:=fun b j=>I b (J b j) j
 refine h.BP (fun b j=>?_) P C;rcases id j with o|⟨o,t,p⟩
 ·exact .inl o
 ·exact .inr ⟨o,t,(C b j).trans p⟩
def K9(z:Nat×Value):List Value:=[.int .i64 z.1,z.2]
structure G9(w wr:World)(B:Nat)(g:Gz)(k:Nat)(rv:Value)(Z:List (Nat×Value)):Prop where
 size:w.heap.size<=B/\B<=wr.heap.size
 len:Z.length=k
 row:wr.ownsRow B 119 2 rv Z.length (Z.flatMap K9)
 is:∀(j:Nat) (x:Nat×Value),Z[j]?=some x->x.1=(g.Bo j).1/\B9 (Rt w wr) wr x.2 (g.right j)
variable{w:World}{B k:Nat}{Z:List (Nat×Value)}
def G9.later{wr w2:World}{g:Gz}{rv:Value}(h:G9 w wr B g k rv Z)(l:Below wr wr w2):G9 w w2 B g k rv Z:=
 ⟨⟨h.size.1,AW h.size.2 l.size⟩,h.len,AS h.row l,fun j x o=>⟨(h.is j x o).1,(h.is j x o).2.rt (AW h.size.1 h.size.2) l.size (fun b p _=>l.block b p)⟩⟩
def G9.more{l wc:World}{g:Gz}{rv:Value}(h:G9 w l B g k rv Z){x:Value}(hx:B9 (Rt w l) l x (g.right k)){A:Option Addr}{c:Nat}(r1:wc.ownsRow B 119 2 (.slice A (Z.length+1) c) (Z.length+1) (Z.flatMap K9++[.int .i64 ((g.Bo k).1:Nat),x]))(r2:AI B [119] l wc)
  {tb:Nat}  (T:Ah wc tb 80 cs) (hB:w.heap.size<=tb) (u:Value):G9 w (wc.setCell (tb,0) u) B g (k+1) (.slice A (Z.length+1) c) (Z++[((g.Bo k).1,x)]):=by
 have P:∀b,b<l.heap.size->Rt w l b->(wc.setCell (tb,0) u).heap[b]?=l.heap[b]?:=fun b hb R=>by
  have o:wc.heap[b]?=l.heap[b]?:=r2.block b hb (by
   rcases R with o|⟨_,C,o⟩
   ·exact .inl (Ba o h.size.1)
   ·refine .inr fun a2 a3 m J=>?_
    unfold Ah at o;rw[o]at J;cases J
    decide)
  have a1:b≠tb:=by
   rcases R with I|⟨_,C,I⟩
   ·omega
   ·have h3:Ah wc b 3 C:=o.trans I
    exact Ah.Bf h3 T (by decide)
  exact(Below.heap_setCell _ _ _ _ a1).trans o
 have t:l.heap.size<=(wc.setCell (tb,0) u).heap.size:=by simpa [World.setCell] using r2.size
 have U:=AW h.size.1 h.size.2;refine⟨⟨h.size.1,AW h.size.2 t⟩,by simp[h.len],?_,fun j y p=>?_⟩
 ·rw[B8,List.flatMap_append]
  exact EC r1 (p:=⟨tb,0,none⟩) (Ej r1 T (by decide)) u
 ·by_cases hj:j<Z.length
  ·rw[gL hj]at p
   exact⟨(h.is j y p).1,(h.is j y p).2.rt U t P⟩
  ·rw[List.getElem?_append_right (by omega)]at p
   have a0:j-Z.length=0:=by have:=(sG.1 p).1;simpa using this
   rw[a0]at p;cases p
   have:j=k:=by have:=h.len;omega
   subst this;exact⟨rfl,hx.rt U t P⟩
def G9.done{wr:World}{g:Gz}{rv:Value}(h:G9 w wr B g (g.R.length+1) rv Z)(hn:g.R.length<=300){tb rb:Nat}{T:Array Value}(P:Ah wr tb 80 cs)(J:Ah wr rb 80 T)(hB:w.heap.size<=tb)(a1:w.heap.size<=rb):Hz (fun b=>b<wr.heap.size/\b≠tb/\b≠rb) wr rv g:=by
 unfold Hz;have hl:=h.len;rw[<-hl];refine Bn.L2 h.row (by omega) (fun b U a2 o=>⟨o.lt,Ah.Bf o P (by decide),Ah.Bf o J (by decide)⟩) (fun i j x C I hx=>?_);obtain⟨z,R⟩:∃z,Z[i]?=some z:=⟨_,eG C⟩
 obtain⟨_,a0⟩:=sG.1 R;have p:=CJ K9 2 (fun _=>rfl) Z i j C I;rw[hx,a0]at p;obtain⟨h1,h2⟩:=h.is i z R
 match j,I with
 | 0,_=>rw[if_pos rfl];cases p;rw[h1]
 | 1,_=>
  rw[if_neg (by omega)];cases p
  refine h2.mono (fun b hb=>?_);rcases hb with t|⟨t,U,l⟩
  ·exact⟨Ba t (AW h.size.1 h.size.2),by omega,by omega⟩
  ·exact⟨l.lt,Ah.Bf l P (by decide),Ah.Bf l J (by decide)⟩
structure GB(w1 wr:World)(tb:Nat)(g:Gz)(E:List (List It))(K:List (List (Nat×Nat)))(i:Nat)(rv av gv:Value)(ZA:List (Value×List It))(ZG:List (Value×List Int))(ds:List Deferred):Prop where
 AE:Aj (·=tb) w1 wr
 lt:tb<w1.heap.size
 Cv:Ah wr tb 80 #[rv,g.nt,g.nn,av,gv]
 za:ZA.map (·.2)=(List.range i).map (Ev g E K)
 zg:ZG.map (·.2)=(List.range i).map (EN g E)
 JB:wr.ownsRow w1 126 1 av ZA.length (ZA.map (·.1))
 Mt:∀z∈ZA,wr.ownsRow w1 106 2 z.1 z.2.length (z.2.flatMap Da)
 goto:wr.ownsRow w1 43 1 gv ZG.length (ZG.map (·.1))
 MW:∀z∈ZG,wr.ownsRow w1 3 1 z.1 z.2.length (z.2.map B3)
 marks:CQ w1.heap.size wr ds
variable{g:Gz}{E:List (List It)}{K:List (List (Nat×Nat))}
section
variable {w1 wr w':World} {tb rb:Nat} {g:Gz} {E:List (List It)} {K:List (List (Nat×Nat))} {i:Nat} {rv av gv:Value} {ZA:List (Value×List It)} {ZG:List (Value×List Int)} {ds:List Deferred}
def CQ.later(h:CQ B wr ds)(l:Below wr wr w'):CQ B w' ds:=h.BP fun D _ j _=>(l.block D (aG.1 j).1).trans j
def CQ.keeps{o:Nat}{T:List TypeId}(h:CQ B wr ds)(p:AI o T wr w'):CQ B w' ds:=h.BP fun D _ j _=>(p.block D (aG.1 j).1 (.inr fun C t m l=>by rw[j]at l;cases l)).trans j
def CQ.stored{b:Nat}{t:TypeId}(h:CQ B wr ds)(l:Ah wr b t cs)(j:Nat)(u:Value):CQ B (wr.setCell (b,j) u) ds:=h.BP fun D _ o _=>(Below.heap_setCell _ _ _ _ (fun e=>by have e:D=b:=e;subst e;unfold Ah at l;rw[o]at l;cases l)).trans o
def GB.later(h:GB w1 wr tb g E K i rv av gv ZA ZG ds)(j:Below wr wr w'):GB w1 w' tb g E K i rv av gv ZA ZG ds:=
 ⟨h.AE.next (Aj.AJ j),h.lt,h.Cv.below j h.Cv.lt,h.za,h.zg,AS h.JB j,fun z l=>AS (h.Mt z l) j,AS h.goto j,fun z l=>AS (h.MW z l) j,h.marks.later j⟩
def GB.marked(h:GB w1 wr tb g E K i rv av gv ZA ZG ds){j:List Deferred}(l:CQ w1.heap.size wr j):GB w1 wr tb g E K i rv av gv ZA ZG j:=
 ⟨h.AE,h.lt,h.Cv,h.za,h.zg,h.JB,h.Mt,h.goto,h.MW,l⟩
def GB.more(h:GB w1 wr tb g E K i rv av gv ZA ZG ds){T U:Value}(ha:wr.ownsRow w1 106 2 T (Ev g E K i).length ((Ev g E K i).flatMap Da))(hg:wr.ownsRow w1 3 1 U (EN g E i).length ((EN g E i).map B3))
  (o:AI w1 [126,43] wr w') {j l:Value} (ka:w'.ownsRow w1 126 1 j (ZA.length+1) (ZA.map (·.1)++[T])) (kg:w'.ownsRow w1 43 1 l (ZG.length+1) (ZG.map (·.1)++[U])) :
  GB w1 ((w'.setCell (tb,3) j).setCell (tb,4) l) tb g E K (i+1) rv j l (ZA++[(T,Ev g E K i)]) (ZG++[(U,EN g E i)]) ds:=by
 have hs:=h.AE.size;have P:Ah w' tb 80 #[rv,g.nt,g.nn,av,gv]:=o.Ap h.Cv (.inr (by decide));have a0:Ah (w'.setCell (tb,3) j) tb 80 #[rv,g.nt,g.nn,j,gv]:=by simpa using P.Be 3 j
 have a3:Ah ((w'.setCell (tb,3) j).setCell (tb,4) l) tb 80 #[rv,g.nt,g.nn,j,l]:=by simpa using a0.Be 4 l
 have a1:Aj (·=tb) w1 w':=h.AE.trans (Y:=fun b=>w1.heap.size<=b) ⟨o.os,o.tape,o.output,o.size,fun k a2 hx=>o.block k a2 (.inl (by omega))⟩ (fun b hb hx=>by omega);have hc:Aj (·=tb) w1 ((w'.setCell (tb,3) j).setCell (tb,4) l):=(a1.set (p:=⟨tb,3,none⟩) (.inr rfl) _).set (p:=⟨tb,4,none⟩) (.inr rfl) _;have BA:∀{e:TypeId} {C n:Nat} {v:Value} {I:List Value},w'.ownsRow w1 e C v n I->e≠80->((w'.setCell (tb,3) j).setCell (tb,4) l).ownsRow w1 e C v n I:=fun t J=>EC (EC t (p:=⟨tb,3,none⟩) (Ej t P J) _) (p:=⟨tb,4,none⟩) (Ej t P J) _
 have BP:∀{e:TypeId} {C n:Nat} {v:Value} {I:List Value},wr.ownsRow w1 e C v n I->e ∉ [126,43]->w'.ownsRow w1 e C v n I:=fun t J=>o.own t (.inr J)
 refine⟨hc,h.lt,a3,?_,?_,?_,fun z R=>?_,?_,fun z R=>?_,((h.marks.keeps o).stored P 3 _).stored a0 4 _⟩
 ·rw[By,h.za,List.range_succ,By];rfl
 ·rw[By,h.zg,List.range_succ,By];rfl
 ·rw[By,B8]
  exact BA ka (by decide)
 ·rcases mA.1 R with p|p
  ·exact BA (BP (h.Mt z p) (by decide)) (by decide)
  ·rw[mS.1 p]
   exact BA (BP ha (by decide)) (by decide)
 ·rw[By,B8]
  exact BA kg (by decide)
 ·rcases mA.1 R with p|p
  ·exact BA (BP (h.MW z p) (by decide)) (by decide)
  ·rw[mS.1 p]
   exact BA (BP hg (by decide)) (by decide)
def Zm(l:List It)(k:Nat):(l.flatMap Da)[k*2]?=l[k]?.map (fun x=>Value.int .i64 x.1)/\(l.flatMap Da)[k*2+1]?=l[k]?.map (fun x=>Value.int .i64 x.2):=by
 by_cases j:k<l.length
 ·have h0:=CJ Da 2 (fun _=>rfl) l k 0 j (by omega)
  have o:=CJ Da 2 (fun _=>rfl) l k 1 j (by omega);rw[Nat.add_zero]at h0;rw[h0,o,eG j];exact⟨rfl,rfl⟩
 ·have p:=Lq Da 2 (fun _=>rfl) l
  rw[nG (by omega),nG (by omega),nG (by omega)];exact⟨rfl,rfl⟩
theorem dZ{l:List It}(h:w.ownsRow B 106 2 v l.length (l.flatMap Da))(P:l.length<=1000000)(C:∀b cs,B<=b->Ah w b 106 cs->A b):DX A w v l:=by
 refine Bn.L2 h P C (fun i j x I J o=>?_);obtain⟨h0,t⟩:=Zm l i;have p:l[i]?=some (l.getD i (0,0)):=by rw[dG,eG I];rfl
 match j,J with
 | 0,_=>
  rw[Nat.add_zero,h0,p]at o;cases o
  rfl
 | 1,_=>
  rw[t,p]at o;cases o
  rfl
def WG(h:w.ownsRow B 3 1 v l.length (l.map B3))(C:l.length<=1000000)(t:∀b cs,B<=b->Ah w b 3 cs->A b):GM A w v l:=by
 refine Bn.L2 h C t (fun i j x o I p=>?_);obtain rfl:j=0:=by omega
 rw[Nat.mul_one,Nat.add_zero,pG,eG o]at p;cases p
 rw[dG,eG o];rfl
def GB.done(h:GB w1 wr tb g E K E.length rv av gv ZA ZG ds)(hr:Hz (fun b=>b<w1.heap.size/\b≠tb/\b≠rb) w1 rv g)(hn:E.length<=1000000)(a2:g.nt<=120)(a1:g.nn<=120)(a3:rb<w1.heap.size)(a4:tb<w1.heap.size) :
  E0 (fun b=>(b<wr.heap.size/\b≠tb/\b≠rb)/\¬(w1.heap.size<=b/\wr.heap[b]?=some (.deferred (some [])))) wr (.agg #[rv,g.nt,g.nn,av,gv]) g E K:=by
 have hs:=h.AE.size;have R:ZA.length=E.length:=by simpa using congrArg List.length h.za
 have T:ZG.length=E.length:=by simpa using congrArg List.length h.zg
 have I:∀{a0:TypeId} (b:Nat) (P:Array Value),w1.heap.size<=b->Ah wr b a0 P->(b<wr.heap.size/\b≠tb/\b≠rb)/\¬(w1.heap.size<=b/\wr.heap[b]?=some (.deferred (some []))):=fun b P t o=>⟨⟨o.lt,by omega,by omega⟩,fun p=>by unfold Ah at o;rw[p.2]at o;cases o⟩
 refine⟨rv,av,gv,rfl,(hr.AE h.AE (fun b J=>J.2.1)).mono (fun b J=>⟨⟨Ba J.1 hs,J.2⟩,fun p=>by omega⟩),?_,?_⟩
 ·rw[<-R]
  refine Bn.L2 h.JB (by omega) I (fun i j x l U C=>?_);obtain rfl:j=0:=by omega
  rw[Nat.mul_one,Nat.add_zero,pG,eG l]at C;cases C
  have t:=h.Mt _ (List.getElem_mem l);have o:ZA[i].2=Ev g E K i:=by have p:=congrArg (·[i]?) h.za;simp only[pG,eG l,List.getElem?_range (R▸l),Option.map_some]at p;exact Option.some.inj p
  rw[o]at t;exact dZ t (by simp[Ev];omega) I
 ·rw[<-T]
  refine Bn.L2 h.goto (by omega) I (fun i j x l U C=>?_);obtain rfl:j=0:=by omega
  rw[Nat.mul_one,Nat.add_zero,pG,eG l]at C;cases C
  have t:=h.MW _ (List.getElem_mem l);have o:ZG[i].2=EN g E i:=by have p:=congrArg (·[i]?) h.zg;simp only[pG,eG l,List.getElem?_range (T▸l),Option.map_some]at p;exact Option.some.inj p
  rw[o]at t;exact WG t (by simp[EN];omega) I
end
def Fl(G:Nat->Int)(n k:Nat):List Int:=(List.range n).map fun t=>if t<k then G t else 0
def Zq(G:Nat->Int)(l:k<n):Fl G n (k+1)=(Fl G n k).set k (G k):=by
 apply List.ext_getElem?;intro t;by_cases j:t<n
 ·by_cases e:t=k
  ·subst e
   rw[tG (by simp[Fl];exact j)];simp[Fl,j]
  ·rw[uG (Ne.symm e)]
   simp only[Fl,pG,List.getElem?_range j,Option.map_some];by_cases h:t<k
   ·rw[if_pos h,if_pos (by omega)]
   ·rw[if_neg h,if_neg (by omega)]
 ·rw[nG (by simp[Fl];omega),nG (by simp[Fl];omega)]
def eJ(G:Nat->Int)(n:Nat):Fl G n n=(List.range n).map G:=by
 unfold Fl;refine List.map_congr_left fun t j=>?_
 rw[if_pos (List.mem_range.1 j)]
def Y9(G:Nat->Int)(n:Nat):((Fl G n 0).map B3).toArray=Array.replicate n (.int .i64 0):=by apply Array.toList_inj.1;rw[Array.toList_replicate];simp[Fl,B3,List.map_const']
section
attribute [local go_sem] Oper.semAt_some
def kC(P:Program)(fn:Func)(R:Ending->World->Prop):Exit->Act->World->Prop
 | .normal,a,w | .ret,a,w=>LeavesInM Fence.wide 0 P fn a.tmps R a.defers .returning w
 | _,_,_=>False
theorem Zu{P:Program}{f:FuncId}{fn:Func}{c:Code}{args:Array Value}{R:Ending->World->Prop}(j:P.funcs[f]?=some fn)(i:fn.body=some c)
  (h:c.wp P (kC P fn R) {tmps:=args++Array.replicate (fn.ntmps-args.size) undef,defers:=[]} w):Calls P f args w R:=by
 refine(callsIn_wide (n:=0)).1 (callsIn_of_wp_marks j i trivial (wpIn_wide.2 (Code.wp_mono ?_ h)) rfl);intro e a w h;cases e with
 | normal=>exact h
 | ret=>exact h
 | panic o=>exact h.elim
 | exit id=>exact h.elim
 | goto l=>exact h.elim
 | outgrown=>exact h.elim
def Up(y:World)(g:Gz)(L E:List (List It))(K:List (List (Nat×Nat)))(e:Ending)(w':World):Prop:=∃i,e=.returned (.tuple #[i,.int .i64 0])/\GU w' i g L E K/\Below y y w'
def RH(w:World)(g:Gz)(E:List (List It))(K:List (List (Nat×Nat)))(e:Ending)(w':World):Prop:=∃i,e=.returned (.tuple #[i,.int .i64 0])/\E0 (fun b=>b<w'.heap.size) w' i g E K/\Below w w w'
def GU.form(h:GU w v g L E K)(o:K.length=L.length):∃i l j co,v=.agg #[g.R.length,.slice i L.length l,.slice j L.length co]:=by obtain⟨R,P,V,rfl,⟨⟨i,l,rfl,-,t⟩,⟨p,C⟩,hit,J,-⟩,⟨j,co,rfl,-,-,I⟩⟩:=h;exact⟨i,l,j,co,by rw[o,p]⟩
def UF(j rb mb tb:Nat)(l o p:Value)(f:Nat->Value)(i:List Deferred):Act:={tmps:=#[f 0,.pointer (some ⟨j,0,none⟩),.pointer (some ⟨rb,0,none⟩),.int .i64 0,.pointer (some ⟨mb,0,none⟩),f 5,.pointer (some ⟨tb,0,none⟩),f 7,f 8,f 9,f 10,f 11,f 12,f 13,f 14,f 15,f 16,f 17,f 18,f 19,f 20,f 21,f 22,f 23,f 24,f 25,f 26,f 27,f 28,f 29,f 30,f 31,f 32,f 33,f 34,f 35,f 36,f 37,f 38,f 39,f 40,f 41,f 42,f 43,f 44,f 45,f 46,f 47,f 48,f 49,f 50,f 51,f 52,f 53,f 54,f 55,f 56,f 57,f 58,f 59,f 60,f 61,f 62,f 63,l,o,p,f 67,f 68,f 69,f 70,f 71,f 72,f 73,f 74,f 75,f 76,f 77,f 78,f 79,f 80,f 81,f 82,f 83,f 84,f 85,f 86,f 87,f 88,f 89,f 90,f 91,f 92,f 93,f 94,f 95,f 96,f 97,f 98,f 99,f 100,f 101,f 102,f 103,f 104,f 105,f 106,f 107,f 108,f 109,f 110,f 111,f 112,f 113,f 114,f 115,f 116,f 117,f 118,f 119,f 120,f 121,f 122,f 123,f 124,f 125,f 126,f 127,f 128,f 129,f 130],defers:=i}
def RU(l rb mb tb o J:Nat)(i p t C I:Value)(f:Nat->Value)(j:List Deferred):Act:={tmps:=#[f 0,.pointer (some ⟨l,0,none⟩),.pointer (some ⟨rb,0,none⟩),.int .i64 0,.pointer (some ⟨mb,0,none⟩),f 5,.pointer (some ⟨tb,0,none⟩),f 7,f 8,f 9,i,.pointer (some ⟨o,0,none⟩),.pointer (some ⟨J,0,none⟩),f 13,f 14,f 15,f 16,f 17,f 18,f 19,f 20,f 21,f 22,f 23,f 24,f 25,f 26,f 27,f 28,f 29,f 30,f 31,f 32,f 33,f 34,f 35,f 36,f 37,f 38,f 39,f 40,f 41,f 42,f 43,f 44,f 45,f 46,f 47,f 48,f 49,f 50,f 51,f 52,f 53,f 54,f 55,f 56,f 57,f 58,f 59,f 60,f 61,f 62,f 63,p,t,i,f 67,f 68,f 69,f 70,f 71,f 72,f 73,f 74,f 75,C,I,f 78,f 79,f 80,f 81,f 82,f 83,f 84,f 85,f 86,f 87,f 88,f 89,f 90,f 91,f 92,f 93,f 94,f 95,f 96,f 97,f 98,f 99,f 100,f 101,f 102,f 103,f 104,f 105,f 106,f 107,f 108,f 109,f 110,f 111,f 112,f 113,f 114,f 115,f 116,f 117,f 118,f 119,f 120,f 121,f 122,f 123,f 124,f 125,f 126,f 127,f 128,f 129,f 130],defers:=j}
def MG(o y z:World)(l p i n:Nat)(iv tv:Value)(H:Nat->It)(k:Nat)(j:List Deferred):Prop:=
 Below y y z/\Ah z l 125 #[iv,tv]/\Ah z p 126 #[.slice (i,0) n n]/\Ah z i 106 ((DZ H n k).flatMap Da).toArray/\CQ o.heap.size z j
def WZ:El Tryz.prog 56 119 2 32:=El.of (z:=.agg #[.int .i64 0,.slice none 0 0]) underlying56 (by kernel_rfl) rfl (by decide)
def ON:El Tryz.prog 77 126 1 24:=El.of (z:=.slice none 0 0) underlying77 (by kernel_rfl) rfl (by decide)
def cJ(hg:GN w v g)(hs:Sz g L E K)(hc:Calm g E K)
  (b1:∀y,Below w w y->() 57 #[v] y (Up y g L E K)):() 39 #[v] w (RH w g E K):=by
 have HG:=Hd hg;have HS:=Hd hs;have ez:=Hd b1;have en:Hid (∀y mv,GU y mv g L E K->() 58 #[mv,g.nt] y fun e w'=>e=.returned (.slice none 0 0)/\Below y y w'):=Hd (fun y mv h=>Vj h hs hc);obtain⟨AT,cT,AN,cN,AR,cR,rfl,-,-⟩:=hg.open_;have ep:=Hd (Ah.new w 58 #[.slice AT g.nt cT,.slice AN g.nn cN,.slice AR g.R.length cR,g.s]);have da:=Hd (AG w (.cells #[.slice AT g.nt cT,.slice AN g.nn cN,.slice AR g.R.length cR,g.s] 58));have de:=Hd (ep.alloc (.cells #[.slice none 0 0,.int .i64 0,.int .i64 0,.slice none 0 0,.slice none 0 0] 80))
 have dj:=Hd (Ah.new (w.alloc (.cells #[.slice AT g.nt cT,.slice AN g.nn cN,.slice AR g.R.length cR,g.s] 58)) 80 #[.slice none 0 0,.int .i64 0,.int .i64 0,.slice none 0 0,.slice none 0 0]);have a7:=Hd (da.alloc da.size (.cells #[.slice none 0 0,.int .i64 0,.int .i64 0,.slice none 0 0,.slice none 0 0] 80));have j3:=hg.fit.nr;have jw:=hs.nt;have jv:=hg.fit.nn;clear hg hs hc b1 ep da;refine Zu func39 rfl ?_;simp only[ntmps39,List.size_toArray,List.length_cons,List.length_nil,Nat.reduceAdd,Nat.reduceSub,Array.replicate_succ,Array.replicate_zero,List.push_toArray,List.append_toArray,List.nil_append,List.cons_append]
 go_wp2_with (first
  | (
    go_at_call 57;refine(ez _ a7).mono ?_;rintro e J ⟨mv,rfl,hM,cv⟩
    obtain⟨AL,cL,Ao,co,jl⟩:=hM.form HS.k;subst jl;have HM:=Hd hM;have ei:=Hd (a7.trans (cv.mono a7.size));have ak:=Hd (de.below cv de.lt);have cl:=Hd (dj.below cv dj.lt);have eo:=Hd (en (J.alloc (.cells #[g.R.length,.slice AL L.length cL,.slice Ao L.length co] 113)) _ (hM.later (AG _ _)));have g0:=Ah.cell ak 0;have g1:=Ah.cell ak 1;have g2:=Ah.cell ak 2;have g3:=Ah.cell ak 3;have gl:=ak.lt;simp at g0 g1 g2 g3;clear hM cv)
  | (
    go_at_call 58;refine eo.mono ?_;rintro e w3 ⟨rfl,bt⟩
    have au:=Hd ((ak.alloc (.cells #[g.R.length,.slice AL L.length cL,.slice Ao L.length co] 113)).below bt (ak.alloc _).lt);have fb:=Hd ((cl.alloc (.cells #[g.R.length,.slice AL L.length cL,.slice Ao L.length co] 113)).below bt (cl.alloc _).lt);have df:=Hd ((Ah.new J 113 #[g.R.length,.slice AL L.length cL,.slice Ao L.length co]).below bt (by simp));have db:Hid (Below J J w3):=Hd ((AG J _).trans (bt.mono (by simp)));have x0:=Ah.cell au 0;have x1:=Ah.cell au 1;have x2:=Ah.cell au 2
    have x3:=Ah.cell au 3;have xl:=au.lt;simp at x0 x1 x2 x3;clear bt g0 g1 g2 g3 gl))
 clear en ez eo;have ff:=Hd (fun(y:World) (hy:Below w w y) (k:Nat) (hk:k<=g.R.length)=>P8 HG hy hk);have a4:Hid (w.heap.size+1<J.heap.size/\J.heap.size<w3.heap.size):=Hd ⟨by have h:=cl.lt;simpa using h,df.lt⟩;have HT:=Hd (Ah.new w3 80 #[.slice none 0 0,g.nt,g.nn,.slice none 0 0,.slice none 0 0]);have es:=Hd (au.alloc (.cells #[.slice none 0 0,g.nt,g.nn,.slice none 0 0,.slice none 0 0] 80));have dn:=Hd (fb.alloc (.cells #[.slice none 0 0,g.nt,g.nn,.slice none 0 0,.slice none 0 0] 80))
 have f2:=Hd (df.alloc (.cells #[.slice none 0 0,g.nt,g.nn,.slice none 0 0,.slice none 0 0] 80));have bj:Hid (Below J J (w3.alloc (.cells #[.slice none 0 0,g.nt,g.nn,.slice none 0 0,.slice none 0 0] 80))):=Hd (db.alloc db.size _);have it:Hid ((w3.alloc (.cells #[.slice none 0 0,g.nt,g.nn,.slice none 0 0,.slice none 0 0] 80)).heap.size=w3.heap.size+1):=Hd (by simp);have a3:(w.alloc (.cells #[.slice AT g.nt cT,.slice AN g.nn cN,.slice AR g.R.length cR,g.s] 58)).heap.size=w.heap.size+1:=by simp
 rw[a3]at dn;clear de dj a7 ak cl au fb df db x0 x1 x2 x3 xl a3;generalize w3.alloc (.cells #[.slice none 0 0,g.nt,g.nn,.slice none 0 0,.slice none 0 0] 80)=W at *;generalize w3.heap.size=T at *;generalize gm:J.heap.size=mb at *;have dg:=Hd gm;clear gm;have ev:Hid (G9 w W W.heap.size g 0 (.slice none 0 0) []):=Hd ⟨⟨by have p:=bj.size;have P:=a4.out;have U:=it.out;omega,AF _⟩,rfl,⟨rfl,.inl ⟨rfl,rfl⟩⟩,fun j x hx=>by cases hx⟩;go_loopw [47] (fun kk wr=>∃(k:Nat) (rv:Value) (Z:List (Nat×Value)),k<=g.R.length+1/\kk=.int .i64 k/\Hid (G9 w wr W.heap.size g k rv Z)/\Hid (Ah wr T 80 #[rv,g.nt,g.nn,.slice none 0 0,.slice none 0 0])/\Hid (Aj (·=T) W wr)) (fun kk _=>g.R.length+1-(intOf kk).toNat)
 case atStart=>exact⟨0,_,[],AX _,rfl,ev,HT,Hd (Aj.refl _ _)⟩
 case round=>
  obtain⟨k,rv,Z,hk,rfl,aw,ax,ar⟩:=hrel;rename World=>wr
  have bd:=ar.Ap es (by have:=a4.out;omega);have jz:=CG aw.row;obtain⟨ab,ad,rfl⟩:=jz;have dw:=aw.len;rw[dw]at aw ax;have x0:=Ah.cell bd 0;have x1:=Ah.cell bd 1;have x2:=Ah.cell bd 2;have x3:=Ah.cell bd 3;have t0:=Ah.cell ax 0;simp at x0 x1 x2 x3 t0;have an:=Hd dw;have ij:=Hd bd;clear bd dw;by_cases e6:k<g.R.length+1
  ·have dy:Below w w wr:=by
     have p:=ei.out;have P:Below w J W:=bj.mono (by have:=a4.out;omega);have U:Below w W wr:=ar.below (by have h4:=bj.size;have h5:=dg.out;have:=a4.out;omega) (fun j hj e=>by have:=a4.out;omega);exact(p.trans P).trans U
   have iq:=Hd (ff wr dy k (by omega));have dc:=Hd dy;clear dy;go_upto_region 11 with(first
     | (
       go_at_call 59;refine iq.mono ?_;rintro e y ⟨rk,rfl,hn,bb,gp,gq⟩
       obtain⟨⟨aq,ay,jy,-⟩,-,-⟩:=id hn;subst jy;have ik:Hid (B9 (Rt w y) y (.slice aq (g.right k).length ay) (g.right k)):=Hd (by
         by_cases ji:k<g.R.length
         · have p:=Ty (gp ji)
           have ao:Below w w y:=dc.trans (bb.mono dc.size);exact p.BP (fun b hb=>.inl hb) ao.size (fun b hb=>ao.block b hb)
         · obtain⟨b,hb,gj,cs,cw⟩:=gq (by omega)
           refine⟨hn,fun b' dx _=>?_⟩;rw[hb]at dx;simp only[Value.ownBlock,Option.some.injEq]at dx;subst dx;exact .inr ⟨AW dc.size gj,cs,cw⟩)
       have aj:=Hd bb;have cn:=Hd (aw.later bb);have ir:Hid (y.ownsRow W 119 2 (.slice ab k ad) k (Z.flatMap K9)):=Hd (by have h:=(aw.later bb).row;rw[an.out]at h;exact h);have dp:=Hd (ax.below bb ax.lt);have y0:=Ah.cell dp 0;have yl:=dp.lt;simp at y0;clear hn bb gp gq))
   go_wp2_with (first
     | (
       at_builtin;refine Dc WZ (.tmp 57) (.tmp 59) rfl rfl (base:=W.heap.size) (n:=k) (m:=1) (N:=k+1) (xs:=Z.flatMap K9) (news:=[.int .i64 ((g.Bo k).1:Nat),.slice aq (g.right k).length ay]) rfl rfl (AS (AS ir (AG _ _)) (AG _ _)) (AY.Ap (c:=1) (cs:=[.int .i64 ((g.Bo k).1:Nat),.slice aq (g.right k).length ay]) (Ah.newAt (by simp)) rfl (by simp[Value.oneCell'])) rfl (by unfold maxLen;omega) (by omega) (by have:=cn.size.2;simp;omega) ?_
       intro A9 c9 w9 r1 r2 r3;have bf:Ah w9 T 80 #[.slice ab k ad,g.nt,g.nn,.slice none 0 0,.slice none 0 0]:=r2.Ap ((dp.alloc _).alloc _) (.inr (by decide));have f9:=bf.frozen 0;have b9:=bf.cell 0;have l9:=bf.lt;simp at b9;have bz:=(AG y (.cells #[.int .i64 ((g.Bo k).1:Nat),.slice aq (g.right k).length ay] 119)).trans ((AG (y.alloc (.cells #[.int .i64 ((g.Bo k).1:Nat),.slice aq (g.right k).length ay] 119)) (.cells #[.int .i64 ((g.Bo k).1:Nat),.slice aq (g.right k).length ay] 119)).mono (by simp));have h3:w.heap.size<=y.heap.size:=AW cn.size.1 cn.size.2
       have hx:=ik.rt h3 bz.size (fun b hb _=>bz.block b hb);have ia:w9.ownsRow W 119 2 (.slice A9 (Z.length+1) c9) (Z.length+1) (Z.flatMap K9++[.int .i64 ((g.Bo k).1:Nat),.slice aq (g.right k).length ay]):=by rw[an.out];exact r1
       have h9:=(cn.later bz).more hx ia r2 bf (by have:=a4.out;omega) (.slice A9 (Z.length+1) c9);rw[an.out]at h9;have H9:=Hd h9;have iu:Hid (Ah (w9.setCell (T,0) (.slice A9 (k+1) c9)) T 80 #[.slice A9 (k+1) c9,g.nt,g.nn,.slice none 0 0,.slice none 0 0]):=Hd (by simpa using bf.Be 0 (.slice A9 (k+1) c9));have ie:Hid (Aj (·=T) W (w9.setCell (T,0) (.slice A9 (k+1) c9))):=Hd (((((ar.next (Aj.AJ aj)).next (Aj.AJ bz)).trans (Y:=fun b=>W.heap.size<=b) ⟨r2.os,r2.tape,r2.output,r2.size,fun i hi hx=>r2.block i hi (.inl (by omega))⟩ (fun b hb hx=>by omega))).set (p:=⟨T,0,none⟩) (.inr rfl) _)
       clear bf bz h3 hx h9 r1 ia r2 r3))
   go_roundw
   case rel=>exact⟨k+1,_,_,by omega,by go_num,H9,iu,ie⟩
   case measure=>simp[intOf];omega
  ·obtain rfl:k=g.R.length+1:=by omega
   have e7:=ar.Ap dn (by have:=a4.out;omega);have ip:=Hd (G9.done aw j3 ax e7 (by have:=a4.out;omega) (by omega));have a7:Hid (Below J J wr):=Hd (by have p:=bj.out;have P:=a4.out;have U:=dg.out;rw[U];exact p.trans (ar.below (by have:=p.size;omega) (fun j hj e=>by omega)))
   have cf:=Hd (ar.Ap f2 (by have:=a4.out;omega));have fc:=Hd e7;have fg:Hid (GB wr wr T g E K 0 (.slice ab (g.R.length+1) ad) (.slice none 0 0) (.slice none 0 0) [] [] []):=Hd ⟨Aj.refl _ _,ax.lt,ax,rfl,rfl,⟨rfl,.inl ⟨rfl,rfl⟩⟩,(fun z hz=>by cases hz),⟨rfl,.inl ⟨rfl,rfl⟩⟩,(fun z hz=>by cases hz),trivial⟩;have m0:=Ah.cell cf 0;have m1:=Ah.cell cf 1;have m2:=Ah.cell cf 2;simp at m0 m1 m2;have bl:Hid (L.length=E.length/\L.length<=1000000):=Hd ⟨HS.e.symm,HS.l⟩;clear e7 aw ar ij x0 x1 x2 x3 t0 an e6 hk ev HT es dn f2 bj ff
   go_wp2_with fail
   generalize gs:L.length=nL at *;have f6:=Hd gs;clear gs;rename World=>t
   refine wp_loop_ghost_k (fun n a y=>∃(i:Nat) (av gv:Value) (I:List (Value×List It)) (ZG:List (Value×List Int)),i<=nL/\n=nL-i/\a=UF w.heap.size (w.heap.size+1) mb T (.slice AL nL cL) nL (.int .i64 i) (fun j=>a.tmps.getD j undef) a.defers/\Hid (GB t y T g E K i (.slice ab (g.R.length+1) ad) av gv I ZG a.defers)) nL ?start ?round
   case start=>exact⟨0,_,_,[],[],AX _,rfl,rfl,fg⟩
   case round=>
     intro n a y hI kf K2 hJ o;obtain⟨i,av,gv,I,ZG,hi,hn,ha,R⟩:=hI;obtain⟨f,hf⟩:∃f,(fun j=>a.tmps.getD j undef)=f:=⟨_,rfl⟩
     obtain⟨ds,az⟩:∃ds,a.defers=ds:=⟨_,rfl⟩
     rw[hf,az]at ha;rw[az]at R;clear hf az;subst ha;unfold UF;subst hn;clear fg m0 m1 m2;have HJ:=Hd hJ;clear hJ;by_cases e6:i<nL
     ·obtain⟨kc,kg,kd,kh,b,off,Ai,ni,ci,At,nq,ct,b2,d9,Ak,nk,ck,hv,fr,fs,e3,gy,b0⟩:=HM.at_ (i:=i) (by rw[f6.out];exact e6) HS.k (HS.es i)
      simp at hv;obtain⟨⟨e1,-,-⟩,⟨e2,-,-⟩⟩:=hv;rw[<-e1]at fr;rw[<-e2]at fs;subst fr;subst fs;clear e1 e2;have aj:Hid (Below J J y):=Hd (a7.trans (R.AE.below a7.size (fun j hj e=>by have:=a4.out;have:=dg.out;omega)));have em:=Hd e3;obtain⟨yb,l2,s0,s1,s2⟩:=e3 y aj;have f8:=Hd gy;have ew:=Hd b0;have ag:=R.AE.Ap cf (by have:=a4.out;omega);have m0:=Ah.cell ag 0;have m1:=Ah.cell ag 1;have m2:=Ah.cell ag 2;have ml:=ag.lt;have t1:=Ah.cell R.Cv 1;have t2:=Ah.cell R.Cv 2;have tl:=R.Cv.lt;simp at m0 m1 m2 t1 t2
      have ch:=Hd ag;have kx:(i:Int)<(nL:Int):=by omega
      have ky:nL<=1000000:=bl.2;have b1:=fun(y:World)=>WB (n:=g.nt+1) (by omega) y
      have ec:((g.nt+1:Nat):Int)=(g.nt:Int)+1:=by omega
      simp only[ec]at b1;clear e3 gy b0 ag ec;go_wp2_with fail
      have e1:(y.alloc (.cells #[.slice Ai ni ci,.slice At nq ct] 125)).heap.size=y.heap.size+1:=by simp
      have e2:((y.alloc (.cells #[.slice Ai ni ci,.slice At nq ct] 125)).alloc (.cells (Array.replicate ((g.nt+1)*2) (.int .i64 0)) 106)).heap.size=y.heap.size+1+1:=by simp
      have fa:Hid (MG t y (((y.alloc (.cells #[.slice Ai ni ci,.slice At nq ct] 125)).alloc (.cells (Array.replicate ((g.nt+1)*2) (.int .i64 0)) 106)).alloc (.cells #[.slice (y.heap.size+1,0) (g.nt+1) (g.nt+1)] 126)) y.heap.size (y.heap.size+1+1) (y.heap.size+1) (g.nt+1) (.slice Ai ni ci) (.slice At nq ct) (AZ g E K i) 0 ds):=Hd ⟨((AG y _).alloc (by omega) _).alloc (by omega) _,((Ah.new y _ _).alloc _).alloc _,Ah.newAt e2,by rw[iS];exact(Ah.newAt e1).alloc _,R.marks.later (((AG y _).alloc (by omega) _).alloc (by omega) _)⟩;clear e1 e2 s0 s1 s2 m0 m1 m2 t1 t2 b1
      generalize h1:y.heap.size=l at *;have bn:=Hd h1;clear h1;have ke:Hid (g.nt+1<=121):=Hd (by omega);refine wp_loop_ghost_k (fun n a z=>∃k:Nat,k<=g.nt+1/\n=g.nt+1-k/\a=RU w.heap.size (w.heap.size+1) mb T l (l+1+1) (.int .i64 i) (.slice (some ⟨b,off,none⟩) nL cL) nL (.int .i64 ((g.nt:Int)+1)) (.int .i64 k) (fun j=>a.tmps.getD j undef) a.defers/\Hid (MG t y z l (l+1+1) (l+1) (g.nt+1) (.slice Ai ni ci) (.slice At nq ct) (AZ g E K i) k a.defers)) (g.nt+1) ?start5 ?round5
      case start5=>exact⟨0,AX _,rfl,rfl,fa⟩
      case round5=>
        intro n a z hI J5 K5 ft ko;obtain⟨k,hk,hn,ha,cm⟩:=hI;obtain⟨f5,hf⟩:∃f,(fun j=>a.tmps.getD j undef)=f:=⟨_,rfl⟩
        obtain⟨cu,az⟩:∃ds,a.defers=ds:=⟨_,rfl⟩
        rw[hf,az]at ha;rw[az]at cm;clear hf az;subst ha;unfold RU;subst hn;clear fa;have et:=Hd ft;clear ft;obtain⟨ah,eg,c7,d8,d7⟩:=cm.out;by_cases b0:k<g.nt+1
        · have bi:Below J J z:=aj.trans (ah.mono aj.size)
          have d6:=AG z (.cells #[.int .i64 k] 3);have d2:=Ah.new z 3 #[.int .i64 k];have kb:(z.alloc (.cells #[.int .i64 k] 3)).heap.size=z.heap.size+1:=by simp
          have d5:Below J J (z.alloc (.cells #[.int .i64 k] 3)):=bi.trans (d6.mono bi.size);have dr:Hid (Below y y (z.alloc (.cells #[.int .i64 k] 3))):=Hd (ah.trans (d6.mono ah.size));have bq:Hid (Ah (z.alloc (.cells #[.int .i64 k] 3)) l 125 #[.slice Ai ni ci,.slice At nq ct]):=Hd (eg.alloc _);have dt:Hid (Ah (z.alloc (.cells #[.int .i64 k] 3)) (l+1+1) 126 #[.slice (l+1,0) (g.nt+1) (g.nt+1)]):=Hd (c7.alloc _);have cr:Hid (Ah (z.alloc (.cells #[.int .i64 k] 3)) (l+1) 106 ((DZ (AZ g E K i) (g.nt+1) k).flatMap Da).toArray):=Hd (d8.alloc _)
          have fi:Hid (CQ t.heap.size (z.alloc (.cells #[.int .i64 k] 3)) cu):=Hd (d7.later d6);have b8:=Hd d5;have cq:=Hd d2;have an:Hid (l+1+1<z.heap.size/\J.heap.size<=l/\t.heap.size<=l):=Hd ⟨c7.lt,by have:=aj.size;have:=bn.out;omega,by have:=R.AE.size;have:=bn.out;omega⟩;have cc:Hid (∀y',Below (z.alloc (.cells #[.int .i64 k] 3)).heap.size (z.alloc (.cells #[.int .i64 k] 3)) y'->y'.cell? (mb,0)=some (.int .i64 g.R.length)/\y'.cell? (mb,2)=some (.slice (b2,d9) nL co)/\y'.cell? (l,0)=some (.slice Ai ni ci)/\y'.cell? (l,1)=some (.slice At nq ct)/\y'.cell? (b2,d9+i)=some (.slice Ak nk ck)/\y'.cell? (z,0)=some (.int .i64 k)):=Hd (fun y' bh=>by
            have p:=(ch.below ah ch.lt).alloc (.cells #[.int .i64 k] 3);have P:=p.below bh p.lt;have U:=bq.below bh bq.lt;have h4:=d2.below bh d2.lt;exact⟨P.cell 0,P.cell 2,U.cell 0,U.cell 1,(em y' (d5.trans (bh.mono d5.size))).2.2.2.2,h4.cell 0⟩)
          clear bi d6 d2 kb d5 ah eg c7 d8 d7 cm;have kr:(k:Int)<(g.nt:Int)+1:=by omega
          go_upto_region 20 with fail
          generalize z.alloc (.cells #[.int .i64 k] 3)=z1 at *;obtain⟨c0,c1,c2,c3,c4,c5⟩:=cc z1 (Below.refl _ _);have dd:Hid (Below z1 z1 z1.drew):=Hd ((Below.refl z1.heap.size z1).drew);have HP:=Hd (fun y:World=>TD (w:=y) (own:=g.R.length) (t:=k) (Ai:=Ai) (At:=At) (Ak:=Ak) (ni:=ni) (ci:=ci) (nt:=nq) (ct:=ct) (nk:=nk) (ck:=ck))
          go_region_held3 (fun v=>v.cell? (mb,0)=some (.int .i64 g.R.length)/\v.cell? (mb,2)=some (.slice (b2,d9) nL co)/\v.cell? (l,0)=some (.slice Ai ni ci)/\v.cell? (l,1)=some (.slice At nq ct)/\v.cell? (b2,d9+i)=some (.slice Ak nk ck)/\v.cell? (z,0)=some (.int .i64 k))
            (first|exact cc _ dd|exact cc _ ai)
            (first|(
                 go_at_call 60;refine(HP _).mono ?_;rintro e z2 ⟨i5,i6,i7,i9,rfl,p,P,U,h4,k1,k2,k3,k4,fy⟩
                 have ai:Hid (Below z1 z1 z2):=Hd (dd.trans fy);have f7:=Hd (And.intro (And.intro p (And.intro P (And.intro U h4))) (And.intro k1 (And.intro k2 (And.intro k3 k4))));clear p P U h4 k1 k2 k3 k4 fy))
          clear c0 c1 c2 c3 c4 c5 HP;go_wp2;obtain⟨⟨p,P,U,h4⟩,k1,k2,k3,k4⟩:=f7.out;have p:z1.heap.size<=i5:=p;have P:z1.heap.size<=i6:=P;have U:z1.heap.size<=i7:=U;have h4:z1.heap.size<=i9:=h4;have ao:Below J J z2:=b8.trans (ai.mono b8.size);have hA:∀b,(b<J.heap.size\/(z1.heap.size<=b/\b<z2.heap.size))->b<z2.heap.size:=fun b hb=>hb.elim (fun h=>Ba h ao.size) (·.2)
          have e8:BU (fun b=>b<J.heap.size) J z2:=fun b hb=>ao.block b hb
          have d3:=SG (A:=fun b=>b<J.heap.size\/(z1.heap.size<=b/\b<z2.heap.size)) (w:=z2) (m:=g.nt+1) b0 (by omega) hA (.inr ⟨p,k1.lt⟩) (.inr ⟨P,k2.lt⟩) (.inr ⟨U,k3.lt⟩) (.inr ⟨h4,k4.lt⟩) k1 k2 k3 k4
            (f8.BP (fun _=>.inl) ao.size e8) (ew.BP (fun _=>.inl) ao.size e8)
          rw[<-Ua]at d3;obtain⟨xs,ed⟩:∃xs,g.Iv (E.getD i []) (K.getD i []) k=xs:=⟨_,rfl⟩
          rw[ed]at d3;have bp:Hid (AZ g E K i k=xs.headD (0,0)):=Hd (by unfold AZ;rw[ed]);have gu:¬(l+1<J.heap.size\/(z1.heap.size<=l+1/\l+1<z2.heap.size)):=by have q1:=an.out;have C:=cr.lt;omega
          have cp:=Hd d3;have cb:=Hd hA;have cj:=Hd gu;have b7:=Hd (cr.below ai cr.lt);have a8:=Hd (dt.below ai dt.lt);have cd:=Hd (cq.below ai cq.lt);have bo:=Hd (bq.below ai bq.lt);have b4:Hid (Below y y z2):=Hd (dr.trans (ai.mono dr.size));have b5:Hid (CQ t.heap.size z2 cu):=Hd (fi.later ai);have bm:Hid (z.heap.size<z2.heap.size/\l+1+1<z2.heap.size/\z.heap.size<z1.heap.size):=Hd ⟨cd.lt,a8.lt,cq.lt⟩;clear d3 hA ao e8 p P U h4 k1 k2 k3 k4 f7 cc ed gu dd cr dt cq bq dr fi
          refine(wpIn_wide (n:=0)).1 ?_;refine QC (gf:=82) (lb:=#[.pointer (some ⟨i5,0,none⟩),.pointer (some ⟨i6,0,none⟩),.pointer (some ⟨i7,0,none⟩),.pointer (some ⟨i9,0,none⟩)]) rfl (fun _ _=>by kernel_rfl) cp cb (fun _=>rfl)
            (fun pre A' W'=>pre=[]/\¬A' (l+1)/\Below z2 z2 W') (fun c A' W'=>c=.exit 7/\Aj (·=l+1) z2 W'/\Ah W' (l+1) 106 ((DZ (AZ g E K i) (g.nt+1) (k+1)).flatMap Da).toArray) ?hI ?hIx ?h0 ?hround ?hdone ?hstop
          case hI=>rintro s A1 A2 iw U' ⟨p,P,U⟩ hc fq;refine⟨p,fun h=>(fq _ h).elim P (by have:=bm.out;have:=U.size;omega),U.trans (hc.below U.size (fun j hj h=>by omega))⟩
          case hIx=>rintro c s A1 A2 iw U' ⟨p,P,U⟩ hc fq;refine⟨p,P.trans hc (fun j hj h=>by omega),hc.Ap U (fun h=>by have:=bm.out;omega)⟩
          case h0=>exact⟨rfl,cj,Below.refl _ _⟩
          case hround=>
            rintro l1 pre x A5 W5 gx ks kt kn bx be ⟨rfl,aa,a6⟩;have HX:Hid (AZ g E K i k=x):=Hd (by obtain⟨rest,hr⟩:=gx;rw[bp.out,<-hr];rfl)
            obtain⟨xk,xn⟩:=x;obtain⟨W6,dv⟩:∃W6,W5.alloc (.cells #[xk,xn] 106)=W6:=⟨_,rfl⟩
            have fz:Below W5 W5 W6:=by rw[<-dv];exact AG _ _
            have hw:Ah W6 W5.heap.size 106 #[xk,xn]:=by rw[<-dv];exact Ah.new _ _ _
            have kz:W6.heap.size=W5.heap.size+1:=by rw[<-dv];simp
            have ej:=Hd fz;have iv:=Hd hw;have ey:=Hd be;have eu:=Hd (And.intro aa a6);simp only[JP];clear fz hw be bx gx aa a6 bp cp cb cj;simp
            gi_wp2
            refine⟨by omega,fun b hb=>ej.block b (ey b hb),fun W7 dz l0 r hr=>?_⟩;have bu:Aj (·=l1) z2 W7:=(((Aj.AJ eu.2).next (Aj.AJ ej))).next dz;have d4:Ah W7 W5.heap.size 106 #[xk,xn]:=dz.Ap iv (by omega);have bv:=bm.out;have b3:=bu.Ap b7 (by omega);have ee:=bu.Ap a8 (by omega);have e5:=bu.Ap cd (by omega);have jj:((DZ (AZ g E K i) (g.nt+1) k).flatMap Da).length=(g.nt+1)*2:=by rw[Lq Da 2 (fun _=>rfl),Kr]
            have x0:=d4.cell 0;have x1:=d4.cell 1;have xl:=d4.lt;have y0:=ee.cell 0;have yl:=ee.lt;have w0:=e5.cell 0;have wl:=e5.lt;have f0:=b3.frozen (k*2);have f1:=b3.frozen (k*2+1);have rl:=b3.lt;obtain⟨u0,r0⟩:∃u,W7.cell? (l+1,k*2)=some u:=⟨_,(b3.cell (k*2)).trans (by rw[List.getElem?_toArray];exact eG (by omega))⟩
            obtain⟨u1,r1⟩:∃u,W7.cell? (l+1,k*2+1)=some u:=⟨_,(b3.cell (k*2+1)).trans (by rw[List.getElem?_toArray];exact eG (by omega))⟩
            simp at x0 x1 y0 w0;have ic:=Hd bu;have im:=Hd b3;clear bu d4 b3 ee e5 jj dz bv
            gi_wp2
            have e0:Aj (·=l+1) W7 ((W7.setCell (l+1,k*2) xk).setCell (l+1,k*2+1) xn):=((Aj.refl (·=l+1) W7).set (p:=⟨l+1,k*2,none⟩) (.inr rfl) xk).set (p:=⟨l+1,k*2+1,none⟩) (.inr rfl) xn;have jx:=(im.Be (k*2) xk).Be (k*2+1) xn;refine⟨e0.size,fun b hb=>e0.block b (by have:=ey b hb;omega) (fun e=>eu.1 (e▸hb)),rfl,((Aj.refl (·=l+1) z2).trans ic (fun j hj e=>by omega)).next e0,?_⟩;rw[jF _ b0,HX.out,<-TE _ _ _ (by rw[Kr];exact b0)];simpa using jx
          case hdone=>
            rintro D A5 W5 hD j1 bx be ⟨hx,aa,a6⟩ br;have hz:AZ g E K i k=(0,0):=by rw[bp.out,hx];rfl
            have bv:=bm.out;have dm:Hid (MG t y W5 l (l+1+1) (l+1) (g.nt+1) (.slice Ai ni ci) (.slice At nq ct) (AZ g E K i) (k+1) ({target:=.collected D,args:=#[]}::cu)):=Hd ⟨b4.trans (a6.mono b4.size),bo.below a6 bo.lt,a8.below a6 a8.lt,by rw[jD _ b0 hz];exact b7.below a6 b7.lt,(b5.later a6).more (by have p:=an.out;omega) br (fun D' du=>by have:=b5.lt D' du;omega)⟩;clear bx be hx aa a6 br hz bv bp cp cb cj b7 a8 cd bo b4 b5;go_wp2;have ek:((k+1:Nat):Int)=(k:Int)+1:=by omega
            exact Handed.intro (g.nt+1-(k+1)) (by omega) (et _ _ _ ⟨k+1,by omega,rfl,by rw[ek];rfl,dm⟩)
          case hstop=>
            rintro D c A5 W5 hD j1 bx be ⟨rfl,aa,a6⟩ br;have bv:=bm.out;have gj:=an.out;have dm:Hid (MG t y W5 l (l+1+1) (l+1) (g.nt+1) (.slice Ai ni ci) (.slice At nq ct) (AZ g E K i) (k+1) ({target:=.collected D,args:=#[]}::cu)):=Hd ⟨b4.trans (aa.below b4.size (fun j hj e=>by have:=bn.out;omega)),aa.Ap bo (by omega),aa.Ap a8 (by omega),a6,(b5.AE aa (fun D' p P e=>by have U:=b7.out;have e:D'=l+1:=e;unfold Ah at U;rw[<-e,P]at U;cases U)).more (by omega) br (fun D' du=>by have:=b5.lt D' du;omega)⟩
            clear bx be aa a6 br bv bp cp cb cj b7 a8 cd bo b4 b5;refine wpIn_wide.2 ?_;go_wp2;have ek:((k+1:Nat):Int)=(k:Int)+1:=by omega
            exact Handed.intro (g.nt+1-(k+1)) (by omega) (et _ _ _ ⟨k+1,by omega,rfl,by rw[ek];rfl,dm⟩)
        · obtain rfl:k=g.nt+1:=by omega
          have gz:z.ownsRow t 106 2 (.slice (l+1,0) (g.nt+1) (g.nt+1)) (g.nt+1) ((Ev g E K i).flatMap Da):=by have p:=NW (sz:=2) (n:=g.nt+1) (B:=t.heap.size) d8 (by have:=R.AE.size;have:=bn.out;omega) (by rw[Lq Da 2 (fun _=>rfl),Kr]) (by omega);rw[fW]at p;exact p
          have fe:=Hd gz;have al:=Hd ((R.later ah).marked d7);have c6:Below J J z:=aj.trans (ah.mono aj.size);have b8:=Hd c6;have a8:=Hd c7;have dh:=Hd (ch.below ah ch.lt);have t2:=Ah.cell al.Cv 2;have tl:=al.Cv.lt;simp at t2;have b1:=fun y=>Js (P:=Tryz.prog) (t:=43) (e:=3) (z:=.int .i64 0) (bytes:=8) underlying43 (by kernel_rfl) rfl (l:=((g.nn:Nat):Int)) (n:=g.nn) rfl (by omega) (by omega) y
          clear gz ah eg c7 d8 d7 cm c6;go_wp2_with fail
          have ig:Hid (Below z z (z.alloc (.cells (Array.replicate g.nn (.int .i64 0)) 3))/\Ah (z.alloc (.cells (Array.replicate g.nn (.int .i64 0)) 3)) z.heap.size 3 ((Fl (fun c8=>Dx (E.getD i []) (g.nt+1+c8)) g.nn 0).map B3).toArray):=Hd ⟨AG z _,by rw[Y9];exact Ah.new z _ _⟩;have er:Hid (∀y',Below J J y'->∀k:Nat,() 61 #[.slice (some ⟨b,off,none⟩) nL cL,.int .i64 i,.int .i64 ((g.nt:Int)+1+(k:Int))] y' fun e w'=>e=.returned (.int .i64 (Dx (E.getD i []) (g.nt+1+k)))/\Below y' y' w'):=Hd (fun y' bh k=>by obtain⟨lv,lo,V,hv,hA,-⟩:=HM.out;simp at hv;rw[<-hv.1]at hA;have p:=Tj (hA.later bh) (i:=i) (s:=g.nt+1+k) (by have:=hA.len.1;have:=f6.out;omega);rwa [show ((g.nt+1+k:Nat):Int)=(g.nt:Int)+1+(k:Int) by omega]at p)
          clear t2 b1;go_loopw [101] (fun kk wr=>∃k:Nat,k<=g.nn/\kk=.int .i64 k/\Hid (Below z z wr/\Ah wr z.heap.size 3 ((Fl (fun c8=>Dx (E.getD i []) (g.nt+1+c8)) g.nn k).map B3).toArray)) (fun kk _=>g.nn-(intOf kk).toNat)
          case atStart=>exact⟨0,AX _,rfl,ig⟩
          case round=>
            obtain⟨k,kp,rfl,b6⟩:=hrel;rename World=>z9
            by_cases jk:k<g.nn
            ·have a2:=b6.1
             have ag:=dh.below a2 dh.lt;have h2:=al.Cv.below a2 al.Cv.lt;have m1:=ag.cell 1;have t1:=h2.cell 1;simp at m1 t1;have ih:=Hd (er z9 (b8.trans (a2.mono b8.size)) k);have el:=Hd a2;have kq:(k:Int)<(g.nn:Int):=by omega
             have kw:((Fl (fun c8=>Dx (E.getD i []) (g.nt+1+c8)) g.nn k).map B3).length=g.nn:=by simp[Fl]
             clear a2 ag h2;go_wp2_with (
                  go_at_call 61;refine ih.mono ?_;rintro e eh ⟨rfl,hb10⟩
                  have bw:=b6.2.below hb10 b6.2.lt;obtain⟨u0,r0⟩:∃u,eh.cell? ⟨z.heap.size,k,none⟩=some u:=⟨_,(bw.cell k).trans (by rw[List.getElem?_toArray];exact eG (by omega))⟩
                  have f0:=bw.frozen k;have rl:=bw.lt;have il:=Hd bw;have ib:=Hd hb10;clear bw hb10)
             go_roundw
             case rel=>exact⟨k+1,by omega,by go_num,Hd ⟨by
              have p:Below z z eh:=el.trans (ib.mono el.size);exact p.trans (((Aj.refl (fun b=>z.heap.size<=b) eh).set (p:=⟨z.heap.size,k,none⟩) (.inr (AF _)) _).below p.size (fun j hj h=>by omega)),by
              rw[Zq _ jk,List.map_set];simpa [B3] using il.Be k (.int .i64 (Dx (E.getD i []) (g.nt+1+k)))⟩⟩
             case measure=>simp[intOf];omega
            ·obtain rfl:k=g.nn:=by omega
             have a2:=b6.1;have e9:=CG al.JB;have ea:=CG al.goto;obtain⟨Aa,ca,rfl⟩:=e9;obtain⟨Ag,cg,rfl⟩:=ea;have a0:=Hd (al.later a2);have fh:=Hd (a8.below a2 a8.lt);have c6:t.heap.size<=z.heap.size:=al.AE.size;have di:Hid (z9.ownsRow t 106 2 (.slice (l+1,0) (g.nt+1) (g.nt+1)) (Ev g E K i).length ((Ev g E K i).flatMap Da)):=Hd (by have p:=AS fe a2;rwa [show (Ev g E K i).length=g.nt+1 by simp[Ev]])
             have dk:Hid (z9.ownsRow t 3 1 (.slice (z,0) g.nn g.nn) (EN g E i).length ((EN g E i).map B3)):=Hd (by have p:=NW (sz:=1) (n:=g.nn) (B:=t.heap.size) b6.2 c6 (by simp[Fl]) (by omega);rw[eJ]at p;rw[show (EN g E i).length=g.nn by simp[EN]];exact p)
             have dq:Hid (some (l+1+1)≠(Value.slice Aa I.length ca).ownBlock):=Hd (fun e=>by have p:=(BY R.JB _ e.symm).1;have P:=bn.out;omega)
             have ku:I.length<=1000000:=by have p:=congrArg List.length R.za;simp at p;have:=bl.2;omega
             have kv:ZG.length<=1000000:=by have p:=congrArg List.length R.zg;simp at p;have:=bl.2;omega
             have a5:Hid (∀v:World,Ah v T 80 #[.slice ab (g.R.length+1) ad,g.nt,g.nn,.slice Aa I.length ca,.slice Ag ZG.length cg]->Ah v (l+1+1) 126 #[.slice (l+1,0) (g.nt+1) (g.nt+1)]->(v.cell? (T,3)=some (.slice Aa I.length ca)/\v.cell? (T,4)=some (.slice Ag ZG.length cg)/\v.cell? (l+1+1,0)=some (.slice (l+1,0) (g.nt+1) (g.nt+1)))):=Hd (fun v p P=>⟨p.cell 3,p.cell 4,P.cell 0⟩);obtain⟨t3,t4,y0⟩:=a5 z9 a0.Cv fh;clear a2 c6 b6 er dh b8 fe a8 f8 ew em;go_upto_region 30 with fail
             refine YU (fun j=>j==11||j==13) (fun(v:World)=>v.cell? (T,3)=some (.slice Aa I.length ca)/\v.cell? (T,4)=some (.slice Ag ZG.length cg)/\v.cell? (l+1+1,0)=some (.slice (l+1,0) (g.nt+1) (g.nt+1))) (by kernel_rfl) ?_;have ba:(fun(v:World)=>v.cell? (T,3)=some (.slice Aa I.length ca)/\v.cell? (T,4)=some (.slice Ag ZG.length cg)/\v.cell? (l+1+1,0)=some (.slice (l+1,0) (g.nt+1) (g.nt+1))) z9.drew:=⟨t3,t4,y0⟩
             refine LL 0 (v:=?va0) rfl (by kernel_rfl) (by kernel_rfl) (by kernel_rfl) (by kernel_rfl) (fun _ _ _ h=>h) (Or.inl ⟨by rfl,?ha0⟩) ba rfl ?ra0
             case ha0=>
              intro w a1;try dsimp only at a1
              go_simp;try with_reducible rfl
             simp only[List.set_cons_succ,List.set_cons_zero];refine LL 1 (v:=?va1) rfl (by kernel_rfl) (by kernel_rfl) (by kernel_rfl) (by kernel_rfl) (fun _ _ _ h=>h) (Or.inl ⟨by rfl,?ha1⟩) ba rfl ?ra1
             case ha1=>
              intro w a1;try dsimp only at a1
              go_simp;try with_reducible rfl
             simp only[List.set_cons_succ,List.set_cons_zero];refine LL 2 (v:=?va2) rfl (by kernel_rfl) (by kernel_rfl) (by kernel_rfl) (by kernel_rfl) (fun _ _ _ h=>h) (Or.inl ⟨by rfl,?ha2⟩) ba rfl ?ra2
             case ha2=>
              intro w a1;try dsimp only at a1
              go_simp;try with_reducible rfl
             simp only[List.set_cons_succ,List.set_cons_zero];refine LL 5 (v:=?va5) rfl (by kernel_rfl) (by kernel_rfl) (by kernel_rfl) (by kernel_rfl) (fun _ _ _ h=>h) (Or.inl ⟨by rfl,?ha5⟩) ba rfl ?ra5
             case ha5=>
              intro w a1;try dsimp only at a1
              go_simp;try with_reducible rfl
             simp only[List.set_cons_succ,List.set_cons_zero];refine LL 6 (v:=?va6) rfl (by kernel_rfl) (by kernel_rfl) (by kernel_rfl) (by kernel_rfl) (fun _ _ _ h=>h) (Or.inl ⟨by rfl,?ha6⟩) ba rfl ?ra6
             case ha6=>
              intro w a1;try dsimp only at a1
              go_simp;try with_reducible rfl
             simp only[List.set_cons_succ,List.set_cons_zero];refine M6 7 (v:=?va7) rfl (by kernel_rfl) (by kernel_rfl) (by kernel_rfl) (fun _ _ _ h=>h) (Or.inl ⟨by rfl,?ha7⟩) rfl ?ra7
             case ha7=>
              intro w a1;try dsimp only at a1
              go_simp;try with_reducible rfl
             simp only[List.set_cons_succ,List.set_cons_zero];clear ba;have g9:AI t [126,43] z9 z9.drew:=(AI.refl _ _ z9).drew;have ha0:z9.drew.ownsRow t 126 1 (.slice Aa I.length ca) I.length (I.map (·.1)):=a0.JB;have g4:z9.drew.ownsRow t 43 1 (.slice Ag ZG.length cg) ZG.length (ZG.map (·.1)):=a0.goto;have h7:Ah z9.drew (l+1+1) 126 #[.slice (l+1,0) (g.nt+1) (g.nt+1)]:=fh.out;have bi:t.heap.size<=z9.drew.heap.size:=a0.AE.size;generalize z9.drew=d0 at *;refine Qz 3 8 (by kernel_rfl) ?_ ?_
             ·
              refine Na (Z:=fun j=>j==11||j==13) (S:=(fun(v:World)=>v.cell? ⟨T,3,none⟩=some (.slice Aa I.length ca)/\v.cell? ⟨T,4,none⟩=some (.slice Ag ZG.length cg)/\v.cell? ⟨l+1+1,0,none⟩=some (.slice (some ⟨l+1,0,none⟩) (g.nt+1) (g.nt+1)))) 3 (by rfl) (by rfl) (by rfl) (fun K o=>?_);go_simp;have e4:=g9.alloc (.cells #[.slice (l+1,0) (g.nt+1) (g.nt+1)] 126);have eb:=h7.alloc (.cells #[.slice (l+1,0) (g.nt+1) (g.nt+1)] 126);have fu:=AS ha0 (AG d0 (.cells #[.slice (l+1,0) (g.nt+1) (g.nt+1)] 126));have g5:=AS g4 (AG d0 (.cells #[.slice (l+1,0) (g.nt+1) (g.nt+1)] 126))
              have gr:Ah (d0.alloc (.cells #[.slice (l+1,0) (g.nt+1) (g.nt+1)] 126)) d0.heap.size 126 #[.slice (l+1,0) (g.nt+1) (g.nt+1)]:=Ah.new d0 _ _;have ef:t.heap.size<=(d0.alloc (.cells #[.slice (l+1,0) (g.nt+1) (g.nt+1)] 126)).heap.size:=AW bi (by simp);refine o (.slice (d0,0) 1 1) _ (fun _ _=>a5 _ (e4.Ap a0.Cv (.inr (by decide))) eb) ?_;clear o K;simp only[List.set_cons_succ,List.set_cons_zero];generalize d0.alloc (.cells #[.slice (l+1,0) (g.nt+1) (g.nt+1)] 126)=ae at *;generalize d0.heap.size=fj at *
              refine Qz 4 8 (by kernel_rfl) ?_ ?_
              ·
               refine Na (Z:=fun j=>j==11||j==13) (S:=(fun(v:World)=>v.cell? ⟨T,3,none⟩=some (.slice Aa I.length ca)/\v.cell? ⟨T,4,none⟩=some (.slice Ag ZG.length cg)/\v.cell? ⟨l+1+1,0,none⟩=some (.slice (some ⟨l+1,0,none⟩) (g.nt+1) (g.nt+1)))) 4 (by rfl) (by rfl) (by rfl) (fun K o=>?_);refine EI ON (.tmp 118) (.tmp 120) rfl (base:=t.heap.size) (n:=I.length) (m:=1) (N:=I.length+1) (v:=.slice Aa I.length ca) (src:=.slice (some ⟨fj,0,none⟩) 1 1) (xs:=I.map (·.1)) (news:=[.slice (some ⟨l+1,0,none⟩) (g.nt+1) (g.nt+1)]) rfl rfl fu (AY.Ap (c:=1) (cs:=[.slice (some ⟨l+1,0,none⟩) (g.nt+1) (g.nt+1)]) gr rfl (by simp[Value.oneCell'])) rfl (by unfold maxLen;omega) (by omega) ef ?_
               intro A4 c4 a9 q1 C q3;have ga:=e4.trans (C.mono (AF _) (by simp));have h8:Ah a9 (l+1+1) 126 #[.slice (l+1,0) (g.nt+1) (g.nt+1)]:=eb.grown q3.1 dq;have jb:=C.own g5 (.inr (by decide));have j4:=q1;have k6:t.heap.size<=a9.heap.size:=AW ef C.size;clear q1 C q3;refine o _ _ (fun _ _=>a5 _ (ga.Ap a0.Cv (.inr (by decide))) h8) ?_;clear o K;simp only[List.set_cons_succ,List.set_cons_zero];refine M6 10 (v:=?vb10) rfl (by kernel_rfl) (by kernel_rfl) (by kernel_rfl) (fun _ _ _ h=>h) (Or.inl ⟨by rfl,?hb10⟩) rfl ?rb10
               case hb10=>
                intro w a1;try dsimp only at a1
                go_simp;try with_reducible rfl
               simp only[List.set_cons_succ,List.set_cons_zero];refine J0 8 (by kernel_rfl) rfl rfl rfl (fun K o=>?_);go_simp;have gb:=ga.alloc (.cells #[.slice (z,0) g.nn g.nn] 43);have hd:=h8.alloc (.cells #[.slice (z,0) g.nn g.nn] 43);have j5:=AS j4 (AG a9 (.cells #[.slice (z,0) g.nn g.nn] 43));have jc:=AS jb (AG a9 (.cells #[.slice (z,0) g.nn g.nn] 43));have jo:Ah (a9.alloc (.cells #[.slice (z,0) g.nn g.nn] 43)) a9.heap.size 43 #[.slice (z,0) g.nn g.nn]:=Ah.new a9 _ _
               have i0:t.heap.size<=(a9.alloc (.cells #[.slice (z,0) g.nn g.nn] 43)).heap.size:=AW k6 (by simp);refine o (.slice (a9,0) 1 1) _ (fun _ _=>a5 _ (gb.Ap a0.Cv (.inr (by decide))) hd) ?_;clear o K;simp only[List.set_cons_succ,List.set_cons_zero];generalize a9.alloc (.cells #[.slice (z,0) g.nn g.nn] 43)=ki at *;generalize a9.heap.size=iy at *;refine J0 9 (by kernel_rfl) rfl rfl rfl (fun K o=>?_);refine EI MT (.tmp 123) (.tmp 125) rfl (base:=t.heap.size) (n:=ZG.length) (m:=1) (N:=ZG.length+1) (v:=.slice Ag ZG.length cg) (src:=.slice (some ⟨iy,0,none⟩) 1 1) (xs:=ZG.map (·.1)) (news:=[.slice (some ⟨z.heap.size,0,none⟩) g.nn g.nn]) rfl rfl jc (AY.Ap (c:=1) (cs:=[.slice (some ⟨z.heap.size,0,none⟩) g.nn g.nn]) jo rfl (by simp[Value.oneCell'])) rfl (by unfold maxLen;omega) (by omega) i0 ?_
               intro A9 c9 fk q1 C q3;have cy:=gb.trans (C.mono (AF _) (by simp));have he:Ah fk (l+1+1) 126 #[.slice (l+1,0) (g.nt+1) (g.nt+1)]:=C.Ap hd (.inr (by decide));have fv:=C.own j5 (.inr (by decide));have g6:=q1;have k7:t.heap.size<=fk.heap.size:=AW i0 C.size;clear q1 C q3;refine o _ _ (fun _ _=>a5 _ (cy.Ap a0.Cv (.inr (by decide))) he) ?_;clear o K;simp only[List.set_cons_succ,List.set_cons_zero];have ht:=cy.Ap a0.Cv (.inr (by decide));have t3:=ht.cell 3
               have t4:=ht.cell 4;have f3:=ht.frozen 3;have f4:=ht.frozen 4;have tl:=ht.lt;simp at t3 t4;have bk:=Hd (a0.more di dk cy fv g6);clear ht cy he fv g6 k7;refine Ih 11 (by kernel_rfl) rfl rfl (fun K o=>?_);go_simp;refine o _ _ (fun h=>absurd h (by decide)) ?_;clear o K;refine Ih 12 (by kernel_rfl) rfl rfl (fun K o=>?_);go_simp;refine o _ _ (fun _ h=>h) ?_;clear o K;refine Ih 13 (by kernel_rfl) rfl rfl (fun K o=>?_);go_simp;refine o _ _ (fun h=>absurd h (by decide)) ?_;clear o K;refine OS (by kernel_rfl) ?_ _
               go_wp2;have ek:((i+1:Nat):Int)=(i:Int)+1:=by omega
               exact Handed.intro (nL-(i+1)) (by omega) (HJ _ _ _ ⟨i+1,_,_,_,_,by omega,rfl,by rw[ek];rfl,bk⟩)
              ·
               refine Na (Z:=fun j=>j==11||j==13) (S:=(fun(v:World)=>v.cell? ⟨T,3,none⟩=some (.slice Aa I.length ca)/\v.cell? ⟨T,4,none⟩=some (.slice Ag ZG.length cg)/\v.cell? ⟨l+1+1,0,none⟩=some (.slice (some ⟨l+1,0,none⟩) (g.nt+1) (g.nt+1)))) 8 (by rfl) (by rfl) (by rfl) (fun K o=>?_);go_simp;have gd:=e4.alloc (.cells #[.slice (z,0) g.nn g.nn] 43);have hh:=eb.alloc (.cells #[.slice (z,0) g.nn g.nn] 43);have j6:=AS fu (AG ae (.cells #[.slice (z,0) g.nn g.nn] 43));have jd:=AS g5 (AG ae (.cells #[.slice (z,0) g.nn g.nn] 43))
               have jq:Ah (ae.alloc (.cells #[.slice (z,0) g.nn g.nn] 43)) ae.heap.size 43 #[.slice (z,0) g.nn g.nn]:=Ah.new ae _ _;have jm:=gr.alloc (.cells #[.slice (z,0) g.nn g.nn] 43);have i1:t.heap.size<=(ae.alloc (.cells #[.slice (z,0) g.nn g.nn] 43)).heap.size:=AW ef (by simp);refine o (.slice (ae,0) 1 1) _ (fun _ _=>a5 _ (gd.Ap a0.Cv (.inr (by decide))) hh) ?_;clear o K;simp only[List.set_cons_succ,List.set_cons_zero];generalize ae.alloc (.cells #[.slice (z,0) g.nn g.nn] 43)=kj at *
               generalize ae.heap.size=iz at *;refine J0 4 (by kernel_rfl) rfl rfl rfl (fun K o=>?_);refine EI ON (.tmp 118) (.tmp 120) rfl (base:=t.heap.size) (n:=I.length) (m:=1) (N:=I.length+1) (v:=.slice Aa I.length ca) (src:=.slice (some ⟨fj,0,none⟩) 1 1) (xs:=I.map (·.1)) (news:=[.slice (some ⟨l+1,0,none⟩) (g.nt+1) (g.nt+1)]) rfl rfl j6 (AY.Ap (c:=1) (cs:=[.slice (some ⟨l+1,0,none⟩) (g.nt+1) (g.nt+1)]) jm rfl (by simp[Value.oneCell'])) rfl (by unfold maxLen;omega) (by omega) i1 ?_;intro A4 c4 fl q1 C q3;have gf:=gd.trans (C.mono (AF _) (by simp))
               have hl:Ah fl (l+1+1) 126 #[.slice (l+1,0) (g.nt+1) (g.nt+1)]:=hh.grown q3.1 dq;have je:=C.own jd (.inr (by decide));have j7:=q1;have jr:=C.Ap jq (.inr (by decide));have i2:t.heap.size<=fl.heap.size:=AW i1 C.size;clear q1 C q3;refine o _ _ (fun _ _=>a5 _ (gf.Ap a0.Cv (.inr (by decide))) hl) ?_;clear o K;simp only[List.set_cons_succ,List.set_cons_zero];refine M6 10 (v:=?vc10) rfl (by kernel_rfl) (by kernel_rfl) (by kernel_rfl) (fun _ _ _ h=>h) (Or.inl ⟨by rfl,?hc10⟩) rfl ?rc10
               case hc10=>
                intro w a1;try dsimp only at a1
                go_simp;try with_reducible rfl
               simp only[List.set_cons_succ,List.set_cons_zero];refine J0 9 (by kernel_rfl) rfl rfl rfl (fun K o=>?_);refine EI MT (.tmp 123) (.tmp 125) rfl (base:=t.heap.size) (n:=ZG.length) (m:=1) (N:=ZG.length+1) (v:=.slice Ag ZG.length cg) (src:=.slice (some ⟨iz,0,none⟩) 1 1) (xs:=ZG.map (·.1)) (news:=[.slice (some ⟨z.heap.size,0,none⟩) g.nn g.nn]) rfl rfl je (AY.Ap (c:=1) (cs:=[.slice (some ⟨z.heap.size,0,none⟩) g.nn g.nn]) jr rfl (by simp[Value.oneCell'])) rfl (by unfold maxLen;omega) (by omega) i2 ?_;intro A9 c9 fm q1 C q3;have cz:=gf.trans (C.mono (AF _) (by simp))
               have hm:Ah fm (l+1+1) 126 #[.slice (l+1,0) (g.nt+1) (g.nt+1)]:=C.Ap hl (.inr (by decide));have fw:=C.own j7 (.inr (by decide));have g7:=q1;have k8:t.heap.size<=fm.heap.size:=AW i2 C.size;clear q1 C q3;refine o _ _ (fun _ _=>a5 _ (cz.Ap a0.Cv (.inr (by decide))) hm) ?_;clear o K;simp only[List.set_cons_succ,List.set_cons_zero];have ht:=cz.Ap a0.Cv (.inr (by decide));have t3:=ht.cell 3;have t4:=ht.cell 4;have f3:=ht.frozen 3;have f4:=ht.frozen 4;have tl:=ht.lt;simp at t3 t4
               have bk:=Hd (a0.more di dk cz fw g7);clear ht cz hm fw g7 k8;refine Ih 11 (by kernel_rfl) rfl rfl (fun K o=>?_);go_simp;refine o _ _ (fun h=>absurd h (by decide)) ?_;clear o K;refine Ih 12 (by kernel_rfl) rfl rfl (fun K o=>?_);go_simp;refine o _ _ (fun _ h=>h) ?_;clear o K;refine Ih 13 (by kernel_rfl) rfl rfl (fun K o=>?_);go_simp;refine o _ _ (fun h=>absurd h (by decide)) ?_;clear o K;refine OS (by kernel_rfl) ?_ _;go_wp2;have ek:((i+1:Nat):Int)=(i:Int)+1:=by omega
               exact Handed.intro (nL-(i+1)) (by omega) (HJ _ _ _ ⟨i+1,_,_,_,_,by omega,rfl,by rw[ek];rfl,bk⟩)
             ·
              refine Na (Z:=fun j=>j==11||j==13) (S:=(fun(v:World)=>v.cell? ⟨T,3,none⟩=some (.slice Aa I.length ca)/\v.cell? ⟨T,4,none⟩=some (.slice Ag ZG.length cg)/\v.cell? ⟨l+1+1,0,none⟩=some (.slice (some ⟨l+1,0,none⟩) (g.nt+1) (g.nt+1)))) 8 (by rfl) (by rfl) (by rfl) (fun K o=>?_);go_simp;have gg:=g9.alloc (.cells #[.slice (z,0) g.nn g.nn] 43);have ho:=h7.alloc (.cells #[.slice (z,0) g.nn g.nn] 43);have j8:=AS ha0 (AG d0 (.cells #[.slice (z,0) g.nn g.nn] 43));have jf:=AS g4 (AG d0 (.cells #[.slice (z,0) g.nn g.nn] 43))
              have js:Ah (d0.alloc (.cells #[.slice (z,0) g.nn g.nn] 43)) d0.heap.size 43 #[.slice (z,0) g.nn g.nn]:=Ah.new d0 _ _;have k9:t.heap.size<=(d0.alloc (.cells #[.slice (z,0) g.nn g.nn] 43)).heap.size:=AW bi (by simp);refine o (.slice (d0,0) 1 1) _ (fun _ _=>a5 _ (gg.Ap a0.Cv (.inr (by decide))) ho) ?_;clear o K;simp only[List.set_cons_succ,List.set_cons_zero];generalize d0.alloc (.cells #[.slice (z,0) g.nn g.nn] 43)=af at *;generalize d0.heap.size=j0 at *
              refine J0 3 (by kernel_rfl) rfl rfl rfl (fun K o=>?_);go_simp;have gh:=gg.alloc (.cells #[.slice (l+1,0) (g.nt+1) (g.nt+1)] 126);have hp:=ho.alloc (.cells #[.slice (l+1,0) (g.nt+1) (g.nt+1)] 126);have j9:=AS j8 (AG af (.cells #[.slice (l+1,0) (g.nt+1) (g.nt+1)] 126));have jg:=AS jf (AG af (.cells #[.slice (l+1,0) (g.nt+1) (g.nt+1)] 126));have jn:Ah (af.alloc (.cells #[.slice (l+1,0) (g.nt+1) (g.nt+1)] 126)) af.heap.size 126 #[.slice (l+1,0) (g.nt+1) (g.nt+1)]:=Ah.new af _ _
              have jt:=js.alloc (.cells #[.slice (l+1,0) (g.nt+1) (g.nt+1)] 126);have i3:t.heap.size<=(af.alloc (.cells #[.slice (l+1,0) (g.nt+1) (g.nt+1)] 126)).heap.size:=AW k9 (by simp);refine o (.slice (af,0) 1 1) _ (fun _ _=>a5 _ (gh.Ap a0.Cv (.inr (by decide))) hp) ?_;clear o K;simp only[List.set_cons_succ,List.set_cons_zero];generalize af.alloc (.cells #[.slice (l+1,0) (g.nt+1) (g.nt+1)] 126)=km at *;generalize af.heap.size=ix at *;refine J0 4 (by kernel_rfl) rfl rfl rfl (fun K o=>?_)
              refine EI ON (.tmp 118) (.tmp 120) rfl (base:=t.heap.size) (n:=I.length) (m:=1) (N:=I.length+1) (v:=.slice Aa I.length ca) (src:=.slice (some ⟨ix,0,none⟩) 1 1) (xs:=I.map (·.1)) (news:=[.slice (some ⟨l+1,0,none⟩) (g.nt+1) (g.nt+1)]) rfl rfl j9 (AY.Ap (c:=1) (cs:=[.slice (some ⟨l+1,0,none⟩) (g.nt+1) (g.nt+1)]) jn rfl (by simp[Value.oneCell'])) rfl (by unfold maxLen;omega) (by omega) i3 ?_;intro A4 c4 fo q1 C q3;have gi:=gh.trans (C.mono (AF _) (by simp));have hq:Ah fo (l+1+1) 126 #[.slice (l+1,0) (g.nt+1) (g.nt+1)]:=hp.grown q3.1 dq
              have jh:=C.own jg (.inr (by decide));have ja:=q1;have ju:=C.Ap jt (.inr (by decide));have i4:t.heap.size<=fo.heap.size:=AW i3 C.size;clear q1 C q3;refine o _ _ (fun _ _=>a5 _ (gi.Ap a0.Cv (.inr (by decide))) hq) ?_;clear o K;simp only[List.set_cons_succ,List.set_cons_zero];refine M6 10 (v:=?vd10) rfl (by kernel_rfl) (by kernel_rfl) (by kernel_rfl) (fun _ _ _ h=>h) (Or.inl ⟨by rfl,?hd10⟩) rfl ?rd10
              case hd10=>
               intro w a1;try dsimp only at a1
               go_simp;try with_reducible rfl
              simp only[List.set_cons_succ,List.set_cons_zero];refine J0 9 (by kernel_rfl) rfl rfl rfl (fun K o=>?_);refine EI MT (.tmp 123) (.tmp 125) rfl (base:=t.heap.size) (n:=ZG.length) (m:=1) (N:=ZG.length+1) (v:=.slice Ag ZG.length cg) (src:=.slice (some ⟨j0,0,none⟩) 1 1) (xs:=ZG.map (·.1)) (news:=[.slice (some ⟨z.heap.size,0,none⟩) g.nn g.nn]) rfl rfl jh (AY.Ap (c:=1) (cs:=[.slice (some ⟨z.heap.size,0,none⟩) g.nn g.nn]) ju rfl (by simp[Value.oneCell'])) rfl (by unfold maxLen;omega) (by omega) i4 ?_;intro A9 c9 fp q1 C q3;have d1:=gi.trans (C.mono (AF _) (by simp))
              have hu:Ah fp (l+1+1) 126 #[.slice (l+1,0) (g.nt+1) (g.nt+1)]:=C.Ap hq (.inr (by decide));have fx:=C.own ja (.inr (by decide));have g8:=q1;have ka:t.heap.size<=fp.heap.size:=AW i4 C.size;clear q1 C q3;refine o _ _ (fun _ _=>a5 _ (d1.Ap a0.Cv (.inr (by decide))) hu) ?_;clear o K;simp only[List.set_cons_succ,List.set_cons_zero];have ht:=d1.Ap a0.Cv (.inr (by decide));have t3:=ht.cell 3;have t4:=ht.cell 4;have f3:=ht.frozen 3;have f4:=ht.frozen 4;have tl:=ht.lt;simp at t3 t4
              have bk:=Hd (a0.more di dk d1 fx g8);clear ht d1 hu fx g8 ka;refine Ih 11 (by kernel_rfl) rfl rfl (fun K o=>?_);go_simp;refine o _ _ (fun h=>absurd h (by decide)) ?_;clear o K;refine Ih 12 (by kernel_rfl) rfl rfl (fun K o=>?_);go_simp;refine o _ _ (fun _ h=>h) ?_;clear o K;refine Ih 13 (by kernel_rfl) rfl rfl (fun K o=>?_);go_simp;refine o _ _ (fun h=>absurd h (by decide)) ?_;clear o K;refine OS (by kernel_rfl) ?_ _;go_wp2;have ek:((i+1:Nat):Int)=(i:Int)+1:=by omega
              exact Handed.intro (nL-(i+1)) (by omega) (HJ _ _ _ ⟨i+1,_,_,_,_,by omega,rfl,by rw[ek];rfl,bk⟩)
     ·obtain rfl:i=nL:=by omega
      have e9:=CG R.JB;have ea:=CG R.goto;obtain⟨Aa,ca,rfl⟩:=e9;obtain⟨Ag,cg,rfl⟩:=ea;have t0:=Ah.cell R.Cv 0;have t1:=Ah.cell R.Cv 1;have t2:=Ah.cell R.Cv 2;have t3:=Ah.cell R.Cv 3;have t4:=Ah.cell R.Cv 4;have a3:=R.AE.Ap fc (by have:=a4.out;omega);have r0:=Ah.cell a3 0;have r1:=Ah.cell a3 1;have r2:=Ah.cell a3 2;have r3:=Ah.cell a3 3;have r4:=Ah.cell a3 4;have q0:=Ah.frozen a3 0;have q1:=Ah.frozen a3 1;have C:=Ah.frozen a3 2;have q3:=Ah.frozen a3 3;have q4:=Ah.frozen a3 4;have rl:=a3.lt
      simp at t0 t1 t2 t3 t4 r0 r1 r2 r3 r4;have fd:=Hd a3;clear a3;go_wp2;have j2:i=E.length:=by have:=bl.1;omega
      have gw:=R.out;rw[j2]at gw;have k0:w.heap.size+1<t.heap.size:=fc.lt;have hdone:=gw.done ip (by have:=bl.2;omega) jw jv k0 R.lt;have bc:=((((((Aj.refl (·=w.heap.size+1) y).set (p:=⟨w.heap.size+1,0,none⟩) (.inr rfl) (.slice ab (g.R.length+1) ad)).set (p:=⟨w.heap.size+1,1,none⟩) (.inr rfl) g.nt).set (p:=⟨w.heap.size+1,2,none⟩) (.inr rfl) g.nn).set (p:=⟨w.heap.size+1,3,none⟩) (.inr rfl) (.slice Aa I.length ca)).set (p:=⟨w.heap.size+1,4,none⟩) (.inr rfl) (.slice Ag ZG.length cg))
      have cw:=((((fd.Be 0 (.slice ab (g.R.length+1) ad)).Be 1 g.nt).Be 2 g.nn).Be 3 (.slice Aa I.length ca)).Be 4 (.slice Ag ZG.length cg);have k5:y.heap[w.heap.size+1]?≠some (.deferred (some [])):=fun h=>by have P:=fd.out;unfold Ah at P;rw[h]at P;cases P
      generalize (((((y.setCell {block:=w.heap.size+1,off:=0} (Value.slice ab (g.R.length+1) ad)).setCell {block:=w.heap.size+1,off:=1} (Value.int IntKind.i64 ↑g.nt)).setCell {block:=w.heap.size+1,off:=2} (Value.int IntKind.i64 ↑g.nn)).setCell {block:=w.heap.size+1,off:=3} (Value.slice Aa I.length ca)).setCell {block:=w.heap.size+1,off:=4} (Value.slice Ag ZG.length cg))=W9 at *;simp at cw;refine QT (B:=t.heap.size) (R.marks.AE bc (fun D _ hx e=>k5 (by rw[<-e];exact hx))) (fun w9 cx=>?_);have a2:=cx.Ap cw (fun h=>by have:=h.1;omega);have z0:=Ah.cell a2 0;have z1:=Ah.cell a2 1
      have z2:=Ah.cell a2 2;have z3:=Ah.cell a2 3;have z4:=Ah.cell a2 4;simp at z0 z1 z2 z3 z4;refine⟨.tuple #[.agg #[.slice ab (g.R.length+1) ad,g.nt,g.nn,.slice Aa I.length ca,.slice Ag ZG.length cg],.int .i64 0],?_,_,rfl,?_,?_⟩
      · rw[results_cell_tmp rfl]
        go_simp
      · refine((hdone.AE bc (fun b hb=>hb.1.2.2)).AE cx (fun b hb h=>hb.2 ⟨h.1,?_⟩)).mono (fun b hb=>?_)
        · rw[<-bc.block b hb.1.1 hb.1.2.2]
          exact h.2
        · exact Ba (Ba hb.1.1 bc.size) cx.size
      · have p:=ei.out
        have P:=a7.mono p.size;have U:=a4.out;have h4:Below w t y:=R.AE.below (AW p.size a7.size) (fun j hj e=>by omega);have h5:Below w y W9:=bc.below (AW (AW p.size a7.size) R.AE.size) (fun j hj e=>by omega);have h6:Below w W9 w9:=cx.below (AW (AW (AW p.size a7.size) R.AE.size) bc.size) (fun j hj e=>by have:=e.1;omega);exact(((p.trans P).trans h4).trans h5).trans h6
end
def Qi(i j:Nat)(x:It):Prop:=(x.1=0/\x.2=0)\/(x.1=3/\x.2=0)\/(x.1=1/\x.2<i)\/(x.1=2/\x.2<j)
instance(nA nR:Nat)(x:It):Decidable (Qi nA nR x):=by unfold Qi;infer_instance
def E0.open_(h:E0 A w v g E K):∃P U I ca J T,v=.agg #[.slice P (g.R.length+1) U,g.nt,g.nn,.slice I E.length ca,.slice J E.length T] /\
  (∀k,k<=g.R.length->∃b off rv,P=some ⟨b,off,none⟩/\b<w.heap.size/\A b/\w.cell? ⟨b,off+k*2,none⟩=some (.int .i64 ((g.Bo k).1:Nat))/\w.cell? ⟨b,off+k*2+1,none⟩=some rv/\B9 A w rv (g.right k)) /\
  (∀i,i<E.length->∃b off l o,I=some ⟨b,off,none⟩/\b<w.heap.size/\A b/\w.cell? ⟨b,off+i,none⟩=some (.slice l (g.nt+1) o)/\DX A w (.slice l (g.nt+1) o) (Ev g E K i)) /\
  (∀i,i<E.length->∃b off l o,J=some ⟨b,off,none⟩/\b<w.heap.size/\A b/\w.cell? ⟨b,off+i,none⟩=some (.slice l g.nn o)/\GM A w (.slice l g.nn o) (EN g E i)):=by
 obtain⟨rv,av,gv,rfl,⟨P,U,rfl,-,-,hr⟩,⟨I,ca,rfl,-,-,ha⟩,⟨J,T,rfl,-,-,hg⟩⟩:=h;refine⟨P,U,I,ca,J,T,rfl,fun k hk=>?_,fun i hi=>?_,fun i hi=>?_⟩
 ·obtain⟨b,off,e,t,C,p⟩:=hr k (by omega)
  obtain⟨R,h0,j⟩:=p 0 (by omega);obtain⟨x1,h1,e1⟩:=p 1 (by omega);rw[if_pos rfl]at j;rw[if_neg (by omega)]at e1;exact⟨b,off,x1,e,C,t,by rw[<-Nat.add_zero (off+k*2),h0,j],h1,e1⟩
 ·obtain⟨b,off,e,t,C,p⟩:=ha i hi
  obtain⟨R,h0,j⟩:=p 0 (by omega);have j:DX A w R (Ev g E K i):=j;obtain⟨l,o,rfl,-⟩:=j.form;rw[Nat.mul_one,Nat.add_zero]at h0;have hl:(Ev g E K i).length=g.nt+1:=by simp[Ev]
  rw[hl]at h0 j;exact⟨b,off,l,o,e,C,t,h0,j⟩
 ·obtain⟨b,off,e,t,C,p⟩:=hg i hi
  obtain⟨R,h0,j⟩:=p 0 (by omega);have j:GM A w R (EN g E i):=j;obtain⟨l,o,rfl,-,-,-⟩:=id j;rw[Nat.mul_one,Nat.add_zero]at h0;have hl:(EN g E i).length=g.nn:=by simp[EN]
  rw[hl]at h0 j;exact⟨b,off,l,o,e,C,t,h0,j⟩
def GM.at_{i:Option Addr}{c:Nat}(h:GM A w (.slice i n c) l){x:Int}(o:l[k]?=some x):∃b off,i=some ⟨b,off,none⟩/\A b/\b<w.heap.size/\w.cell? ⟨b,off+k,none⟩=some (.int .i64 x):=by
 obtain⟨U,c',T,-,-,R⟩:=h;cases T
 have J:=(sG.1 o).1;obtain⟨b,off,p,t,P,C⟩:=R k J;obtain⟨y0,h0,j⟩:=C 0 (by omega);have I:l.getD k 0=x:=by rw[dG,o];rfl
 rw[I]at j;refine⟨b,off,p,t,P,?_⟩;rw[Nat.mul_one,Nat.add_zero]at h0;rw[h0,j]
section
set_option maxRecDepth 1000000
def YF:((List.range AQ.length).all fun i=>(List.range (pz.nt+1)).all fun t=>decide ((pz.Iv (AQ.getD i []) (Bs.getD i []) t).length<=1))=true:=by decide +kernel
def ZS:Calm pz AQ Bs:=fun i t j l=>by have h:=List.all_eq_true.1 (List.all_eq_true.1 YF i (List.mem_range.2 j)) t (List.mem_range.2 (by omega));exact of_decide_eq_true h
end
end Go.Proofs.YtlogpnoioimhjaaGreatDoor
