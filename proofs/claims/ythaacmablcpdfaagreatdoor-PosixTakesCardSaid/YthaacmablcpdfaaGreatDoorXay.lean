/- The actions of a place. -/
import Derived.Test.YthaacmablcpdfaaGreatDoorXaw
import Derived.Test.YthaacmablcpdfaaGreatDoorXax
import Derived.Test.YthaacmablcpdfaaGreatDoorXbo
set_option linter.all false
set_option maxRecDepth 100000
set_option maxHeartbeats 16000000
namespace Go.Proofs.YthaacmablcpdfaaGreatDoor
open Go.RowKit Go.Proofs.Tryz
variable{v:Value}{n:Nat}{A A' X:Nat->Prop}{w':World}{XS:List Value}{cs:Array Value}
section
attribute [local go_sem] Oper.semAt_some
def SR(w:World)(own t:Nat)(iv tv p:Value)(e:Ending)(w':World):Prop:=
 ∃l o i j,e=.returned (.func (.func 63) #[] #[.pointer (some ⟨l,0,none⟩),.pointer (some ⟨o,0,none⟩),.pointer (some ⟨i,0,none⟩),.pointer (some ⟨j,0,none⟩)])/\w.heap.size<=l/\w.heap.size<=o/\w.heap.size<=i/\w.heap.size<=j /\
  Ah w' l 71 #[iv,tv]/\Ah w' o 3 #[t]/\Ah w' i 76 #[p]/\Ah w' j 3 #[own]/\Below w w w'
def Qm{w:World}{own t:Nat}{Ai At Ak:Option Addr}{ni ci nt ct nk ck:Nat} :
  () 27 #[own,.agg #[.slice Ai ni ci,.slice At nt ct],.slice Ak nk ck,t] w (SR w own t (.slice Ai ni ci) (.slice At nt ct) (.slice Ak nk ck)):=by
 unfold SR;go_enter func27,ntmps27
 go_wp2;go_ret;have i:(w.alloc (.cells #[own] 3)).heap.size=w.heap.size+1:=by simp
 have j:((w.alloc (.cells #[own] 3)).alloc (.cells #[.slice Ai ni ci,.slice At nt ct] 71)).heap.size=w.heap.size+1+1:=by simp
 have l:(((w.alloc (.cells #[own] 3)).alloc (.cells #[.slice Ai ni ci,.slice At nt ct] 71)).alloc (.cells #[.slice Ak nk ck] 76)).heap.size=w.heap.size+1+1+1:=by simp
 refine⟨_,_,_,_,rfl,by omega,by omega,by omega,AG _,?_,?_,?_,?_,?_⟩
 ·exact((Ah.newAt i).alloc _).alloc _
 ·exact Ah.newAt l
 ·exact(Ah.newAt j).alloc _
 ·exact(((Ah.new w _ _).alloc _).alloc _).alloc _
 ·exact(((AH w _).alloc (by omega) _).alloc (by omega) _).alloc (by omega) _
def SU{w:World}{l:List Nat}(h:BF w v l):B4 (fun b=>b<w.heap.size) w v l:=by
 refine⟨h,fun b i p=>?_⟩;obtain⟨⟨I,c,t,o⟩,-,-⟩:=h;obtain⟨x,C⟩:∃x,l[0]?=some x:=⟨_,eG p⟩
 obtain⟨J,off,j,P,-⟩:=o 0 x C;rw[t,j]at i;simp only[Value.ownBlock,Option.some.injEq]at i;omega
def G2.PW{w:World}{m:Nat}{l:List (Nat×Nat)}(h:G2 w m v l):Hy (fun b=>b<w.heap.size) w m v l:=by
 refine Bs.mono (show Bs (fun b=>b<w.heap.size) w v l.length 2 _ from h) (fun _=>id) (fun k j x _ _ o=>?_);split at o
 ·rename_i i;rw[if_pos i];exact o
 ·rename_i i;rw[if_neg i];exact SU o
theorem CX.Wy{w:World}{l:List It}(h:CX w v l)(T:l.length<=1000000):D3 (fun b=>b<w.heap.size) w v l:=by
 obtain⟨⟨A,c,o,J⟩,-,U⟩:=h;refine⟨A,c,o,(U A l.length c o).1,T,fun k R=>?_⟩;obtain⟨x,p⟩:∃x,l[k]?=some x:=⟨_,eG R⟩
 obtain⟨b,off,I,j,t,C⟩:=J k x p;have i:l.getD k (0,0)=x:=by rw[dG,p];rfl
 refine⟨b,off,I,j,j,fun a0 P=>?_⟩
 match a0,P with
 | 0,_=>exact⟨_,t,by dsimp only;rw[i];rfl⟩
 | 1,_=>exact⟨_,C,by dsimp only;rw[i];rfl⟩
def GW.at_{w:World}{g:Gz}{L E:List (List It)}{K:List (List (Nat×Nat))}(h:GW w v g L E K){i:Nat}(hi:i<L.length)(hK:K.length=L.length)(hE:(E.getD i []).length<=1000000) :
  ∃C J I co b off Ai ni ci At nt ct j p Ak nk ck,v=.agg #[g.R.length,.slice C L.length J,.slice I L.length co]/\C=some ⟨b,off,none⟩/\I=some ⟨j,p,none⟩ /\
   (∀y,Below w w y->b<y.heap.size/\j<y.heap.size/\y.cell? ⟨b,off+i*2,none⟩=some (.slice Ai ni ci)/\y.cell? ⟨b,off+i*2+1,none⟩=some (.slice At nt ct)/\y.cell? ⟨j,p+i,none⟩=some (.slice Ak nk ck)) /\
   D3 (fun b=>b<w.heap.size) w (.slice At nt ct) (E.getD i [])/\Hy (fun b=>b<w.heap.size) w (g.nt+1) (.slice Ak nk ck) (K.getD i []):=by
 obtain⟨lv,lo,V,rfl,⟨⟨C,J,rfl,-,hc⟩,⟨a3,a8⟩,hit,a4,-⟩,⟨I,co,rfl,-,-,hr⟩⟩:=h;rw[hK]at hr ⊢;rw[<-a3];obtain⟨x,U⟩:∃x,V[i]?=some x:=⟨_,eG (by omega)⟩
 obtain⟨l,hl⟩:∃l,L[i]?=some l:=⟨_,eG hi⟩
 obtain⟨t,ht⟩:∃t,E[i]?=some t:=⟨_,eG (by omega)⟩
 obtain⟨b,off,hA,T,e0,e1⟩:=hc i x U;obtain⟨j,p,a1,-,a0,a2⟩:=hr i hi;obtain⟨kv,h0,R⟩:=a2 0 (by omega);have hI:=hit i x l U hl;have P:=a4 i x t U ht;have eT:E.getD i []=t:=by rw[dG,ht];rfl
 rw[eT]at hE ⊢;obtain⟨⟨Ai,ci,a5,-⟩,-,-⟩:=id hI;obtain⟨⟨At,ct,a7,-⟩,-,-⟩:=id P;obtain⟨Ak,ck,a6,-⟩:=R.PW.form;rw[a5]at e0;rw[a7]at e1 P;rw[a6]at h0 R;rw[Nat.mul_one,Nat.add_zero]at h0;exact⟨C,J,I,co,b,off,Ai,_,ci,At,_,ct,j,p,Ak,_,ck,rfl,hA,a1,fun y o=>⟨AW T o.size,AW a0 o.size,(o.cell (p:=⟨b,off+i*2,none⟩) T).trans e0,(o.cell (p:=⟨b,off+i*2+1,none⟩) T).trans e1,(o.cell (p:=⟨j,p+i,none⟩) a0).trans h0⟩,P.Wy hE,R.PW⟩
def Dg(x:It):List Value:=[.int .i64 x.1,.int .i64 x.2]
def aW:El Tryz.prog 72 78 2 16:=El.of (z:=.agg #[.int .i64 0,.int .i64 0]) underlying72 (by kernel_rfl) rfl (by decide)
def Yu(own t:Nat)(tr:List It)(i:List (Nat×Nat)):(Cy t tr++Df own t i++Et own t i).length<=tr.length+i.length+i.length:=by
 have j:(Cy t tr).length<=tr.length:=by
  unfold Cy;rw[lM];split
  ·exact List.length_filter_le _ _
  ·simp
 have l:(Df own t i).length<=i.length:=by unfold Df;rw[lM];exact List.length_filter_le _ _
 have o:(Et own t i).length<=i.length:=by unfold Et;rw[lM];exact List.length_filter_le _ _
 simp only[BO];omega
def PY(w:World)(j:Nat)(W:World)(pre:List It)(A':Nat->Prop)(i:World):Prop:=FK 78 2 72 w j pre.length (pre.flatMap Dg) A' i/\W.heap.size<=i.heap.size
def ZS{w:World}{g:Gz}{L E:List (List It)}{K:List (List (Nat×Nat))}(h:GW w v g L E K){i t:Nat}(hi:i<L.length)(hL:L.length<=1000000)(hK:K.length=L.length)(hE:(E.getD i []).length<=1000000)(hk:(K.getD i []).length<=1000000)(ht:t<=g.nt)(b8:g.nt<=120) :
  () 62 #[v,i,t] w fun e w'=>∃o,e=.returned o/\LB 78 2 w (g.Hu (E.getD i []) (K.getD i []) t).length ((g.Hu (E.getD i []) (K.getD i []) t).flatMap Dg) o w':=by
 obtain⟨AL,cL,Ao,co,b,off,Ai,ni,ci,At,nt,ct,b2,a1,Ak,nk,ck,rfl,rfl,rfl,b3,bh,b6⟩:=h.at_ hi hK hE;rw[S1];have af:=Yu g.R.length t (E.getD i []) (K.getD i []);generalize E.getD i []=tr at *;generalize K.getD i []=lk at *;obtain⟨xs,al⟩:∃xs,Cy t tr++Df g.R.length t lk++Et g.R.length t lk=xs:=⟨_,rfl⟩
 have cd:(i:Int)<(L.length:Int):=by omega
 generalize L.length=U at *;generalize cc:g.R.length=own at *;rw[al]at af ⊢;obtain⟨j,a0⟩:∃j,(w.alloc (.cells #[own,.slice (some ⟨b,off,none⟩) U cL,.slice (b2,a1) U co] 60)).alloc (.cells #[.slice none 0 0] 72)=j:=⟨_,rfl⟩
 have a5:Below w w j:=by rw[<-a0];exact(AH w _).alloc (by simp) _
 have bi:j.heap.size=w.heap.size+2:=by rw[<-a0];simp
 have ah:Ah j w.heap.size 60 #[own,.slice (some ⟨b,off,none⟩) U cL,.slice (b2,a1) U co]:=by rw[<-a0];exact(Ah.new w _ _).alloc _
 have ba:Ah j (w.heap.size+1) 72 #[.slice none 0 0]:=by rw[<-a0];exact Ah.newAt (by simp)
 have a3:Hid (∀y,Below j j y->y.cell? (w,0)=some (.int .i64 own)/\y.cell? (w,1)=some (.slice (some ⟨b,off,none⟩) U cL)/\y.cell? (w,2)=some (.slice (b2,a1) U co)/\y.cell? ⟨b,off+i*2,none⟩=some (.slice Ai ni ci)/\y.cell? ⟨b,off+i*2+1,none⟩=some (.slice At nt ct)/\y.cell? (b2,a1+i)=some (.slice Ak nk ck)):=Hd (fun y hy=>by obtain⟨p,P,J,R,h5⟩:=b3 y (a5.trans (hy.mono a5.size));have hm:=ah.below hy ah.lt;exact⟨hm.cell 0,hm.cell 1,hm.cell 2,J,R,h5⟩)
 obtain⟨c0,c1,c2,c3,c4,c5⟩:=a3 j (Below.refl _ _);have a8:=Hd a5;have bt:=Hd bi;have aa:=Hd ba;have bv:=Hd a0;have aw:=Hd bh;have ar:=Hd b6;have bw:=Hd al;have bo:=Hd af;have HT:=Hd (And.intro ht b8);have bm:=Hd (And.intro hE hk);have HP:=Hd (fun y:World=>Qm (w:=y) (own:=own) (t:=t) (Ai:=Ai) (At:=At) (Ak:=Ak) (ni:=ni) (ci:=ci) (nt:=nt) (ct:=ct) (nk:=nk) (ck:=ck));clear h hi hL hK hE hk ht b8 b3 bh b6 al a5 bi ah ba af cc;refine(callsIn_wide (n:=0)).1 ?_;refine callsIn_of_wp_marks func62 rfl trivial ?_ rfl
 simp only[ntmps62,List.size_toArray,List.length_cons,List.length_nil,Nat.reduceAdd,Nat.reduceSub,Array.replicate_succ,Array.replicate_zero,List.push_toArray,List.append_toArray,List.nil_append,List.cons_append];refine wpIn_wide.2 ?_;have a9:Hid (Below j j j.drew):=Hd ((Below.refl j.heap.size j).drew);go_upto_region 2 with fail
 clear a0
 go_region_held3 (fun v=>v.cell? (w,0)=some (.int .i64 own)/\v.cell? (w,1)=some (.slice (some ⟨b,off,none⟩) U cL)/\v.cell? (w,2)=some (.slice (b2,a1) U co)/\v.cell? ⟨b,off+i*2,none⟩=some (.slice Ai ni ci)/\v.cell? ⟨b,off+i*2+1,none⟩=some (.slice At nt ct)/\v.cell? (b2,a1+i)=some (.slice Ak nk ck))
  (first|exact a3 _ a9|exact a3 _ a2)
  (first|(
     go_at_call 27;refine(HP _).mono ?_;rintro e l ⟨sb,tb,kb,ob,rfl,p,P,J,R,k1,k2,k3,k4,az⟩
     have a2:Hid (Below j j l):=Hd (a9.trans az);have HK:=Hd (And.intro (And.intro p (And.intro P (And.intro J R))) (And.intro k1 (And.intro k2 (And.intro k3 k4))));clear p P J R k1 k2 k3 k4 az))
 obtain⟨⟨p,P,J,R⟩,k1,k2,k3,k4⟩:=HK.out;have p:j.heap.size<=sb:=p;have P:j.heap.size<=tb:=P;have J:j.heap.size<=kb:=J;have R:j.heap.size<=ob:=R;have I:Below w w l:=a8.trans (a2.mono a8.size);have hA:∀b,(b<w.heap.size\/(j.heap.size<=b/\b<l.heap.size))->b<l.heap.size:=fun b C=>C.elim (fun h=>AW h I.size) (·.2)
 have ak:Bp (fun b=>b<w.heap.size) w l:=fun b C=>I.block b C
 have aj:=TW (A:=fun b=>b<w.heap.size\/(j.heap.size<=b/\b<l.heap.size)) (w:=l) (m:=g.nt+1) (by have:=HT.out;omega) (by have:=HT.out;omega) hA (.inr ⟨p,k1.lt⟩) (.inr ⟨P,k2.lt⟩) (.inr ⟨J,k3.lt⟩) (.inr ⟨R,k4.lt⟩) k1 k2 k3 k4
  (aw.BB (fun _=>.inl) I.size ak) (ar.BB (fun _=>.inl) I.size ak)
 rw[bw.out]at aj;have ai:Ah l (w.heap.size+1) 72 #[.slice none 0 0]:=aa.below a2 aa.lt;have ay:PY w (w.heap.size+1) l [] (fun b=>b<w.heap.size\/(j.heap.size<=b/\b<l.heap.size)) l:=by refine⟨⟨by omega,?_,.slice none 0 0,ai,⟨none,0,rfl,⟨by simp,.inl ⟨rfl,rfl⟩⟩,I⟩,fun b C=>by cases C⟩,AG _⟩;have:=bt.out;rintro(h|h)<;>omega
 have ch:w.heap.size+1<l.heap.size:=ai.lt;have bu:=Hd aj;have bl:=Hd hA;have bn:=Hd ay;have aq:=Hd I;clear aj hA ay I ak ai p P J R k1 k2 k3 k4 HK HP a3 a8 a2 aa bv aw ar a9 c0 c1 c2 c3 c4 c5;go_wp2;refine(wpIn_wide (n:=0)).1 ?_;refine LH (gf:=63) (lb:=#[.pointer (some ⟨sb,0,none⟩),.pointer (some ⟨tb,0,none⟩),.pointer (some ⟨kb,0,none⟩),.pointer (some ⟨ob,0,none⟩)]) rfl (fun _ _=>by kernel_rfl) bu bl (fun _=>rfl)
  (PY w (w.heap.size+1) l) (fun c A' W'=>False) ?hI ?hIx ?h0 ?hround ?hdone ?hstop
 case hI=>exact fun s A1 A2 bx U' h hc bz=>⟨h.1.Jv (by omega) hc bz,AY h.2 hc.size⟩
 case hIx=>exact fun c s A1 A2 bx U' h _ _=>h
 case h0=>exact bn
 case hstop=>exact fun D c A' W' _ _ _ _ h _=>h.elim
 case hdone=>rintro D A5 T hD c6 bj ag ⟨hj,-⟩ hK;obtain⟨o,b0,bc⟩:=hj.SJ (D:=D) (by omega) c6 (.deferred none);have HO:=Hd bc;clear bc hj;go_wp2;refine⟨by simp,.inl ⟨_,_,rfl,run_takeDeferred hK,?_⟩⟩;refine⟨_,results_tmp rfl _ _ _,?_⟩;exact⟨o,rfl,HO⟩
 case hround=>
  rintro l1 pre x A5 T bf cf cg c8 bj ag ⟨hj,cn⟩;obtain⟨xk,xn⟩:=x;obtain⟨W6,ab⟩:∃W6,T.alloc (.cells #[xk,xn] 78)=W6:=⟨_,rfl⟩
  have b1:Below T T W6:=by rw[<-ab];exact AH _ _
  have bk:Ah W6 T.heap.size 78 #[xk,xn]:=by rw[<-ab];exact Ah.new _ _ _
  have cl:W6.heap.size=T.heap.size+1:=by rw[<-ab];simp
  have bd:=bf.length_le;have an:=Hd b1;have ax:=Hd bk;have HJ:=Hd hj;have au:=Hd ag;have bq:=Hd bd;simp only[JO];clear b1 bk hj ag bj bf bd;simp
  gi_wp2
  refine⟨by omega,fun b C=>an.block b (au b C),fun W7 ae cm r hr=>?_⟩;have a7:Ah W7 T.heap.size 78 #[xk,xn]:=ae.Ap ax (by omega);have b5:=HJ.Jv (B:=T.heap.size) (A':=A5) (by omega) (Aj.AK an) (fun _=>.inl);have cb:=b5.Jv (B:=w.heap.size) (A':=A5) (AG _) (ae.mono (fun b C=>by subst C;exact⟨by omega,c8⟩)) (fun _=>.inl);have b7:∀b,A5 b->b<W7.heap.size:=fun b C=>by have:=au b C;omega
  have x0:=a7.cell 0;have x1:=a7.cell 1;have xl:=a7.lt;obtain⟨ca,c7,o,a6,⟨Ao,oc,rfl,ho,I⟩,bb⟩:=cb;have b0:=a6.cell 0;have f0:=a6.frozen 0;simp at b0 x0 x1;have cp:=I.size;have ao:=Hd a6;have HO:=Hd ho;have aq:=Hd I;have bp:=Hd bb;have av:=Hd b7;have cj:pre.length+1<=3000000:=by have p:=bq.out;have P:=bo.out;have J:=bm.out;simp at p;omega
  generalize be:pre.length=n at *;have br:=Hd be;clear a7 b5 a6 ho I bb b7 ax HJ hr ae be
  gi_wp2_with (first
   | (
    gi_at_builtin;refine Re aW (.tmp 24) (.tmp 26) rfl rfl (base:=w.heap.size) (n:=n) (m:=1) (N:=n+1) (v:=.slice Ao n oc) (src:=.slice (some ⟨W7.heap.size,0,none⟩) 1 1) (xs:=pre.flatMap Dg) (news:=[.int .i64 xk,.int .i64 xn]) rfl rfl (AV HO (AH _ _)) (Bf.Ap (c:=1) (cs:=[.int .i64 xk,.int .i64 xn]) (Ah.new W7 78 _) rfl (by simp[Value.oneCell'])) rfl (by unfold maxLen;omega) (by omega) (by simp;omega) ?_
    intro A9 c9 w9 r1 r2 r3;have ad:=r2.Ap (ao.alloc _) (.inr (by decide));have b9:=ad.cell 0;have f9:=ad.frozen 0;simp at b9;have b4:=FK.put ca c7 ao bp av HO aq ((Aj.refl _ W7).alloc _) r3.1 r3.2 r1 (by decide);have a4:=Hd b4;clear r1 r2 r3 ad b4))
  refine⟨a4.2.size,PL a4.2 av,?_,?_⟩
  ·rw[BO,List.flatMap_append,br.out]
   exact a4.1
  ·have p:=a4.2.size
   omega
end
def Calm(g:Gz)(E:List (List It))(K:List (List (Nat×Nat))):Prop:=∀i t,i<E.length->t<=g.nt->(g.Hu (E.getD i []) (K.getD i []) t).length<=1
structure Sz(g:Gz)(L E:List (List It))(K:List (List (Nat×Nat))):Prop where
 l:L.length<=1000000
 e:E.length=L.length
 k:K.length=L.length
 es:∀i,(E.getD i []).length<=1000000
 ks:∀i,(K.getD i []).length<=1000000
 nt:g.nt<=120
variable{L:List (List It)}{l:List Int}{e:TypeId}
def VQ{w:World}{g:Gz}{E:List (List It)}{K:List (List (Nat×Nat))}(h:GW w v g L E K)(j:Sz g L E K)(hc:Calm g E K) :
  () 25 #[v,g.nt] w fun e w'=>e=.returned (.slice none 0 0)/\Below w w w':=by
 have R:Hid (∀y i t,Below w w y->i<L.length->t<=g.nt->() 62 #[v,.int .i64 i,.int .i64 t] y fun e w'=>∃p n co,e=.returned (.slice p n co)/\n<=1/\Below y y w'):=Hd (fun y i t hy T U=>(ZS (h.later hy) T j.l j.k (j.es i) (j.ks i) U j.nt).mono (by rintro e w' ⟨o,rfl,p,co,rfl,-,hb⟩;exact⟨p,_,co,rfl,hc i t (by rw[j.e];exact T) U,hb⟩))
 have hl:=j.l;have ab:=j.nt;obtain⟨lv,lo,V,rfl,⟨⟨I,J,rfl,-,-⟩,⟨a5,-⟩,-,-,-⟩,⟨p,co,rfl,-,-,-⟩⟩:=h;have hk:=j.k;rw[hk]at R ⊢;rw[<-a5]at R ⊢;clear j hc hk a5;generalize L.length=n at *;generalize g.nt=P at *;generalize g.R.length=own at *;have C:=Ah.new w 60 #[own,.slice I n J,.slice p n co];have a2:=AH w (.cells #[own,.slice I n J,.slice p n co] 60);have a1:=Hd C;have a0:=Hd a2;clear C a2;go_enter func25,ntmps25
 go_wp2_with fail
 go_loopw [13,5] (fun ii o wr=>∃i:Nat,i<=n/\ii=.int .i64 i/\o=.slice none 0 0/\Hid (Below (w.heap.size+1) (w.alloc (.cells #[own,.slice I n J,.slice p n co] 60)) wr)) (fun ii _ _=>n-(intOf ii).toNat)
 case atStart=>exact⟨0,AZ _,rfl,rfl,Hd (by simpa using Below.refl _ _)⟩
 case round=>
  obtain⟨i,T,rfl,rfl,l⟩:=hrel;rename World=>w9
  by_cases a8:i<n
  ·go_wp2_with fail
   go_loopw [18,5] (fun tt o wr=>∃t:Nat,t<=P+1/\tt=.int .i64 t/\o=.slice none 0 0/\Hid (Below (w.heap.size+1) (w.alloc (.cells #[own,.slice I n J,.slice p n co] 60)) wr)) (fun tt _ _=>P+1-(intOf tt).toNat)
   case atStart=>exact⟨0,AZ _,rfl,rfl,l⟩
   case round=>
    clear l;obtain⟨t,U,rfl,rfl,l⟩:=hrel;rename World=>w8
    have a4:Below w w w8:=a0.trans (l.mono (by omega));have C:=a1.below (by simpa using l.out) a1.lt;have c0:=C.cell 0;have c1:=C.cell 1;have c2:=C.cell 2;have cl:=C.lt;simp at c0 c1 c2;have a7:=Hd a4;clear C a4;by_cases a9:t<P+1
    ·have HA:=Hd (R w8 i t a7 a8 (by omega))
     go_wp2_with (go_at_call 62;refine HA.mono ?_;rintro e w7 ⟨Aa,na,ca,rfl,aa,a3⟩;have a6:=Hd a3;have hq:¬((1:Int)<(na:Int)):=(by omega);clear a3)
     go_loopw [9,5] (fun kk o wr=>kk=.int .i64 1/\o=.slice none 0 0/\Hid (wr=w7)) (fun _ _ _=>0)
     case atStart=>exact⟨rfl,rfl,Hd rfl⟩
     case round=>
      obtain⟨rfl,rfl,HW⟩:=hrel;have hw:=HW.out;subst hw;clear HW;go_wp2;go_roundw
      case rel=>exact⟨t+1,by omega,by go_num,rfl,Hd (l.trans (a6.mono (by have:=l.size;simpa using this)))⟩
      case measure=>simp[intOf];omega
    ·obtain rfl:t=P+1:=by omega
     go_wp2;go_roundw
     case rel=>exact⟨i+1,by omega,by go_num,rfl,l⟩
     case measure=>simp[intOf];omega
  ·obtain rfl:i=n:=by omega
   go_wp2;go_ret;exact⟨rfl,a0.trans (l.mono (by omega))⟩
section
set_option maxRecDepth 1000000
def X5:Iw pz BY AS 1000 1000 N2 Pd DL D6 291 Ma Ku L0 where
 first:=Xv
 Nf:=XM
 comes:=iE
 EK:=bZ
 spread:=U3
 items:=fun K o x C=>by
  have h:(BY.all fun K=>K.all fun x=>decide (x.1<=pz.R.length)&&decide (x.2<=1000000))=true:=by decide +kernel
  have i:=List.all_eq_true.1 (List.all_eq_true.1 h K o) x C;simp only[Bool.and_eq_true,decide_eq_true_eq]at i;exact i
 some_:=by decide +kernel
 B3:=by decide +kernel
 rules:=fun F hF=>by
  have h:(Ma.all fun F=>decide (F.length<=100000)&&F.all fun f=>decide (f.1<=pz.R.length)&&decide (f.2<291))=true:=by decide +kernel
  have i:=List.all_eq_true.1 h F hF;simp only[Bool.and_eq_true,decide_eq_true_eq]at i;refine⟨i.1,fun f t=>?_⟩;have j:=List.all_eq_true.1 i.2 f t;simp only[Bool.and_eq_true,decide_eq_true_eq]at j;exact j
 fit:=fun e p=>by have l:=List.all_eq_true.1 QR e p;simp only[Bool.and_eq_true,decide_eq_true_eq]at l;exact l.1
def Bm:List (List (Nat×Nat)):=[[],[(68,Dj)],[(73,Bx)],[(69,Dj)],[],[(97,Bl)],[],[],[],[],[],[],[],[],[],[(97,Bl)],[],[(97,Bl)],[(97,Bl)],[],[(97,Bl)],[],[(104,1)],[],[(1,32)],[(4,1568)],[(5,Dt)],[(8,Dt)],[(10,BH)],[(13,BH)],[(17,AP)],[(18,AP)],[(19,AP)],[(20,AP)],[(21,AP)],[(22,AP)],[(15,BH)],[(16,AP)],[(12,BH)],[(67,BH)],[(65,BH)],[(71,Bx)],[(81,Bx)],[(83,Bx)],[],[(82,Bx)],[(84,Bx)],[(94,JS)],[],[(96,Mh)],[],[(85,Bx)],[(87,Bx)],[(89,Bx)],[(92,Bx)],[(93,Bx)],[(86,Bx)],[(88,Bx)],[(90,Bx)],[(91,Bx)],[],[(97,EA)],[],[],[(97,EA)],[],[(9,Dt)],[(0,1)],[(99,JD)],[(98,JD)],[(2,32)],[(97,Bl)],[(97,Bl)],[(97,Io)],[(14,BH)],[(79,AP)],[(77,Dj)],[(66,BH)],[(75,Dj)],[(70,Dj)],[(74,Bx)],[(64,BH)],[(72,Bx)],[(97,IZ)],[(23,AP)],[(95,JS)],[(27,I5)],[(24,JV)],[(97,Bl)],[],[(97,Bl)],[(56,AP)],[(57,AP)],[(97,De)],[(28,AP)],[(96,EA),(103,De)],[],[],[(61,AP)],[(3,1568)],[],[],[],[(80,AP)],[(78,Dj)],[(76,Dj)],[(63,BH)],[],[(101,IB)],[(97,IB)],[(25,JV)],[],[(97,BU)],[],[(102,De)],[],[(29,AP)],[(6,Dt)],[(7,Dt)],[(11,BH)],[(59,BH)],[(58,BH)],[(100,IB)],[(26,I5)],[(97,Bl)],[(97,Bl)],[(52,AP)],[],[],[(62,AP)],[(33,546)],[],[(103,De)],[],[(60,BH)],[(55,DR)],[],[(51,AP)],[(49,DV)],[],[(36,AP)],[],[],[(38,Cl)],[(40,BU)],[],[(32,546)],[],[(30,AP)],[(97,Bl)],[],[(35,AP)],[(34,AP)],[(37,Cl)],[(39,BU)],[],[(97,MJ)],[(31,AP)],[(53,DR)],[(97,MJ)],[(50,DV)],[(42,Cl)],[(41,Cl)],[(54,DR)],[(44,Cl)],[(43,Cl)],[(97,BU)],[(97,BU)],[(97,BU)],[(97,BU)],[(46,BU)],[(45,BU)],[(48,BU)],[(47,BU)]]
def gQ:pz.Hw L0 BY (Gz.Cg BY 0) Ma=Bm:=by decide +kernel
theorem Rm{o:Type}{l:List (List o)}(h:(l.all fun x=>decide (x.length<=n))=true)(i:Nat):(l.getD i []).length<=n:=by
 rw[dG];cases j:l[i]? with
 | none=>simp
 | some x=>have:=List.all_eq_true.1 h x (mG j);simpa using this
def aX:Sz pz BY AS Bm where
 l:=by decide +kernel
 e:=by decide +kernel
 k:=by decide +kernel
 es:=Rm (by decide +kernel)
 ks:=Rm (by decide +kernel)
 nt:=by decide
end
def A0(g:Gz)(E:List (List It))(K:List (List (Nat×Nat)))(i t:Nat):It:=(g.Hu (E.getD i []) (K.getD i []) t).headD (0,0)
def Ek(g:Gz)(E:List (List It))(K:List (List (Nat×Nat)))(i:Nat):List It:=(List.range (g.nt+1)).map (A0 g E K i)
def EO(g:Gz)(E:List (List It))(i:Nat):List Int:=(List.range g.nn).map fun k=>DF (E.getD i []) (g.nt+1+k)
def G1(A:Nat->Prop)(w:World)(v:Value)(l:List Int):Prop:=Bs A w v l.length 1 (fun k _ x=>x=.int .i64 (l.getD k 0))
def Ib(A:Nat->Prop)(w:World)(v:Value)(g:Gz):Prop:=Bs A w v (g.R.length+1) 2 (fun k j x=>if j=0 then x=.int .i64 ((g.Bb k).1:Nat) else B4 A w x (g.right k))
def EX(A:Nat->Prop)(w:World)(v:Value)(g:Gz)(E:List (List It))(K:List (List (Nat×Nat))):Prop:=
 ∃o j l,v=.agg #[o,g.nt,g.nn,j,l]/\Ib A w o g/\Bs A w j E.length 1 (fun i _ x=>D3 A w x (Ek g E K i))/\Bs A w l E.length 1 (fun i _ x=>G1 A w x (EO g E i))
def D3.mono{w:World}{l:List It}(h:D3 A w v l)(i:∀b,A b->A' b):D3 A' w v l:=Bs.mono h i (fun _ _ _ _ _ h=>h)
def G1.mono{w:World}(h:G1 A w v l)(i:∀b,A b->A' b):G1 A' w v l:=Bs.mono h i (fun _ _ _ _ _ h=>h)
def D3.AF{w:World}{l:List It}(h:D3 A w v l)(j:Aj X w w')(i:∀b,A b->¬X b):D3 A w' v l:=Bs.AF h j i (fun _ _ _ _ _ h=>h)
def G1.AF{w:World}(h:G1 A w v l)(j:Aj X w w')(i:∀b,A b->¬X b):G1 A w' v l:=Bs.AF h j i (fun _ _ _ _ _ h=>h)
def Ib.AF{w:World}{g:Gz}(h:Ib A w v g)(p:Aj X w w')(o:∀b,A b->¬X b):Ib A w' v g:=Bs.AF h p o (fun k j x _ _ l=>by
 split at l
 ·rename_i i;rw[if_pos i];exact l
 ·rename_i i;rw[if_neg i];exact l.AF p o)
def Ib.mono{w:World}{g:Gz}(h:Ib A w v g)(o:∀b,A b->A' b):Ib A' w v g:=Bs.mono h o (fun k j x _ _ l=>by
 split at l
 ·rename_i i;rw[if_pos i];exact l
 ·rename_i i;rw[if_neg i];exact l.mono o)
def EX.AF{w:World}{g:Gz}{E:List (List It)}{K:List (List (Nat×Nat))}(h:EX A w v g E K)(j:Aj X w w')(i:∀b,A b->¬X b):EX A w' v g E K:=by obtain⟨J,l,o,p,t,C,I⟩:=h;exact⟨J,l,o,p,t.AF j i,Bs.AF C j i (fun _ _ _ _ _ h=>h.AF j i),Bs.AF I j i (fun _ _ _ _ _ h=>h.AF j i)⟩
def EX.mono{w:World}{g:Gz}{E:List (List It)}{K:List (List (Nat×Nat))}(h:EX A w v g E K)(i:∀b,A b->A' b):EX A' w v g E K:=by obtain⟨I,j,l,o,p,t,C⟩:=h;exact⟨I,j,l,o,p.mono i,Bs.mono t i (fun _ _ _ _ _ h=>h.mono i),Bs.mono C i (fun _ _ _ _ _ h=>h.mono i)⟩
def Bs.Lt{w:World}{B:Nat}{sz:Nat}{f:Nat->Nat->Value->Prop}(h:w.ownsRow B e sz v n XS)(hn:n<=1000000)(P:∀b cs,B<=b->Ah w b e cs->A b)(T:∀i j x,i<n->j<sz->XS[i*sz+j]?=some x->f i j x):Bs A w v n sz f:=by
 rcases Bk h with⟨rfl,rfl⟩|⟨b,c,rfl,t,C,I,_,p,R⟩
 ·exact⟨none,0,rfl,AG _,by omega,fun k l=>by omega⟩
 ·refine⟨_,c,rfl,I,hn,fun k l=>⟨b,0,rfl,P b p t R,C,fun j U=>?_⟩⟩
  have hl:=h.1;have a0:k*sz+j<n*sz:=by have J:(k+1)*sz<=n*sz:=Nat.mul_le_mul_right _ l;rw[Nat.succ_mul]at J;omega
  have o:XS[k*sz+j]?=some (XS[k*sz+j]'(by omega)):=eG (by omega);exact⟨_,by rw[Nat.zero_add,Bg h _ a0,o],T k j _ l U o⟩
def D8(H:Nat->It)(n k:Nat):List It:=(List.range n).map fun t=>if t<k then H t else(0,0)
def J0(H:Nat->It)(n k:Nat):(D8 H n k).length=n:=by simp[D8]
def bE(H:Nat->It)(n:Nat):D8 H n n=(List.range n).map H:=by
 unfold D8;refine List.map_congr_left fun t i=>?_
 rw[if_pos (List.mem_range.1 i)]
def Zn(H:Nat->It){k:Nat}(j:k<n):D8 H n (k+1)=(D8 H n k).set k (H k):=by
 apply List.ext_getElem?;intro t;by_cases i:t<n
 ·by_cases e:t=k
  ·subst e
   rw[tG (by rw[J0];exact i)];simp[D8,i]
  ·rw[uG (Ne.symm e)]
   simp only[D8,pG,List.getElem?_range i,Option.map_some];by_cases h:t<k
   ·rw[if_pos h,if_pos (by omega)]
   ·rw[if_neg h,if_neg (by omega)]
 ·rw[nG (by rw[J0];omega),nG (by rw[List.length_set,J0];omega)]
def iL(H:Nat->It){k:Nat}(j:k<n)(h:H k=(0,0)):D8 H n (k+1)=D8 H n k:=by
 unfold D8;refine List.map_congr_left fun t l=>?_
 by_cases e:t=k
 ·rw[if_pos (by omega),if_neg (by omega),e,h]
 ·by_cases i:t<k
  ·rw[if_pos i,if_pos (by omega)]
  ·rw[if_neg i,if_neg (by omega)]
theorem TM:∀(l:List It) (k:Nat) (x:It),k<l.length->((l.flatMap Dg).set (k*2) x.1).set (k*2+1) x.2=(l.set k x).flatMap Dg
 | [],k,x,h=>by simp at h
 | y::l,0,x,_=>by simp[Dg]
 | y::l,k+1,x,h=>by have:=TM l k x (by simpa using h);rw[show (k+1)*2=k*2+2 by omega,List.flatMap_cons,List.set_cons_succ,List.flatMap_cons,<-this];simp[Dg]
theorem Vs(H:Nat->It)(n:Nat):((D8 H n 0).flatMap Dg).toArray=Array.replicate (n*2) (.int .i64 0):=by
 have e:D8 H n 0=List.replicate n (0,0):=by
  unfold D8;apply List.ext_getElem?;intro t;by_cases i:t<n
  ·simp[i]
  ·rw[nG (by simpa using i),nG (by simpa using i)]
 rw[e];induction n with
 | zero=>simp
 | succ n o=>
  have l:D8 H n 0=List.replicate n (0,0):=by
   unfold D8;apply List.ext_getElem?;intro t;by_cases i:t<n
   ·simp[i]
   ·rw[nG (by simpa using i),nG (by simpa using i)]
  have j:=congrArg Array.toList (o l);simp only[Array.toList_replicate]at j;apply Array.toList_inj.1;rw[List.replicate_succ,List.flatMap_cons,Array.toList_replicate,show (n+1)*2=n*2+1+1 by omega,List.replicate_succ,List.replicate_succ];simpa [Dg] using j
def Yw(R:n<=1000000)(y:World):(Instr.makeSlice 72 (.int .i64 (n:Nat)) (.int .i64 (n:Nat))).run Tryz.prog y=.ok (.slice (y,0) n n) (y.alloc (.cells (Array.replicate (n*2) (.int .i64 0)) 78)):=by
 obtain⟨i,o,t,C,I⟩:=info_parts (show (Tryz.prog.info? 78).map (fun i=>(i.zero,i.size,i.bytes))=some (some (.agg #[.int .i64 0,.int .i64 0]),2,16) by kernel_rfl);have l:(i.bytes:Int)*(n:Int)<=281474976710656:=by rw[I];omega
 have p:=run_make (P:=Tryz.prog) y 72 78 i (.agg #[.int .i64 0,.int .i64 0]) underlying72 o t .i64 .i64 n n (by omega) (Int.le_refl _) l (by omega);rw[p,C,Int.toNat_natCast];congr 4;unfold madeCells;apply Array.ext
 ·simp
 ·intro j J P
  simp[Value.cells];have:j%2=0\/j%2=1:=by omega
  rcases this with h|h<;>simp[h]
def Mw{w:World}{B b:Nat}{sz:Nat}(h:Ah w b e XS.toArray)(j:B<=b)(i:XS.length=n*sz)(l:n<=1000000):w.ownsRow B e sz (.slice (b,0) n n) n XS:=
 ⟨i,.inr ⟨b,n,XS.toArray,rfl,j,h,AG _,by unfold maxLen;omega,by simp[i],by simp[<-i]⟩⟩
def Rt(w wr:World)(b:Nat):Prop:=b<w.heap.size\/(w.heap.size<=b/\∃j,Ah wr b 3 j)
def B4.rt{w wr w2:World}{l:List Nat}(h:B4 (Rt w wr) wr v l)(R:w.heap.size<=wr.heap.size)(P:wr.heap.size<=w2.heap.size)(I:∀b,b<wr.heap.size->Rt w wr b->w2.heap[b]?=wr.heap[b]?):B4 (Rt w w2) w2 v l:=by
 have J:∀b,Rt w wr b->b<wr.heap.size:=fun b j=>by
  rcases j with o|⟨o,t,p⟩
  ·omega
  ·exact p.lt
 have C:Bp (Rt w wr) wr w2:=fun b j=>I b (J b j) j
 refine h.BB (fun b j=>?_) P C;rcases id j with o|⟨o,t,p⟩
 ·exact .inl o
 ·exact .inr ⟨o,t,(C b j).trans p⟩
def Kb(z:Nat×Value):List Value:=[.int .i64 z.1,z.2]
structure He(w wr:World)(B:Nat)(g:Gz)(k:Nat)(rv:Value)(Z:List (Nat×Value)):Prop where
 size:w.heap.size<=B/\B<=wr.heap.size
 len:Z.length=k
 row:wr.ownsRow B 65 2 rv Z.length (Z.flatMap Kb)
 is:∀(j:Nat) (x:Nat×Value),Z[j]?=some x->x.1=(g.Bb j).1/\B4 (Rt w wr) wr x.2 (g.right j)
variable{w:World}{B k:Nat}{Z:List (Nat×Value)}
def He.later{wr w2:World}{g:Gz}{rv:Value}(h:He w wr B g k rv Z)(l:Below wr wr w2):He w w2 B g k rv Z:=
 ⟨⟨h.size.1,AY h.size.2 l.size⟩,h.len,AV h.row l,fun j x o=>⟨(h.is j x o).1,(h.is j x o).2.rt (AY h.size.1 h.size.2) l.size (fun b p _=>l.block b p)⟩⟩
def He.more{l wc:World}{g:Gz}{rv:Value}(h:He w l B g k rv Z){x:Value}(hx:B4 (Rt w l) l x (g.right k)){A:Option Addr}{c:Nat}(r1:wc.ownsRow B 65 2 (.slice A (Z.length+1) c) (Z.length+1) (Z.flatMap Kb++[.int .i64 ((g.Bb k).1:Nat),x]))(r2:AJ B [65] l wc)
  {tb:Nat}  (T:Ah wc tb 26 cs) (hB:w.heap.size<=tb) (u:Value):He w (wc.setCell (tb,0) u) B g (k+1) (.slice A (Z.length+1) c) (Z++[((g.Bb k).1,x)]):=by
 have P:∀b,b<l.heap.size->Rt w l b->(wc.setCell (tb,0) u).heap[b]?=l.heap[b]?:=fun b hb R=>by
  have o:wc.heap[b]?=l.heap[b]?:=r2.block b hb (by
   rcases R with o|⟨_,C,o⟩
   ·exact .inl (AW o h.size.1)
   ·refine .inr fun a2 a3 m J=>?_
    unfold Ah at o;rw[o]at J;cases J
    decide)
  have a1:b≠tb:=by
   rcases R with I|⟨_,C,I⟩
   ·omega
   ·have h3:Ah wc b 3 C:=o.trans I
    exact Ah.Bh h3 T (by decide)
  exact(Below.heap_setCell _ _ _ _ a1).trans o
 have t:l.heap.size<=(wc.setCell (tb,0) u).heap.size:=by simpa [World.setCell] using r2.size
 have U:=AY h.size.1 h.size.2;refine⟨⟨h.size.1,AY h.size.2 t⟩,by simp[h.len],?_,fun j y p=>?_⟩
 ·rw[BO,List.flatMap_append]
  exact Ey r1 (p:=⟨tb,0,none⟩) (DK r1 T (by decide)) u
 ·by_cases hj:j<Z.length
  ·rw[gL hj]at p
   exact⟨(h.is j y p).1,(h.is j y p).2.rt U t P⟩
  ·rw[List.getElem?_append_right (by omega)]at p
   have a0:j-Z.length=0:=by have:=(sG.1 p).1;simpa using this
   rw[a0]at p;cases p
   have:j=k:=by have:=h.len;omega
   subst this;exact⟨rfl,hx.rt U t P⟩
def He.done{wr:World}{g:Gz}{rv:Value}(h:He w wr B g (g.R.length+1) rv Z)(hn:g.R.length<=300){tb rb:Nat}{T:Array Value}(P:Ah wr tb 26 cs)(J:Ah wr rb 26 T)(hB:w.heap.size<=tb)(a1:w.heap.size<=rb):Ib (fun b=>b<wr.heap.size/\b≠tb/\b≠rb) wr rv g:=by
 unfold Ib;have hl:=h.len;rw[<-hl];refine Bs.Lt h.row (by omega) (fun b U a2 o=>⟨o.lt,Ah.Bh o P (by decide),Ah.Bh o J (by decide)⟩) (fun i j x C I hx=>?_);obtain⟨z,R⟩:∃z,Z[i]?=some z:=⟨_,eG C⟩
 obtain⟨_,a0⟩:=sG.1 R;have p:=CY Kb 2 (fun _=>rfl) Z i j C I;rw[hx,a0]at p;obtain⟨h1,h2⟩:=h.is i z R
 match j,I with
 | 0,_=>rw[if_pos rfl];cases p;rw[h1]
 | 1,_=>
  rw[if_neg (by omega)];cases p
  refine h2.mono (fun b hb=>?_);rcases hb with t|⟨t,U,l⟩
  ·exact⟨AW t (AY h.size.1 h.size.2),by omega,by omega⟩
  ·exact⟨l.lt,Ah.Bh l P (by decide),Ah.Bh l J (by decide)⟩
structure GB(w1 wr:World)(tb:Nat)(g:Gz)(E:List (List It))(K:List (List (Nat×Nat)))(i:Nat)(rv av gv:Value)(ZA:List (Value×List It))(ZG:List (Value×List Int))(ds:List Deferred):Prop where
 AF:Aj (·=tb) w1 wr
 lt:tb<w1.heap.size
 Cz:Ah wr tb 26 #[rv,g.nt,g.nn,av,gv]
 za:ZA.map (·.2)=(List.range i).map (Ek g E K)
 zg:ZG.map (·.2)=(List.range i).map (EO g E)
 JB:wr.ownsRow w1 72 1 av ZA.length (ZA.map (·.1))
 Nc:∀z∈ZA,wr.ownsRow w1 78 2 z.1 z.2.length (z.2.flatMap Dg)
 goto:wr.ownsRow w1 44 1 gv ZG.length (ZG.map (·.1))
 LU:∀z∈ZG,wr.ownsRow w1 3 1 z.1 z.2.length (z.2.map BP)
 marks:Cp w1.heap.size wr ds
variable{g:Gz}{E:List (List It)}{K:List (List (Nat×Nat))}
section
variable {w1 wr w':World} {tb rb:Nat} {g:Gz} {E:List (List It)} {K:List (List (Nat×Nat))} {i:Nat} {rv av gv:Value} {ZA:List (Value×List It)} {ZG:List (Value×List Int)} {ds:List Deferred}
def Cp.later(h:Cp B wr ds)(l:Below wr wr w'):Cp B w' ds:=h.BB fun D _ j _=>(l.block D (aG.1 j).1).trans j
def Cp.keeps{o:Nat}{T:List TypeId}(h:Cp B wr ds)(p:AJ o T wr w'):Cp B w' ds:=h.BB fun D _ j _=>(p.block D (aG.1 j).1 (.inr fun C t m l=>by rw[j]at l;cases l)).trans j
def Cp.stored{b:Nat}{t:TypeId}(h:Cp B wr ds)(l:Ah wr b t cs)(j:Nat)(u:Value):Cp B (wr.setCell (b,j) u) ds:=h.BB fun D _ o _=>(Below.heap_setCell _ _ _ _ (fun e=>by have e:D=b:=e;subst e;unfold Ah at l;rw[o]at l;cases l)).trans o
def GB.later(h:GB w1 wr tb g E K i rv av gv ZA ZG ds)(j:Below wr wr w'):GB w1 w' tb g E K i rv av gv ZA ZG ds:=
 ⟨h.AF.next (Aj.AK j),h.lt,h.Cz.below j h.Cz.lt,h.za,h.zg,AV h.JB j,fun z l=>AV (h.Nc z l) j,AV h.goto j,fun z l=>AV (h.LU z l) j,h.marks.later j⟩
def GB.marked(h:GB w1 wr tb g E K i rv av gv ZA ZG ds){j:List Deferred}(l:Cp w1.heap.size wr j):GB w1 wr tb g E K i rv av gv ZA ZG j:=
 ⟨h.AF,h.lt,h.Cz,h.za,h.zg,h.JB,h.Nc,h.goto,h.LU,l⟩
def GB.more(h:GB w1 wr tb g E K i rv av gv ZA ZG ds){T U:Value}(ha:wr.ownsRow w1 78 2 T (Ek g E K i).length ((Ek g E K i).flatMap Dg))(hg:wr.ownsRow w1 3 1 U (EO g E i).length ((EO g E i).map BP))
  (o:AJ w1 [72,44] wr w') {j l:Value} (ka:w'.ownsRow w1 72 1 j (ZA.length+1) (ZA.map (·.1)++[T])) (kg:w'.ownsRow w1 44 1 l (ZG.length+1) (ZG.map (·.1)++[U])) :
  GB w1 ((w'.setCell (tb,3) j).setCell (tb,4) l) tb g E K (i+1) rv j l (ZA++[(T,Ek g E K i)]) (ZG++[(U,EO g E i)]) ds:=by
 have hs:=h.AF.size;have P:Ah w' tb 26 #[rv,g.nt,g.nn,av,gv]:=o.Ap h.Cz (.inr (by decide));have a0:Ah (w'.setCell (tb,3) j) tb 26 #[rv,g.nt,g.nn,j,gv]:=by simpa using P.Be 3 j
 have a3:Ah ((w'.setCell (tb,3) j).setCell (tb,4) l) tb 26 #[rv,g.nt,g.nn,j,l]:=by simpa using a0.Be 4 l
 have a1:Aj (·=tb) w1 w':=h.AF.trans (Y:=fun b=>w1.heap.size<=b) ⟨o.os,o.tape,o.output,o.size,fun k a2 hx=>o.block k a2 (.inl (by omega))⟩ (fun b hb hx=>by omega);have hc:Aj (·=tb) w1 ((w'.setCell (tb,3) j).setCell (tb,4) l):=(a1.set (p:=⟨tb,3,none⟩) (.inr rfl) _).set (p:=⟨tb,4,none⟩) (.inr rfl) _;have BI:∀{e:TypeId} {C n:Nat} {v:Value} {I:List Value},w'.ownsRow w1 e C v n I->e≠26->((w'.setCell (tb,3) j).setCell (tb,4) l).ownsRow w1 e C v n I:=fun t J=>Ey (Ey t (p:=⟨tb,3,none⟩) (DK t P J) _) (p:=⟨tb,4,none⟩) (DK t P J) _
 have BB:∀{e:TypeId} {C n:Nat} {v:Value} {I:List Value},wr.ownsRow w1 e C v n I->e ∉ [72,44]->w'.ownsRow w1 e C v n I:=fun t J=>o.own t (.inr J)
 refine⟨hc,h.lt,a3,?_,?_,?_,fun z R=>?_,?_,fun z R=>?_,((h.marks.keeps o).stored P 3 _).stored a0 4 _⟩
 ·rw[Bw,h.za,List.range_succ,Bw];rfl
 ·rw[Bw,h.zg,List.range_succ,Bw];rfl
 ·rw[Bw,BO]
  exact BI ka (by decide)
 ·rcases mA.1 R with p|p
  ·exact BI (BB (h.Nc z p) (by decide)) (by decide)
  ·rw[mS.1 p]
   exact BI (BB ha (by decide)) (by decide)
 ·rw[Bw,BO]
  exact BI kg (by decide)
 ·rcases mA.1 R with p|p
  ·exact BI (BB (h.LU z p) (by decide)) (by decide)
  ·rw[mS.1 p]
   exact BI (BB hg (by decide)) (by decide)
def V4(l:List It)(k:Nat):(l.flatMap Dg)[k*2]?=l[k]?.map (fun x=>Value.int .i64 x.1)/\(l.flatMap Dg)[k*2+1]?=l[k]?.map (fun x=>Value.int .i64 x.2):=by
 by_cases j:k<l.length
 ·have h0:=CY Dg 2 (fun _=>rfl) l k 0 j (by omega)
  have o:=CY Dg 2 (fun _=>rfl) l k 1 j (by omega);rw[Nat.add_zero]at h0;rw[h0,o,eG j];exact⟨rfl,rfl⟩
 ·have p:=Lk Dg 2 (fun _=>rfl) l
  rw[nG (by omega),nG (by omega),nG (by omega)];exact⟨rfl,rfl⟩
theorem We{l:List It}(h:w.ownsRow B 78 2 v l.length (l.flatMap Dg))(P:l.length<=1000000)(C:∀b cs,B<=b->Ah w b 78 cs->A b):D3 A w v l:=by
 refine Bs.Lt h P C (fun i j x I J o=>?_);obtain⟨h0,t⟩:=V4 l i;have p:l[i]?=some (l.getD i (0,0)):=by rw[dG,eG I];rfl
 match j,J with
 | 0,_=>
  rw[Nat.add_zero,h0,p]at o;cases o
  rfl
 | 1,_=>
  rw[t,p]at o;cases o
  rfl
def YB(h:w.ownsRow B 3 1 v l.length (l.map BP))(C:l.length<=1000000)(t:∀b cs,B<=b->Ah w b 3 cs->A b):G1 A w v l:=by
 refine Bs.Lt h C t (fun i j x o I p=>?_);obtain rfl:j=0:=by omega
 rw[Nat.mul_one,Nat.add_zero,pG,eG o]at p;cases p
 rw[dG,eG o];rfl
def GB.done(h:GB w1 wr tb g E K E.length rv av gv ZA ZG ds)(hr:Ib (fun b=>b<w1.heap.size/\b≠tb/\b≠rb) w1 rv g)(hn:E.length<=1000000)(a2:g.nt<=120)(a1:g.nn<=120)(a3:rb<w1.heap.size)(a4:tb<w1.heap.size) :
  EX (fun b=>(b<wr.heap.size/\b≠tb/\b≠rb)/\¬(w1.heap.size<=b/\wr.heap[b]?=some (.deferred (some [])))) wr (.agg #[rv,g.nt,g.nn,av,gv]) g E K:=by
 have hs:=h.AF.size;have R:ZA.length=E.length:=by simpa using congrArg List.length h.za
 have T:ZG.length=E.length:=by simpa using congrArg List.length h.zg
 have I:∀{a0:TypeId} (b:Nat) (P:Array Value),w1.heap.size<=b->Ah wr b a0 P->(b<wr.heap.size/\b≠tb/\b≠rb)/\¬(w1.heap.size<=b/\wr.heap[b]?=some (.deferred (some []))):=fun b P t o=>⟨⟨o.lt,by omega,by omega⟩,fun p=>by unfold Ah at o;rw[p.2]at o;cases o⟩
 refine⟨rv,av,gv,rfl,(hr.AF h.AF (fun b J=>J.2.1)).mono (fun b J=>⟨⟨AW J.1 hs,J.2⟩,fun p=>by omega⟩),?_,?_⟩
 ·rw[<-R]
  refine Bs.Lt h.JB (by omega) I (fun i j x l U C=>?_);obtain rfl:j=0:=by omega
  rw[Nat.mul_one,Nat.add_zero,pG,eG l]at C;cases C
  have t:=h.Nc _ (List.getElem_mem l);have o:ZA[i].2=Ek g E K i:=by have p:=congrArg (·[i]?) h.za;simp only[pG,eG l,List.getElem?_range (R▸l),Option.map_some]at p;exact Option.some.inj p
  rw[o]at t;exact We t (by simp[Ek];omega) I
 ·rw[<-T]
  refine Bs.Lt h.goto (by omega) I (fun i j x l U C=>?_);obtain rfl:j=0:=by omega
  rw[Nat.mul_one,Nat.add_zero,pG,eG l]at C;cases C
  have t:=h.LU _ (List.getElem_mem l);have o:ZG[i].2=EO g E i:=by have p:=congrArg (·[i]?) h.zg;simp only[pG,eG l,List.getElem?_range (T▸l),Option.map_some]at p;exact Option.some.inj p
  rw[o]at t;exact YB t (by simp[EO];omega) I
end
def E8(G:Nat->Int)(n k:Nat):List Int:=(List.range n).map fun t=>if t<k then G t else 0
def eL(G:Nat->Int)(l:k<n):E8 G n (k+1)=(E8 G n k).set k (G k):=by
 apply List.ext_getElem?;intro t;by_cases j:t<n
 ·by_cases e:t=k
  ·subst e
   rw[tG (by simp[E8];exact j)];simp[E8,j]
  ·rw[uG (Ne.symm e)]
   simp only[E8,pG,List.getElem?_range j,Option.map_some];by_cases h:t<k
   ·rw[if_pos h,if_pos (by omega)]
   ·rw[if_neg h,if_neg (by omega)]
 ·rw[nG (by simp[E8];omega),nG (by simp[E8];omega)]
def Wt(G:Nat->Int)(n:Nat):E8 G n n=(List.range n).map G:=by
 unfold E8;refine List.map_congr_left fun t j=>?_
 rw[if_pos (List.mem_range.1 j)]
def dZ(G:Nat->Int)(n:Nat):((E8 G n 0).map BP).toArray=Array.replicate n (.int .i64 0):=by apply Array.toList_inj.1;rw[Array.toList_replicate];simp[E8,BP,List.map_const']
section
attribute [local go_sem] Oper.semAt_some
def VU(P:Program)(fn:Func)(R:Ending->World->Prop):Exit->Act->World->Prop
 | .normal,a,w | .ret,a,w=>LeavesInM Fence.wide 0 P fn a.tmps R a.defers .returning w
 | _,_,_=>False
theorem jZ{P:Program}{f:FuncId}{fn:Func}{c:Code}{args:Array Value}{R:Ending->World->Prop}(j:P.funcs[f]?=some fn)(i:fn.body=some c)
  (h:c.wp P (VU P fn R) {tmps:=args++Array.replicate (fn.ntmps-args.size) undef,defers:=[]} w):Calls P f args w R:=by
 refine(callsIn_wide (n:=0)).1 (callsIn_of_wp_marks j i trivial (wpIn_wide.2 (Code.wp_mono ?_ h)) rfl);intro e a w h;cases e with
 | normal=>exact h
 | ret=>exact h
 | panic o=>exact h.elim
 | exit id=>exact h.elim
 | goto l=>exact h.elim
 | outgrown=>exact h.elim
def S5(y:World)(g:Gz)(L E:List (List It))(K:List (List (Nat×Nat)))(e:Ending)(w':World):Prop:=∃i,e=.returned (.tuple #[i,.int .i64 0])/\GW w' i g L E K/\Below y y w'
def P7(w:World)(g:Gz)(E:List (List It))(K:List (List (Nat×Nat)))(e:Ending)(w':World):Prop:=∃i,e=.returned (.tuple #[i,.int .i64 0])/\EX (fun b=>b<w'.heap.size) w' i g E K/\Below w w w'
def GW.form(h:GW w v g L E K)(o:K.length=L.length):∃i l j co,v=.agg #[g.R.length,.slice i L.length l,.slice j L.length co]:=by obtain⟨R,P,V,rfl,⟨⟨i,l,rfl,-,t⟩,⟨p,C⟩,hit,J,-⟩,⟨j,co,rfl,-,-,I⟩⟩:=h;exact⟨i,l,j,co,by rw[o,p]⟩
def St(j rb mb tb:Nat)(l o p:Value)(f:Nat->Value)(i:List Deferred):Act:={tmps:=#[f 0,.pointer (some ⟨j,0,none⟩),.pointer (some ⟨rb,0,none⟩),.int .i64 0,.pointer (some ⟨mb,0,none⟩),f 5,.pointer (some ⟨tb,0,none⟩),f 7,f 8,f 9,f 10,f 11,f 12,f 13,f 14,f 15,f 16,f 17,f 18,f 19,f 20,f 21,f 22,f 23,f 24,f 25,f 26,f 27,f 28,f 29,f 30,f 31,f 32,f 33,f 34,f 35,f 36,f 37,f 38,f 39,f 40,f 41,f 42,f 43,f 44,f 45,f 46,f 47,f 48,f 49,f 50,f 51,f 52,f 53,f 54,f 55,f 56,f 57,f 58,f 59,f 60,f 61,f 62,f 63,l,o,p,f 67,f 68,f 69,f 70,f 71,f 72,f 73,f 74,f 75,f 76,f 77,f 78,f 79,f 80,f 81,f 82,f 83,f 84,f 85,f 86,f 87,f 88,f 89,f 90,f 91,f 92,f 93,f 94,f 95,f 96,f 97,f 98,f 99,f 100,f 101,f 102,f 103,f 104,f 105,f 106,f 107,f 108,f 109,f 110,f 111,f 112,f 113,f 114,f 115,f 116,f 117,f 118,f 119,f 120,f 121,f 122,f 123,f 124,f 125,f 126,f 127,f 128,f 129,f 130],defers:=i}
def UC(l rb mb tb o J:Nat)(i p t C I:Value)(f:Nat->Value)(j:List Deferred):Act:={tmps:=#[f 0,.pointer (some ⟨l,0,none⟩),.pointer (some ⟨rb,0,none⟩),.int .i64 0,.pointer (some ⟨mb,0,none⟩),f 5,.pointer (some ⟨tb,0,none⟩),f 7,f 8,f 9,i,.pointer (some ⟨o,0,none⟩),.pointer (some ⟨J,0,none⟩),f 13,f 14,f 15,f 16,f 17,f 18,f 19,f 20,f 21,f 22,f 23,f 24,f 25,f 26,f 27,f 28,f 29,f 30,f 31,f 32,f 33,f 34,f 35,f 36,f 37,f 38,f 39,f 40,f 41,f 42,f 43,f 44,f 45,f 46,f 47,f 48,f 49,f 50,f 51,f 52,f 53,f 54,f 55,f 56,f 57,f 58,f 59,f 60,f 61,f 62,f 63,p,t,i,f 67,f 68,f 69,f 70,f 71,f 72,f 73,f 74,f 75,C,I,f 78,f 79,f 80,f 81,f 82,f 83,f 84,f 85,f 86,f 87,f 88,f 89,f 90,f 91,f 92,f 93,f 94,f 95,f 96,f 97,f 98,f 99,f 100,f 101,f 102,f 103,f 104,f 105,f 106,f 107,f 108,f 109,f 110,f 111,f 112,f 113,f 114,f 115,f 116,f 117,f 118,f 119,f 120,f 121,f 122,f 123,f 124,f 125,f 126,f 127,f 128,f 129,f 130],defers:=j}
def L9(o y z:World)(l p i n:Nat)(iv tv:Value)(H:Nat->It)(k:Nat)(j:List Deferred):Prop:=
 Below y y z/\Ah z l 71 #[iv,tv]/\Ah z p 72 #[.slice (i,0) n n]/\Ah z i 78 ((D8 H n k).flatMap Dg).toArray/\Cp o.heap.size z j
def ZW:El Tryz.prog 22 65 2 32:=El.of (z:=.agg #[.int .i64 0,.slice none 0 0]) underlying22 (by kernel_rfl) rfl (by decide)
def On:El Tryz.prog 23 72 1 24:=El.of (z:=.slice none 0 0) underlying23 (by kernel_rfl) rfl (by decide)
def aU(hg:GN w v g)(hs:Sz g L E K)(hc:Calm g E K)
  (b1:∀y,Below w w y->() 24 #[v] y (S5 y g L E K)):() 6 #[v] w (P7 w g E K):=by
 have HG:=Hd hg;have HS:=Hd hs;have ez:=Hd b1;have en:Hid (∀y mv,GW y mv g L E K->() 25 #[mv,g.nt] y fun e w'=>e=.returned (.slice none 0 0)/\Below y y w'):=Hd (fun y mv h=>VQ h hs hc);obtain⟨AT,cT,AN,cN,AR,cR,rfl,-,-⟩:=hg.open_;have ep:=Hd (Ah.new w 32 #[.slice AT g.nt cT,.slice AN g.nn cN,.slice AR g.R.length cR,g.s]);have da:=Hd (AH w (.cells #[.slice AT g.nt cT,.slice AN g.nn cN,.slice AR g.R.length cR,g.s] 32));have de:=Hd (ep.alloc (.cells #[.slice none 0 0,.int .i64 0,.int .i64 0,.slice none 0 0,.slice none 0 0] 26))
 have dj:=Hd (Ah.new (w.alloc (.cells #[.slice AT g.nt cT,.slice AN g.nn cN,.slice AR g.R.length cR,g.s] 32)) 26 #[.slice none 0 0,.int .i64 0,.int .i64 0,.slice none 0 0,.slice none 0 0]);have a7:=Hd (da.alloc da.size (.cells #[.slice none 0 0,.int .i64 0,.int .i64 0,.slice none 0 0,.slice none 0 0] 26));have j3:=hg.fit.nr;have jw:=hs.nt;have jv:=hg.fit.nn;clear hg hs hc b1 ep da;refine jZ func6 rfl ?_;simp only[ntmps6,List.size_toArray,List.length_cons,List.length_nil,Nat.reduceAdd,Nat.reduceSub,Array.replicate_succ,Array.replicate_zero,List.push_toArray,List.append_toArray,List.nil_append,List.cons_append]
 go_wp2_with (first
  | (
    go_at_call 24;refine(ez _ a7).mono ?_;rintro e J ⟨mv,rfl,hM,cv⟩
    obtain⟨AL,cL,Ao,co,jl⟩:=hM.form HS.k;subst jl;have HM:=Hd hM;have ei:=Hd (a7.trans (cv.mono a7.size));have ak:=Hd (de.below cv de.lt);have cl:=Hd (dj.below cv dj.lt);have eo:=Hd (en (J.alloc (.cells #[g.R.length,.slice AL L.length cL,.slice Ao L.length co] 60)) _ (hM.later (AH _ _)));have g0:=Ah.cell ak 0;have g1:=Ah.cell ak 1;have g2:=Ah.cell ak 2;have g3:=Ah.cell ak 3;have gl:=ak.lt;simp at g0 g1 g2 g3;clear hM cv)
  | (
    go_at_call 25;refine eo.mono ?_;rintro e w3 ⟨rfl,bt⟩
    have au:=Hd ((ak.alloc (.cells #[g.R.length,.slice AL L.length cL,.slice Ao L.length co] 60)).below bt (ak.alloc _).lt);have fb:=Hd ((cl.alloc (.cells #[g.R.length,.slice AL L.length cL,.slice Ao L.length co] 60)).below bt (cl.alloc _).lt);have df:=Hd ((Ah.new J 60 #[g.R.length,.slice AL L.length cL,.slice Ao L.length co]).below bt (by simp));have db:Hid (Below J J w3):=Hd ((AH J _).trans (bt.mono (by simp)));have x0:=Ah.cell au 0;have x1:=Ah.cell au 1;have x2:=Ah.cell au 2
    have x3:=Ah.cell au 3;have xl:=au.lt;simp at x0 x1 x2 x3;clear bt g0 g1 g2 g3 gl))
 clear en ez eo;have ff:=Hd (fun(y:World) (hy:Below w w y) (k:Nat) (hk:k<=g.R.length)=>PO HG hy hk);have a4:Hid (w.heap.size+1<J.heap.size/\J.heap.size<w3.heap.size):=Hd ⟨by have h:=cl.lt;simpa using h,df.lt⟩;have HT:=Hd (Ah.new w3 26 #[.slice none 0 0,g.nt,g.nn,.slice none 0 0,.slice none 0 0]);have es:=Hd (au.alloc (.cells #[.slice none 0 0,g.nt,g.nn,.slice none 0 0,.slice none 0 0] 26));have dn:=Hd (fb.alloc (.cells #[.slice none 0 0,g.nt,g.nn,.slice none 0 0,.slice none 0 0] 26))
 have f2:=Hd (df.alloc (.cells #[.slice none 0 0,g.nt,g.nn,.slice none 0 0,.slice none 0 0] 26));have bj:Hid (Below J J (w3.alloc (.cells #[.slice none 0 0,g.nt,g.nn,.slice none 0 0,.slice none 0 0] 26))):=Hd (db.alloc db.size _);have it:Hid ((w3.alloc (.cells #[.slice none 0 0,g.nt,g.nn,.slice none 0 0,.slice none 0 0] 26)).heap.size=w3.heap.size+1):=Hd (by simp);have a3:(w.alloc (.cells #[.slice AT g.nt cT,.slice AN g.nn cN,.slice AR g.R.length cR,g.s] 32)).heap.size=w.heap.size+1:=by simp
 rw[a3]at dn;clear de dj a7 ak cl au fb df db x0 x1 x2 x3 xl a3;generalize w3.alloc (.cells #[.slice none 0 0,g.nt,g.nn,.slice none 0 0,.slice none 0 0] 26)=W at *;generalize w3.heap.size=T at *;generalize gm:J.heap.size=mb at *;have dg:=Hd gm;clear gm;have ev:Hid (He w W W.heap.size g 0 (.slice none 0 0) []):=Hd ⟨⟨by have p:=bj.size;have P:=a4.out;have U:=it.out;omega,AG _⟩,rfl,⟨rfl,.inl ⟨rfl,rfl⟩⟩,fun j x hx=>by cases hx⟩;go_loopw [47] (fun kk wr=>∃(k:Nat) (rv:Value) (Z:List (Nat×Value)),k<=g.R.length+1/\kk=.int .i64 k/\Hid (He w wr W.heap.size g k rv Z)/\Hid (Ah wr T 26 #[rv,g.nt,g.nn,.slice none 0 0,.slice none 0 0])/\Hid (Aj (·=T) W wr)) (fun kk _=>g.R.length+1-(intOf kk).toNat)
 case atStart=>exact⟨0,_,[],AZ _,rfl,ev,HT,Hd (Aj.refl _ _)⟩
 case round=>
  obtain⟨k,rv,Z,hk,rfl,aw,ax,ar⟩:=hrel;rename World=>wr
  have bd:=ar.Ap es (by have:=a4.out;omega);have jz:=CG aw.row;obtain⟨ab,ad,rfl⟩:=jz;have dw:=aw.len;rw[dw]at aw ax;have x0:=Ah.cell bd 0;have x1:=Ah.cell bd 1;have x2:=Ah.cell bd 2;have x3:=Ah.cell bd 3;have t0:=Ah.cell ax 0;simp at x0 x1 x2 x3 t0;have an:=Hd dw;have ij:=Hd bd;clear bd dw;by_cases e6:k<g.R.length+1
  ·have dy:Below w w wr:=by
     have p:=ei.out;have P:Below w J W:=bj.mono (by have:=a4.out;omega);have U:Below w W wr:=ar.below (by have h4:=bj.size;have h5:=dg.out;have:=a4.out;omega) (fun j hj e=>by have:=a4.out;omega);exact(p.trans P).trans U
   have iq:=Hd (ff wr dy k (by omega));have dc:=Hd dy;clear dy;go_upto_region 11 with(first
     | (
       go_at_call 26;refine iq.mono ?_;rintro e y ⟨rk,rfl,hn,bb,gp,gq⟩
       obtain⟨⟨aq,ay,jy,-⟩,-,-⟩:=id hn;subst jy;have ik:Hid (B4 (Rt w y) y (.slice aq (g.right k).length ay) (g.right k)):=Hd (by
         by_cases ji:k<g.R.length
         · have p:=SU (gp ji)
           have ao:Below w w y:=dc.trans (bb.mono dc.size);exact p.BB (fun b hb=>.inl hb) ao.size (fun b hb=>ao.block b hb)
         · obtain⟨b,hb,gj,cs,cw⟩:=gq (by omega)
           refine⟨hn,fun b' dx _=>?_⟩;rw[hb]at dx;simp only[Value.ownBlock,Option.some.injEq]at dx;subst dx;exact .inr ⟨AY dc.size gj,cs,cw⟩)
       have aj:=Hd bb;have cn:=Hd (aw.later bb);have ir:Hid (y.ownsRow W 65 2 (.slice ab k ad) k (Z.flatMap Kb)):=Hd (by have h:=(aw.later bb).row;rw[an.out]at h;exact h);have dp:=Hd (ax.below bb ax.lt);have y0:=Ah.cell dp 0;have yl:=dp.lt;simp at y0;clear hn bb gp gq))
   go_wp2_with (first
     | (
       at_builtin;refine DY ZW (.tmp 57) (.tmp 59) rfl rfl (base:=W.heap.size) (n:=k) (m:=1) (N:=k+1) (xs:=Z.flatMap Kb) (news:=[.int .i64 ((g.Bb k).1:Nat),.slice aq (g.right k).length ay]) rfl rfl (AV (AV ir (AH _ _)) (AH _ _)) (Bf.Ap (c:=1) (cs:=[.int .i64 ((g.Bb k).1:Nat),.slice aq (g.right k).length ay]) (Ah.newAt (by simp)) rfl (by simp[Value.oneCell'])) rfl (by unfold maxLen;omega) (by omega) (by have:=cn.size.2;simp;omega) ?_
       intro A9 c9 w9 r1 r2 r3;have bf:Ah w9 T 26 #[.slice ab k ad,g.nt,g.nn,.slice none 0 0,.slice none 0 0]:=r2.Ap ((dp.alloc _).alloc _) (.inr (by decide));have f9:=bf.frozen 0;have b9:=bf.cell 0;have l9:=bf.lt;simp at b9;have bz:=(AH y (.cells #[.int .i64 ((g.Bb k).1:Nat),.slice aq (g.right k).length ay] 65)).trans ((AH (y.alloc (.cells #[.int .i64 ((g.Bb k).1:Nat),.slice aq (g.right k).length ay] 65)) (.cells #[.int .i64 ((g.Bb k).1:Nat),.slice aq (g.right k).length ay] 65)).mono (by simp));have h3:w.heap.size<=y.heap.size:=AY cn.size.1 cn.size.2
       have hx:=ik.rt h3 bz.size (fun b hb _=>bz.block b hb);have ia:w9.ownsRow W 65 2 (.slice A9 (Z.length+1) c9) (Z.length+1) (Z.flatMap Kb++[.int .i64 ((g.Bb k).1:Nat),.slice aq (g.right k).length ay]):=by rw[an.out];exact r1
       have h9:=(cn.later bz).more hx ia r2 bf (by have:=a4.out;omega) (.slice A9 (Z.length+1) c9);rw[an.out]at h9;have H9:=Hd h9;have iu:Hid (Ah (w9.setCell (T,0) (.slice A9 (k+1) c9)) T 26 #[.slice A9 (k+1) c9,g.nt,g.nn,.slice none 0 0,.slice none 0 0]):=Hd (by simpa using bf.Be 0 (.slice A9 (k+1) c9));have ie:Hid (Aj (·=T) W (w9.setCell (T,0) (.slice A9 (k+1) c9))):=Hd (((((ar.next (Aj.AK aj)).next (Aj.AK bz)).trans (Y:=fun b=>W.heap.size<=b) ⟨r2.os,r2.tape,r2.output,r2.size,fun i hi hx=>r2.block i hi (.inl (by omega))⟩ (fun b hb hx=>by omega))).set (p:=⟨T,0,none⟩) (.inr rfl) _)
       clear bf bz h3 hx h9 r1 ia r2 r3))
   go_roundw
   case rel=>exact⟨k+1,_,_,by omega,by go_num,H9,iu,ie⟩
   case measure=>simp[intOf];omega
  ·obtain rfl:k=g.R.length+1:=by omega
   have e7:=ar.Ap dn (by have:=a4.out;omega);have ip:=Hd (He.done aw j3 ax e7 (by have:=a4.out;omega) (by omega));have a7:Hid (Below J J wr):=Hd (by have p:=bj.out;have P:=a4.out;have U:=dg.out;rw[U];exact p.trans (ar.below (by have:=p.size;omega) (fun j hj e=>by omega)))
   have cf:=Hd (ar.Ap f2 (by have:=a4.out;omega));have fc:=Hd e7;have fg:Hid (GB wr wr T g E K 0 (.slice ab (g.R.length+1) ad) (.slice none 0 0) (.slice none 0 0) [] [] []):=Hd ⟨Aj.refl _ _,ax.lt,ax,rfl,rfl,⟨rfl,.inl ⟨rfl,rfl⟩⟩,(fun z hz=>by cases hz),⟨rfl,.inl ⟨rfl,rfl⟩⟩,(fun z hz=>by cases hz),trivial⟩;have m0:=Ah.cell cf 0;have m1:=Ah.cell cf 1;have m2:=Ah.cell cf 2;simp at m0 m1 m2;have bl:Hid (L.length=E.length/\L.length<=1000000):=Hd ⟨HS.e.symm,HS.l⟩;clear e7 aw ar ij x0 x1 x2 x3 t0 an e6 hk ev HT es dn f2 bj ff
   go_wp2_with fail
   generalize gs:L.length=nL at *;have f6:=Hd gs;clear gs;rename World=>t
   refine wp_loop_ghost_k (fun n a y=>∃(i:Nat) (av gv:Value) (I:List (Value×List It)) (ZG:List (Value×List Int)),i<=nL/\n=nL-i/\a=St w.heap.size (w.heap.size+1) mb T (.slice AL nL cL) nL (.int .i64 i) (fun j=>a.tmps.getD j undef) a.defers/\Hid (GB t y T g E K i (.slice ab (g.R.length+1) ad) av gv I ZG a.defers)) nL ?start ?round
   case start=>exact⟨0,_,_,[],[],AZ _,rfl,rfl,fg⟩
   case round=>
     intro n a y hI kf K2 hJ o;obtain⟨i,av,gv,I,ZG,hi,hn,ha,R⟩:=hI;obtain⟨f,hf⟩:∃f,(fun j=>a.tmps.getD j undef)=f:=⟨_,rfl⟩
     obtain⟨ds,az⟩:∃ds,a.defers=ds:=⟨_,rfl⟩
     rw[hf,az]at ha;rw[az]at R;clear hf az;subst ha;unfold St;subst hn;clear fg m0 m1 m2;have HJ:=Hd hJ;clear hJ;by_cases e6:i<nL
     ·obtain⟨kc,kg,kd,kh,b,off,Ai,ni,ci,At,nq,ct,b2,d9,Ak,nk,ck,hv,fr,fs,e3,gy,b0⟩:=HM.at_ (i:=i) (by rw[f6.out];exact e6) HS.k (HS.es i)
      simp at hv;obtain⟨⟨e1,-,-⟩,⟨e2,-,-⟩⟩:=hv;rw[<-e1]at fr;rw[<-e2]at fs;subst fr;subst fs;clear e1 e2;have aj:Hid (Below J J y):=Hd (a7.trans (R.AF.below a7.size (fun j hj e=>by have:=a4.out;have:=dg.out;omega)));have em:=Hd e3;obtain⟨yb,l2,s0,s1,s2⟩:=e3 y aj;have f8:=Hd gy;have ew:=Hd b0;have ag:=R.AF.Ap cf (by have:=a4.out;omega);have m0:=Ah.cell ag 0;have m1:=Ah.cell ag 1;have m2:=Ah.cell ag 2;have ml:=ag.lt;have t1:=Ah.cell R.Cz 1;have t2:=Ah.cell R.Cz 2;have tl:=R.Cz.lt;simp at m0 m1 m2 t1 t2
      have ch:=Hd ag;have kx:(i:Int)<(nL:Int):=by omega
      have ky:nL<=1000000:=bl.2;have b1:=fun(y:World)=>Yw (n:=g.nt+1) (by omega) y
      have ec:((g.nt+1:Nat):Int)=(g.nt:Int)+1:=by omega
      simp only[ec]at b1;clear e3 gy b0 ag ec;go_wp2_with fail
      have e1:(y.alloc (.cells #[.slice Ai ni ci,.slice At nq ct] 71)).heap.size=y.heap.size+1:=by simp
      have e2:((y.alloc (.cells #[.slice Ai ni ci,.slice At nq ct] 71)).alloc (.cells (Array.replicate ((g.nt+1)*2) (.int .i64 0)) 78)).heap.size=y.heap.size+1+1:=by simp
      have fa:Hid (L9 t y (((y.alloc (.cells #[.slice Ai ni ci,.slice At nq ct] 71)).alloc (.cells (Array.replicate ((g.nt+1)*2) (.int .i64 0)) 78)).alloc (.cells #[.slice (y.heap.size+1,0) (g.nt+1) (g.nt+1)] 72)) y.heap.size (y.heap.size+1+1) (y.heap.size+1) (g.nt+1) (.slice Ai ni ci) (.slice At nq ct) (A0 g E K i) 0 ds):=Hd ⟨((AH y _).alloc (by omega) _).alloc (by omega) _,((Ah.new y _ _).alloc _).alloc _,Ah.newAt e2,by rw[Vs];exact(Ah.newAt e1).alloc _,R.marks.later (((AH y _).alloc (by omega) _).alloc (by omega) _)⟩;clear e1 e2 s0 s1 s2 m0 m1 m2 t1 t2 b1
      generalize h1:y.heap.size=l at *;have bn:=Hd h1;clear h1;have ke:Hid (g.nt+1<=121):=Hd (by omega);refine wp_loop_ghost_k (fun n a z=>∃k:Nat,k<=g.nt+1/\n=g.nt+1-k/\a=UC w.heap.size (w.heap.size+1) mb T l (l+1+1) (.int .i64 i) (.slice (some ⟨b,off,none⟩) nL cL) nL (.int .i64 ((g.nt:Int)+1)) (.int .i64 k) (fun j=>a.tmps.getD j undef) a.defers/\Hid (L9 t y z l (l+1+1) (l+1) (g.nt+1) (.slice Ai ni ci) (.slice At nq ct) (A0 g E K i) k a.defers)) (g.nt+1) ?start5 ?round5
      case start5=>exact⟨0,AZ _,rfl,rfl,fa⟩
      case round5=>
        intro n a z hI J5 K5 ft ko;obtain⟨k,hk,hn,ha,cm⟩:=hI;obtain⟨f5,hf⟩:∃f,(fun j=>a.tmps.getD j undef)=f:=⟨_,rfl⟩
        obtain⟨cu,az⟩:∃ds,a.defers=ds:=⟨_,rfl⟩
        rw[hf,az]at ha;rw[az]at cm;clear hf az;subst ha;unfold UC;subst hn;clear fa;have et:=Hd ft;clear ft;obtain⟨ah,eg,c7,d8,d7⟩:=cm.out;by_cases b0:k<g.nt+1
        · have bi:Below J J z:=aj.trans (ah.mono aj.size)
          have d6:=AH z (.cells #[.int .i64 k] 3);have d2:=Ah.new z 3 #[.int .i64 k];have kb:(z.alloc (.cells #[.int .i64 k] 3)).heap.size=z.heap.size+1:=by simp
          have d5:Below J J (z.alloc (.cells #[.int .i64 k] 3)):=bi.trans (d6.mono bi.size);have dr:Hid (Below y y (z.alloc (.cells #[.int .i64 k] 3))):=Hd (ah.trans (d6.mono ah.size));have bq:Hid (Ah (z.alloc (.cells #[.int .i64 k] 3)) l 71 #[.slice Ai ni ci,.slice At nq ct]):=Hd (eg.alloc _);have dt:Hid (Ah (z.alloc (.cells #[.int .i64 k] 3)) (l+1+1) 72 #[.slice (l+1,0) (g.nt+1) (g.nt+1)]):=Hd (c7.alloc _);have cr:Hid (Ah (z.alloc (.cells #[.int .i64 k] 3)) (l+1) 78 ((D8 (A0 g E K i) (g.nt+1) k).flatMap Dg).toArray):=Hd (d8.alloc _)
          have fi:Hid (Cp t.heap.size (z.alloc (.cells #[.int .i64 k] 3)) cu):=Hd (d7.later d6);have b8:=Hd d5;have cq:=Hd d2;have an:Hid (l+1+1<z.heap.size/\J.heap.size<=l/\t.heap.size<=l):=Hd ⟨c7.lt,by have:=aj.size;have:=bn.out;omega,by have:=R.AF.size;have:=bn.out;omega⟩;have cc:Hid (∀y',Below (z.alloc (.cells #[.int .i64 k] 3)).heap.size (z.alloc (.cells #[.int .i64 k] 3)) y'->y'.cell? (mb,0)=some (.int .i64 g.R.length)/\y'.cell? (mb,2)=some (.slice (b2,d9) nL co)/\y'.cell? (l,0)=some (.slice Ai ni ci)/\y'.cell? (l,1)=some (.slice At nq ct)/\y'.cell? (b2,d9+i)=some (.slice Ak nk ck)/\y'.cell? (z,0)=some (.int .i64 k)):=Hd (fun y' bh=>by
            have p:=(ch.below ah ch.lt).alloc (.cells #[.int .i64 k] 3);have P:=p.below bh p.lt;have U:=bq.below bh bq.lt;have h4:=d2.below bh d2.lt;exact⟨P.cell 0,P.cell 2,U.cell 0,U.cell 1,(em y' (d5.trans (bh.mono d5.size))).2.2.2.2,h4.cell 0⟩)
          clear bi d6 d2 kb d5 ah eg c7 d8 d7 cm;have kr:(k:Int)<(g.nt:Int)+1:=by omega
          go_upto_region 20 with fail
          generalize z.alloc (.cells #[.int .i64 k] 3)=z1 at *;obtain⟨c0,c1,c2,c3,c4,c5⟩:=cc z1 (Below.refl _ _);have dd:Hid (Below z1 z1 z1.drew):=Hd ((Below.refl z1.heap.size z1).drew);have HP:=Hd (fun y:World=>Qm (w:=y) (own:=g.R.length) (t:=k) (Ai:=Ai) (At:=At) (Ak:=Ak) (ni:=ni) (ci:=ci) (nt:=nq) (ct:=ct) (nk:=nk) (ck:=ck))
          go_region_held3 (fun v=>v.cell? (mb,0)=some (.int .i64 g.R.length)/\v.cell? (mb,2)=some (.slice (b2,d9) nL co)/\v.cell? (l,0)=some (.slice Ai ni ci)/\v.cell? (l,1)=some (.slice At nq ct)/\v.cell? (b2,d9+i)=some (.slice Ak nk ck)/\v.cell? (z,0)=some (.int .i64 k))
            (first|exact cc _ dd|exact cc _ ai)
            (first|(
                 go_at_call 27;refine(HP _).mono ?_;rintro e z2 ⟨i5,i6,i7,i9,rfl,p,P,U,h4,k1,k2,k3,k4,fy⟩
                 have ai:Hid (Below z1 z1 z2):=Hd (dd.trans fy);have f7:=Hd (And.intro (And.intro p (And.intro P (And.intro U h4))) (And.intro k1 (And.intro k2 (And.intro k3 k4))));clear p P U h4 k1 k2 k3 k4 fy))
          clear c0 c1 c2 c3 c4 c5 HP;go_wp2;obtain⟨⟨p,P,U,h4⟩,k1,k2,k3,k4⟩:=f7.out;have p:z1.heap.size<=i5:=p;have P:z1.heap.size<=i6:=P;have U:z1.heap.size<=i7:=U;have h4:z1.heap.size<=i9:=h4;have ao:Below J J z2:=b8.trans (ai.mono b8.size);have hA:∀b,(b<J.heap.size\/(z1.heap.size<=b/\b<z2.heap.size))->b<z2.heap.size:=fun b hb=>hb.elim (fun h=>AW h ao.size) (·.2)
          have e8:Bp (fun b=>b<J.heap.size) J z2:=fun b hb=>ao.block b hb
          have d3:=TW (A:=fun b=>b<J.heap.size\/(z1.heap.size<=b/\b<z2.heap.size)) (w:=z2) (m:=g.nt+1) b0 (by omega) hA (.inr ⟨p,k1.lt⟩) (.inr ⟨P,k2.lt⟩) (.inr ⟨U,k3.lt⟩) (.inr ⟨h4,k4.lt⟩) k1 k2 k3 k4
            (f8.BB (fun _=>.inl) ao.size e8) (ew.BB (fun _=>.inl) ao.size e8)
          rw[<-S1]at d3;obtain⟨xs,ed⟩:∃xs,g.Hu (E.getD i []) (K.getD i []) k=xs:=⟨_,rfl⟩
          rw[ed]at d3;have bp:Hid (A0 g E K i k=xs.headD (0,0)):=Hd (by unfold A0;rw[ed]);have gu:¬(l+1<J.heap.size\/(z1.heap.size<=l+1/\l+1<z2.heap.size)):=by have q1:=an.out;have C:=cr.lt;omega
          have cp:=Hd d3;have cb:=Hd hA;have cj:=Hd gu;have b7:=Hd (cr.below ai cr.lt);have a8:=Hd (dt.below ai dt.lt);have cd:=Hd (cq.below ai cq.lt);have bo:=Hd (bq.below ai bq.lt);have b4:Hid (Below y y z2):=Hd (dr.trans (ai.mono dr.size));have b5:Hid (Cp t.heap.size z2 cu):=Hd (fi.later ai);have bm:Hid (z.heap.size<z2.heap.size/\l+1+1<z2.heap.size/\z.heap.size<z1.heap.size):=Hd ⟨cd.lt,a8.lt,cq.lt⟩;clear d3 hA ao e8 p P U h4 k1 k2 k3 k4 f7 cc ed gu dd cr dt cq bq dr fi
          refine(wpIn_wide (n:=0)).1 ?_;refine LH (gf:=63) (lb:=#[.pointer (some ⟨i5,0,none⟩),.pointer (some ⟨i6,0,none⟩),.pointer (some ⟨i7,0,none⟩),.pointer (some ⟨i9,0,none⟩)]) rfl (fun _ _=>by kernel_rfl) cp cb (fun _=>rfl)
            (fun pre A' W'=>pre=[]/\¬A' (l+1)/\Below z2 z2 W') (fun c A' W'=>c=.exit 7/\Aj (·=l+1) z2 W'/\Ah W' (l+1) 78 ((D8 (A0 g E K i) (g.nt+1) (k+1)).flatMap Dg).toArray) ?hI ?hIx ?h0 ?hround ?hdone ?hstop
          case hI=>rintro s A1 A2 iw U' ⟨p,P,U⟩ hc fq;refine⟨p,fun h=>(fq _ h).elim P (by have:=bm.out;have:=U.size;omega),U.trans (hc.below U.size (fun j hj h=>by omega))⟩
          case hIx=>rintro c s A1 A2 iw U' ⟨p,P,U⟩ hc fq;refine⟨p,P.trans hc (fun j hj h=>by omega),hc.Ap U (fun h=>by have:=bm.out;omega)⟩
          case h0=>exact⟨rfl,cj,Below.refl _ _⟩
          case hround=>
            rintro l1 pre x A5 W5 gx ks kt kn bx be ⟨rfl,aa,a6⟩;have HX:Hid (A0 g E K i k=x):=Hd (by obtain⟨rest,hr⟩:=gx;rw[bp.out,<-hr];rfl)
            obtain⟨xk,xn⟩:=x;obtain⟨W6,dv⟩:∃W6,W5.alloc (.cells #[xk,xn] 78)=W6:=⟨_,rfl⟩
            have fz:Below W5 W5 W6:=by rw[<-dv];exact AH _ _
            have hw:Ah W6 W5.heap.size 78 #[xk,xn]:=by rw[<-dv];exact Ah.new _ _ _
            have kz:W6.heap.size=W5.heap.size+1:=by rw[<-dv];simp
            have ej:=Hd fz;have iv:=Hd hw;have ey:=Hd be;have eu:=Hd (And.intro aa a6);simp only[JO];clear fz hw be bx gx aa a6 bp cp cb cj;simp
            gi_wp2
            refine⟨by omega,fun b hb=>ej.block b (ey b hb),fun W7 dz l0 r hr=>?_⟩;have bu:Aj (·=l1) z2 W7:=(((Aj.AK eu.2).next (Aj.AK ej))).next dz;have d4:Ah W7 W5.heap.size 78 #[xk,xn]:=dz.Ap iv (by omega);have bv:=bm.out;have b3:=bu.Ap b7 (by omega);have ee:=bu.Ap a8 (by omega);have e5:=bu.Ap cd (by omega);have jj:((D8 (A0 g E K i) (g.nt+1) k).flatMap Dg).length=(g.nt+1)*2:=by rw[Lk Dg 2 (fun _=>rfl),J0]
            have x0:=d4.cell 0;have x1:=d4.cell 1;have xl:=d4.lt;have y0:=ee.cell 0;have yl:=ee.lt;have w0:=e5.cell 0;have wl:=e5.lt;have f0:=b3.frozen (k*2);have f1:=b3.frozen (k*2+1);have rl:=b3.lt;obtain⟨u0,r0⟩:∃u,W7.cell? (l+1,k*2)=some u:=⟨_,(b3.cell (k*2)).trans (by rw[List.getElem?_toArray];exact eG (by omega))⟩
            obtain⟨u1,r1⟩:∃u,W7.cell? (l+1,k*2+1)=some u:=⟨_,(b3.cell (k*2+1)).trans (by rw[List.getElem?_toArray];exact eG (by omega))⟩
            simp at x0 x1 y0 w0;have ic:=Hd bu;have im:=Hd b3;clear bu d4 b3 ee e5 jj dz bv
            gi_wp2
            have e0:Aj (·=l+1) W7 ((W7.setCell (l+1,k*2) xk).setCell (l+1,k*2+1) xn):=((Aj.refl (·=l+1) W7).set (p:=⟨l+1,k*2,none⟩) (.inr rfl) xk).set (p:=⟨l+1,k*2+1,none⟩) (.inr rfl) xn;have jx:=(im.Be (k*2) xk).Be (k*2+1) xn;refine⟨e0.size,fun b hb=>e0.block b (by have:=ey b hb;omega) (fun e=>eu.1 (e▸hb)),rfl,((Aj.refl (·=l+1) z2).trans ic (fun j hj e=>by omega)).next e0,?_⟩;rw[Zn _ b0,HX.out,<-TM _ _ _ (by rw[J0];exact b0)];simpa using jx
          case hdone=>
            rintro D A5 W5 hD j1 bx be ⟨hx,aa,a6⟩ br;have hz:A0 g E K i k=(0,0):=by rw[bp.out,hx];rfl
            have bv:=bm.out;have dm:Hid (L9 t y W5 l (l+1+1) (l+1) (g.nt+1) (.slice Ai ni ci) (.slice At nq ct) (A0 g E K i) (k+1) ({target:=.collected D,args:=#[]}::cu)):=Hd ⟨b4.trans (a6.mono b4.size),bo.below a6 bo.lt,a8.below a6 a8.lt,by rw[iL _ b0 hz];exact b7.below a6 b7.lt,(b5.later a6).more (by have p:=an.out;omega) br (fun D' du=>by have:=b5.lt D' du;omega)⟩;clear bx be hx aa a6 br hz bv bp cp cb cj b7 a8 cd bo b4 b5;go_wp2;have ek:((k+1:Nat):Int)=(k:Int)+1:=by omega
            exact Handed.intro (g.nt+1-(k+1)) (by omega) (et _ _ _ ⟨k+1,by omega,rfl,by rw[ek];rfl,dm⟩)
          case hstop=>
            rintro D c A5 W5 hD j1 bx be ⟨rfl,aa,a6⟩ br;have bv:=bm.out;have gj:=an.out;have dm:Hid (L9 t y W5 l (l+1+1) (l+1) (g.nt+1) (.slice Ai ni ci) (.slice At nq ct) (A0 g E K i) (k+1) ({target:=.collected D,args:=#[]}::cu)):=Hd ⟨b4.trans (aa.below b4.size (fun j hj e=>by have:=bn.out;omega)),aa.Ap bo (by omega),aa.Ap a8 (by omega),a6,(b5.AF aa (fun D' p P e=>by have U:=b7.out;have e:D'=l+1:=e;unfold Ah at U;rw[<-e,P]at U;cases U)).more (by omega) br (fun D' du=>by have:=b5.lt D' du;omega)⟩
            clear bx be aa a6 br bv bp cp cb cj b7 a8 cd bo b4 b5;refine wpIn_wide.2 ?_;go_wp2;have ek:((k+1:Nat):Int)=(k:Int)+1:=by omega
            exact Handed.intro (g.nt+1-(k+1)) (by omega) (et _ _ _ ⟨k+1,by omega,rfl,by rw[ek];rfl,dm⟩)
        · obtain rfl:k=g.nt+1:=by omega
          have gz:z.ownsRow t 78 2 (.slice (l+1,0) (g.nt+1) (g.nt+1)) (g.nt+1) ((Ek g E K i).flatMap Dg):=by have p:=Mw (sz:=2) (n:=g.nt+1) (B:=t.heap.size) d8 (by have:=R.AF.size;have:=bn.out;omega) (by rw[Lk Dg 2 (fun _=>rfl),J0]) (by omega);rw[bE]at p;exact p
          have fe:=Hd gz;have al:=Hd ((R.later ah).marked d7);have c6:Below J J z:=aj.trans (ah.mono aj.size);have b8:=Hd c6;have a8:=Hd c7;have dh:=Hd (ch.below ah ch.lt);have t2:=Ah.cell al.Cz 2;have tl:=al.Cz.lt;simp at t2;have b1:=fun y=>I1 (P:=Tryz.prog) (t:=44) (e:=3) (z:=.int .i64 0) (bytes:=8) underlying44 (by kernel_rfl) rfl (l:=((g.nn:Nat):Int)) (n:=g.nn) rfl (by omega) (by omega) y
          clear gz ah eg c7 d8 d7 cm c6;go_wp2_with fail
          have ig:Hid (Below z z (z.alloc (.cells (Array.replicate g.nn (.int .i64 0)) 3))/\Ah (z.alloc (.cells (Array.replicate g.nn (.int .i64 0)) 3)) z.heap.size 3 ((E8 (fun c8=>DF (E.getD i []) (g.nt+1+c8)) g.nn 0).map BP).toArray):=Hd ⟨AH z _,by rw[dZ];exact Ah.new z _ _⟩;have er:Hid (∀y',Below J J y'->∀k:Nat,() 28 #[.slice (some ⟨b,off,none⟩) nL cL,.int .i64 i,.int .i64 ((g.nt:Int)+1+(k:Int))] y' fun e w'=>e=.returned (.int .i64 (DF (E.getD i []) (g.nt+1+k)))/\Below y' y' w'):=Hd (fun y' bh k=>by obtain⟨lv,lo,V,hv,hA,-⟩:=HM.out;simp at hv;rw[<-hv.1]at hA;have p:=Tq (hA.later bh) (i:=i) (s:=g.nt+1+k) (by have:=hA.len.1;have:=f6.out;omega);rwa [show ((g.nt+1+k:Nat):Int)=(g.nt:Int)+1+(k:Int) by omega]at p)
          clear t2 b1;go_loopw [101] (fun kk wr=>∃k:Nat,k<=g.nn/\kk=.int .i64 k/\Hid (Below z z wr/\Ah wr z.heap.size 3 ((E8 (fun c8=>DF (E.getD i []) (g.nt+1+c8)) g.nn k).map BP).toArray)) (fun kk _=>g.nn-(intOf kk).toNat)
          case atStart=>exact⟨0,AZ _,rfl,ig⟩
          case round=>
            obtain⟨k,kp,rfl,b6⟩:=hrel;rename World=>z9
            by_cases jk:k<g.nn
            ·have a2:=b6.1
             have ag:=dh.below a2 dh.lt;have h2:=al.Cz.below a2 al.Cz.lt;have m1:=ag.cell 1;have t1:=h2.cell 1;simp at m1 t1;have ih:=Hd (er z9 (b8.trans (a2.mono b8.size)) k);have el:=Hd a2;have kq:(k:Int)<(g.nn:Int):=by omega
             have kw:((E8 (fun c8=>DF (E.getD i []) (g.nt+1+c8)) g.nn k).map BP).length=g.nn:=by simp[E8]
             clear a2 ag h2;go_wp2_with (
                  go_at_call 28;refine ih.mono ?_;rintro e eh ⟨rfl,hb10⟩
                  have bw:=b6.2.below hb10 b6.2.lt;obtain⟨u0,r0⟩:∃u,eh.cell? ⟨z.heap.size,k,none⟩=some u:=⟨_,(bw.cell k).trans (by rw[List.getElem?_toArray];exact eG (by omega))⟩
                  have f0:=bw.frozen k;have rl:=bw.lt;have il:=Hd bw;have ib:=Hd hb10;clear bw hb10)
             go_roundw
             case rel=>exact⟨k+1,by omega,by go_num,Hd ⟨by
              have p:Below z z eh:=el.trans (ib.mono el.size);exact p.trans (((Aj.refl (fun b=>z.heap.size<=b) eh).set (p:=⟨z.heap.size,k,none⟩) (.inr (AG _)) _).below p.size (fun j hj h=>by omega)),by
              rw[eL _ jk,List.map_set];simpa [BP] using il.Be k (.int .i64 (DF (E.getD i []) (g.nt+1+k)))⟩⟩
             case measure=>simp[intOf];omega
            ·obtain rfl:k=g.nn:=by omega
             have a2:=b6.1;have e9:=CG al.JB;have ea:=CG al.goto;obtain⟨Aa,ca,rfl⟩:=e9;obtain⟨Ag,cg,rfl⟩:=ea;have a0:=Hd (al.later a2);have fh:=Hd (a8.below a2 a8.lt);have c6:t.heap.size<=z.heap.size:=al.AF.size;have di:Hid (z9.ownsRow t 78 2 (.slice (l+1,0) (g.nt+1) (g.nt+1)) (Ek g E K i).length ((Ek g E K i).flatMap Dg)):=Hd (by have p:=AV fe a2;rwa [show (Ek g E K i).length=g.nt+1 by simp[Ek]])
             have dk:Hid (z9.ownsRow t 3 1 (.slice (z,0) g.nn g.nn) (EO g E i).length ((EO g E i).map BP)):=Hd (by have p:=Mw (sz:=1) (n:=g.nn) (B:=t.heap.size) b6.2 c6 (by simp[E8]) (by omega);rw[Wt]at p;rw[show (EO g E i).length=g.nn by simp[EO]];exact p)
             have dq:Hid (some (l+1+1)≠(Value.slice Aa I.length ca).ownBlock):=Hd (fun e=>by have p:=(BQ R.JB _ e.symm).1;have P:=bn.out;omega)
             have ku:I.length<=1000000:=by have p:=congrArg List.length R.za;simp at p;have:=bl.2;omega
             have kv:ZG.length<=1000000:=by have p:=congrArg List.length R.zg;simp at p;have:=bl.2;omega
             have a5:Hid (∀v:World,Ah v T 26 #[.slice ab (g.R.length+1) ad,g.nt,g.nn,.slice Aa I.length ca,.slice Ag ZG.length cg]->Ah v (l+1+1) 72 #[.slice (l+1,0) (g.nt+1) (g.nt+1)]->(v.cell? (T,3)=some (.slice Aa I.length ca)/\v.cell? (T,4)=some (.slice Ag ZG.length cg)/\v.cell? (l+1+1,0)=some (.slice (l+1,0) (g.nt+1) (g.nt+1)))):=Hd (fun v p P=>⟨p.cell 3,p.cell 4,P.cell 0⟩);obtain⟨t3,t4,y0⟩:=a5 z9 a0.Cz fh;clear a2 c6 b6 er dh b8 fe a8 f8 ew em;go_upto_region 30 with fail
             refine YI (fun j=>j==11||j==13) (fun(v:World)=>v.cell? (T,3)=some (.slice Aa I.length ca)/\v.cell? (T,4)=some (.slice Ag ZG.length cg)/\v.cell? (l+1+1,0)=some (.slice (l+1,0) (g.nt+1) (g.nt+1))) (by kernel_rfl) ?_;have ba:(fun(v:World)=>v.cell? (T,3)=some (.slice Aa I.length ca)/\v.cell? (T,4)=some (.slice Ag ZG.length cg)/\v.cell? (l+1+1,0)=some (.slice (l+1,0) (g.nt+1) (g.nt+1))) z9.drew:=⟨t3,t4,y0⟩
             refine KN 0 (v:=?va0) rfl (by kernel_rfl) (by kernel_rfl) (by kernel_rfl) (by kernel_rfl) (fun _ _ _ h=>h) (Or.inl ⟨by rfl,?ha0⟩) ba rfl ?ra0
             case ha0=>
              intro w a1;try dsimp only at a1
              go_simp;try with_reducible rfl
             simp only[List.set_cons_succ,List.set_cons_zero];refine KN 1 (v:=?va1) rfl (by kernel_rfl) (by kernel_rfl) (by kernel_rfl) (by kernel_rfl) (fun _ _ _ h=>h) (Or.inl ⟨by rfl,?ha1⟩) ba rfl ?ra1
             case ha1=>
              intro w a1;try dsimp only at a1
              go_simp;try with_reducible rfl
             simp only[List.set_cons_succ,List.set_cons_zero];refine KN 2 (v:=?va2) rfl (by kernel_rfl) (by kernel_rfl) (by kernel_rfl) (by kernel_rfl) (fun _ _ _ h=>h) (Or.inl ⟨by rfl,?ha2⟩) ba rfl ?ra2
             case ha2=>
              intro w a1;try dsimp only at a1
              go_simp;try with_reducible rfl
             simp only[List.set_cons_succ,List.set_cons_zero];refine KN 5 (v:=?va5) rfl (by kernel_rfl) (by kernel_rfl) (by kernel_rfl) (by kernel_rfl) (fun _ _ _ h=>h) (Or.inl ⟨by rfl,?ha5⟩) ba rfl ?ra5
             case ha5=>
              intro w a1;try dsimp only at a1
              go_simp;try with_reducible rfl
             simp only[List.set_cons_succ,List.set_cons_zero];refine KN 6 (v:=?va6) rfl (by kernel_rfl) (by kernel_rfl) (by kernel_rfl) (by kernel_rfl) (fun _ _ _ h=>h) (Or.inl ⟨by rfl,?ha6⟩) ba rfl ?ra6
             case ha6=>
              intro w a1;try dsimp only at a1
              go_simp;try with_reducible rfl
             simp only[List.set_cons_succ,List.set_cons_zero];refine MB 7 (v:=?va7) rfl (by kernel_rfl) (by kernel_rfl) (by kernel_rfl) (fun _ _ _ h=>h) (Or.inl ⟨by rfl,?ha7⟩) rfl ?ra7
             case ha7=>
              intro w a1;try dsimp only at a1
              go_simp;try with_reducible rfl
             simp only[List.set_cons_succ,List.set_cons_zero];clear ba;have g9:AJ t [72,44] z9 z9.drew:=(AJ.refl _ _ z9).drew;have ha0:z9.drew.ownsRow t 72 1 (.slice Aa I.length ca) I.length (I.map (·.1)):=a0.JB;have g4:z9.drew.ownsRow t 44 1 (.slice Ag ZG.length cg) ZG.length (ZG.map (·.1)):=a0.goto;have h7:Ah z9.drew (l+1+1) 72 #[.slice (l+1,0) (g.nt+1) (g.nt+1)]:=fh.out;have bi:t.heap.size<=z9.drew.heap.size:=a0.AF.size;generalize z9.drew=d0 at *;refine SD 3 8 (by kernel_rfl) ?_ ?_
             ·
              refine MV (Z:=fun j=>j==11||j==13) (S:=(fun(v:World)=>v.cell? ⟨T,3,none⟩=some (.slice Aa I.length ca)/\v.cell? ⟨T,4,none⟩=some (.slice Ag ZG.length cg)/\v.cell? ⟨l+1+1,0,none⟩=some (.slice (some ⟨l+1,0,none⟩) (g.nt+1) (g.nt+1)))) 3 (by rfl) (by rfl) (by rfl) (fun K o=>?_);go_simp;have e4:=g9.alloc (.cells #[.slice (l+1,0) (g.nt+1) (g.nt+1)] 72);have eb:=h7.alloc (.cells #[.slice (l+1,0) (g.nt+1) (g.nt+1)] 72);have fu:=AV ha0 (AH d0 (.cells #[.slice (l+1,0) (g.nt+1) (g.nt+1)] 72));have g5:=AV g4 (AH d0 (.cells #[.slice (l+1,0) (g.nt+1) (g.nt+1)] 72))
              have gr:Ah (d0.alloc (.cells #[.slice (l+1,0) (g.nt+1) (g.nt+1)] 72)) d0.heap.size 72 #[.slice (l+1,0) (g.nt+1) (g.nt+1)]:=Ah.new d0 _ _;have ef:t.heap.size<=(d0.alloc (.cells #[.slice (l+1,0) (g.nt+1) (g.nt+1)] 72)).heap.size:=AY bi (by simp);refine o (.slice (d0,0) 1 1) _ (fun _ _=>a5 _ (e4.Ap a0.Cz (.inr (by decide))) eb) ?_;clear o K;simp only[List.set_cons_succ,List.set_cons_zero];generalize d0.alloc (.cells #[.slice (l+1,0) (g.nt+1) (g.nt+1)] 72)=ae at *;generalize d0.heap.size=fj at *
              refine SD 4 8 (by kernel_rfl) ?_ ?_
              ·
               refine MV (Z:=fun j=>j==11||j==13) (S:=(fun(v:World)=>v.cell? ⟨T,3,none⟩=some (.slice Aa I.length ca)/\v.cell? ⟨T,4,none⟩=some (.slice Ag ZG.length cg)/\v.cell? ⟨l+1+1,0,none⟩=some (.slice (some ⟨l+1,0,none⟩) (g.nt+1) (g.nt+1)))) 4 (by rfl) (by rfl) (by rfl) (fun K o=>?_);refine Ep On (.tmp 118) (.tmp 120) rfl (base:=t.heap.size) (n:=I.length) (m:=1) (N:=I.length+1) (v:=.slice Aa I.length ca) (src:=.slice (some ⟨fj,0,none⟩) 1 1) (xs:=I.map (·.1)) (news:=[.slice (some ⟨l+1,0,none⟩) (g.nt+1) (g.nt+1)]) rfl rfl fu (Bf.Ap (c:=1) (cs:=[.slice (some ⟨l+1,0,none⟩) (g.nt+1) (g.nt+1)]) gr rfl (by simp[Value.oneCell'])) rfl (by unfold maxLen;omega) (by omega) ef ?_
               intro A4 c4 a9 q1 C q3;have ga:=e4.trans (C.mono (AG _) (by simp));have h8:Ah a9 (l+1+1) 72 #[.slice (l+1,0) (g.nt+1) (g.nt+1)]:=eb.grown q3.1 dq;have jb:=C.own g5 (.inr (by decide));have j4:=q1;have k6:t.heap.size<=a9.heap.size:=AY ef C.size;clear q1 C q3;refine o _ _ (fun _ _=>a5 _ (ga.Ap a0.Cz (.inr (by decide))) h8) ?_;clear o K;simp only[List.set_cons_succ,List.set_cons_zero];refine MB 10 (v:=?vb10) rfl (by kernel_rfl) (by kernel_rfl) (by kernel_rfl) (fun _ _ _ h=>h) (Or.inl ⟨by rfl,?hb10⟩) rfl ?rb10
               case hb10=>
                intro w a1;try dsimp only at a1
                go_simp;try with_reducible rfl
               simp only[List.set_cons_succ,List.set_cons_zero];refine JP 8 (by kernel_rfl) rfl rfl rfl (fun K o=>?_);go_simp;have gb:=ga.alloc (.cells #[.slice (z,0) g.nn g.nn] 44);have hd:=h8.alloc (.cells #[.slice (z,0) g.nn g.nn] 44);have j5:=AV j4 (AH a9 (.cells #[.slice (z,0) g.nn g.nn] 44));have jc:=AV jb (AH a9 (.cells #[.slice (z,0) g.nn g.nn] 44));have jo:Ah (a9.alloc (.cells #[.slice (z,0) g.nn g.nn] 44)) a9.heap.size 44 #[.slice (z,0) g.nn g.nn]:=Ah.new a9 _ _
               have i0:t.heap.size<=(a9.alloc (.cells #[.slice (z,0) g.nn g.nn] 44)).heap.size:=AY k6 (by simp);refine o (.slice (a9,0) 1 1) _ (fun _ _=>a5 _ (gb.Ap a0.Cz (.inr (by decide))) hd) ?_;clear o K;simp only[List.set_cons_succ,List.set_cons_zero];generalize a9.alloc (.cells #[.slice (z,0) g.nn g.nn] 44)=ki at *;generalize a9.heap.size=iy at *;refine JP 9 (by kernel_rfl) rfl rfl rfl (fun K o=>?_);refine Ep M6 (.tmp 123) (.tmp 125) rfl (base:=t.heap.size) (n:=ZG.length) (m:=1) (N:=ZG.length+1) (v:=.slice Ag ZG.length cg) (src:=.slice (some ⟨iy,0,none⟩) 1 1) (xs:=ZG.map (·.1)) (news:=[.slice (some ⟨z.heap.size,0,none⟩) g.nn g.nn]) rfl rfl jc (Bf.Ap (c:=1) (cs:=[.slice (some ⟨z.heap.size,0,none⟩) g.nn g.nn]) jo rfl (by simp[Value.oneCell'])) rfl (by unfold maxLen;omega) (by omega) i0 ?_
               intro A9 c9 fk q1 C q3;have cy:=gb.trans (C.mono (AG _) (by simp));have he:Ah fk (l+1+1) 72 #[.slice (l+1,0) (g.nt+1) (g.nt+1)]:=C.Ap hd (.inr (by decide));have fv:=C.own j5 (.inr (by decide));have g6:=q1;have k7:t.heap.size<=fk.heap.size:=AY i0 C.size;clear q1 C q3;refine o _ _ (fun _ _=>a5 _ (cy.Ap a0.Cz (.inr (by decide))) he) ?_;clear o K;simp only[List.set_cons_succ,List.set_cons_zero];have ht:=cy.Ap a0.Cz (.inr (by decide));have t3:=ht.cell 3
               have t4:=ht.cell 4;have f3:=ht.frozen 3;have f4:=ht.frozen 4;have tl:=ht.lt;simp at t3 t4;have bk:=Hd (a0.more di dk cy fv g6);clear ht cy he fv g6 k7;refine GI 11 (by kernel_rfl) rfl rfl (fun K o=>?_);go_simp;refine o _ _ (fun h=>absurd h (by decide)) ?_;clear o K;refine GI 12 (by kernel_rfl) rfl rfl (fun K o=>?_);go_simp;refine o _ _ (fun _ h=>h) ?_;clear o K;refine GI 13 (by kernel_rfl) rfl rfl (fun K o=>?_);go_simp;refine o _ _ (fun h=>absurd h (by decide)) ?_;clear o K;refine Na (by kernel_rfl) ?_ _
               go_wp2;have ek:((i+1:Nat):Int)=(i:Int)+1:=by omega
               exact Handed.intro (nL-(i+1)) (by omega) (HJ _ _ _ ⟨i+1,_,_,_,_,by omega,rfl,by rw[ek];rfl,bk⟩)
              ·
               refine MV (Z:=fun j=>j==11||j==13) (S:=(fun(v:World)=>v.cell? ⟨T,3,none⟩=some (.slice Aa I.length ca)/\v.cell? ⟨T,4,none⟩=some (.slice Ag ZG.length cg)/\v.cell? ⟨l+1+1,0,none⟩=some (.slice (some ⟨l+1,0,none⟩) (g.nt+1) (g.nt+1)))) 8 (by rfl) (by rfl) (by rfl) (fun K o=>?_);go_simp;have gd:=e4.alloc (.cells #[.slice (z,0) g.nn g.nn] 44);have hh:=eb.alloc (.cells #[.slice (z,0) g.nn g.nn] 44);have j6:=AV fu (AH ae (.cells #[.slice (z,0) g.nn g.nn] 44));have jd:=AV g5 (AH ae (.cells #[.slice (z,0) g.nn g.nn] 44))
               have jq:Ah (ae.alloc (.cells #[.slice (z,0) g.nn g.nn] 44)) ae.heap.size 44 #[.slice (z,0) g.nn g.nn]:=Ah.new ae _ _;have jm:=gr.alloc (.cells #[.slice (z,0) g.nn g.nn] 44);have i1:t.heap.size<=(ae.alloc (.cells #[.slice (z,0) g.nn g.nn] 44)).heap.size:=AY ef (by simp);refine o (.slice (ae,0) 1 1) _ (fun _ _=>a5 _ (gd.Ap a0.Cz (.inr (by decide))) hh) ?_;clear o K;simp only[List.set_cons_succ,List.set_cons_zero];generalize ae.alloc (.cells #[.slice (z,0) g.nn g.nn] 44)=kj at *
               generalize ae.heap.size=iz at *;refine JP 4 (by kernel_rfl) rfl rfl rfl (fun K o=>?_);refine Ep On (.tmp 118) (.tmp 120) rfl (base:=t.heap.size) (n:=I.length) (m:=1) (N:=I.length+1) (v:=.slice Aa I.length ca) (src:=.slice (some ⟨fj,0,none⟩) 1 1) (xs:=I.map (·.1)) (news:=[.slice (some ⟨l+1,0,none⟩) (g.nt+1) (g.nt+1)]) rfl rfl j6 (Bf.Ap (c:=1) (cs:=[.slice (some ⟨l+1,0,none⟩) (g.nt+1) (g.nt+1)]) jm rfl (by simp[Value.oneCell'])) rfl (by unfold maxLen;omega) (by omega) i1 ?_;intro A4 c4 fl q1 C q3;have gf:=gd.trans (C.mono (AG _) (by simp))
               have hl:Ah fl (l+1+1) 72 #[.slice (l+1,0) (g.nt+1) (g.nt+1)]:=hh.grown q3.1 dq;have je:=C.own jd (.inr (by decide));have j7:=q1;have jr:=C.Ap jq (.inr (by decide));have i2:t.heap.size<=fl.heap.size:=AY i1 C.size;clear q1 C q3;refine o _ _ (fun _ _=>a5 _ (gf.Ap a0.Cz (.inr (by decide))) hl) ?_;clear o K;simp only[List.set_cons_succ,List.set_cons_zero];refine MB 10 (v:=?vc10) rfl (by kernel_rfl) (by kernel_rfl) (by kernel_rfl) (fun _ _ _ h=>h) (Or.inl ⟨by rfl,?hc10⟩) rfl ?rc10
               case hc10=>
                intro w a1;try dsimp only at a1
                go_simp;try with_reducible rfl
               simp only[List.set_cons_succ,List.set_cons_zero];refine JP 9 (by kernel_rfl) rfl rfl rfl (fun K o=>?_);refine Ep M6 (.tmp 123) (.tmp 125) rfl (base:=t.heap.size) (n:=ZG.length) (m:=1) (N:=ZG.length+1) (v:=.slice Ag ZG.length cg) (src:=.slice (some ⟨iz,0,none⟩) 1 1) (xs:=ZG.map (·.1)) (news:=[.slice (some ⟨z.heap.size,0,none⟩) g.nn g.nn]) rfl rfl je (Bf.Ap (c:=1) (cs:=[.slice (some ⟨z.heap.size,0,none⟩) g.nn g.nn]) jr rfl (by simp[Value.oneCell'])) rfl (by unfold maxLen;omega) (by omega) i2 ?_;intro A9 c9 fm q1 C q3;have cz:=gf.trans (C.mono (AG _) (by simp))
               have hm:Ah fm (l+1+1) 72 #[.slice (l+1,0) (g.nt+1) (g.nt+1)]:=C.Ap hl (.inr (by decide));have fw:=C.own j7 (.inr (by decide));have g7:=q1;have k8:t.heap.size<=fm.heap.size:=AY i2 C.size;clear q1 C q3;refine o _ _ (fun _ _=>a5 _ (cz.Ap a0.Cz (.inr (by decide))) hm) ?_;clear o K;simp only[List.set_cons_succ,List.set_cons_zero];have ht:=cz.Ap a0.Cz (.inr (by decide));have t3:=ht.cell 3;have t4:=ht.cell 4;have f3:=ht.frozen 3;have f4:=ht.frozen 4;have tl:=ht.lt;simp at t3 t4
               have bk:=Hd (a0.more di dk cz fw g7);clear ht cz hm fw g7 k8;refine GI 11 (by kernel_rfl) rfl rfl (fun K o=>?_);go_simp;refine o _ _ (fun h=>absurd h (by decide)) ?_;clear o K;refine GI 12 (by kernel_rfl) rfl rfl (fun K o=>?_);go_simp;refine o _ _ (fun _ h=>h) ?_;clear o K;refine GI 13 (by kernel_rfl) rfl rfl (fun K o=>?_);go_simp;refine o _ _ (fun h=>absurd h (by decide)) ?_;clear o K;refine Na (by kernel_rfl) ?_ _;go_wp2;have ek:((i+1:Nat):Int)=(i:Int)+1:=by omega
               exact Handed.intro (nL-(i+1)) (by omega) (HJ _ _ _ ⟨i+1,_,_,_,_,by omega,rfl,by rw[ek];rfl,bk⟩)
             ·
              refine MV (Z:=fun j=>j==11||j==13) (S:=(fun(v:World)=>v.cell? ⟨T,3,none⟩=some (.slice Aa I.length ca)/\v.cell? ⟨T,4,none⟩=some (.slice Ag ZG.length cg)/\v.cell? ⟨l+1+1,0,none⟩=some (.slice (some ⟨l+1,0,none⟩) (g.nt+1) (g.nt+1)))) 8 (by rfl) (by rfl) (by rfl) (fun K o=>?_);go_simp;have gg:=g9.alloc (.cells #[.slice (z,0) g.nn g.nn] 44);have ho:=h7.alloc (.cells #[.slice (z,0) g.nn g.nn] 44);have j8:=AV ha0 (AH d0 (.cells #[.slice (z,0) g.nn g.nn] 44));have jf:=AV g4 (AH d0 (.cells #[.slice (z,0) g.nn g.nn] 44))
              have js:Ah (d0.alloc (.cells #[.slice (z,0) g.nn g.nn] 44)) d0.heap.size 44 #[.slice (z,0) g.nn g.nn]:=Ah.new d0 _ _;have k9:t.heap.size<=(d0.alloc (.cells #[.slice (z,0) g.nn g.nn] 44)).heap.size:=AY bi (by simp);refine o (.slice (d0,0) 1 1) _ (fun _ _=>a5 _ (gg.Ap a0.Cz (.inr (by decide))) ho) ?_;clear o K;simp only[List.set_cons_succ,List.set_cons_zero];generalize d0.alloc (.cells #[.slice (z,0) g.nn g.nn] 44)=af at *;generalize d0.heap.size=j0 at *
              refine JP 3 (by kernel_rfl) rfl rfl rfl (fun K o=>?_);go_simp;have gh:=gg.alloc (.cells #[.slice (l+1,0) (g.nt+1) (g.nt+1)] 72);have hp:=ho.alloc (.cells #[.slice (l+1,0) (g.nt+1) (g.nt+1)] 72);have j9:=AV j8 (AH af (.cells #[.slice (l+1,0) (g.nt+1) (g.nt+1)] 72));have jg:=AV jf (AH af (.cells #[.slice (l+1,0) (g.nt+1) (g.nt+1)] 72));have jn:Ah (af.alloc (.cells #[.slice (l+1,0) (g.nt+1) (g.nt+1)] 72)) af.heap.size 72 #[.slice (l+1,0) (g.nt+1) (g.nt+1)]:=Ah.new af _ _
              have jt:=js.alloc (.cells #[.slice (l+1,0) (g.nt+1) (g.nt+1)] 72);have i3:t.heap.size<=(af.alloc (.cells #[.slice (l+1,0) (g.nt+1) (g.nt+1)] 72)).heap.size:=AY k9 (by simp);refine o (.slice (af,0) 1 1) _ (fun _ _=>a5 _ (gh.Ap a0.Cz (.inr (by decide))) hp) ?_;clear o K;simp only[List.set_cons_succ,List.set_cons_zero];generalize af.alloc (.cells #[.slice (l+1,0) (g.nt+1) (g.nt+1)] 72)=km at *;generalize af.heap.size=ix at *;refine JP 4 (by kernel_rfl) rfl rfl rfl (fun K o=>?_)
              refine Ep On (.tmp 118) (.tmp 120) rfl (base:=t.heap.size) (n:=I.length) (m:=1) (N:=I.length+1) (v:=.slice Aa I.length ca) (src:=.slice (some ⟨ix,0,none⟩) 1 1) (xs:=I.map (·.1)) (news:=[.slice (some ⟨l+1,0,none⟩) (g.nt+1) (g.nt+1)]) rfl rfl j9 (Bf.Ap (c:=1) (cs:=[.slice (some ⟨l+1,0,none⟩) (g.nt+1) (g.nt+1)]) jn rfl (by simp[Value.oneCell'])) rfl (by unfold maxLen;omega) (by omega) i3 ?_;intro A4 c4 fo q1 C q3;have gi:=gh.trans (C.mono (AG _) (by simp));have hq:Ah fo (l+1+1) 72 #[.slice (l+1,0) (g.nt+1) (g.nt+1)]:=hp.grown q3.1 dq
              have jh:=C.own jg (.inr (by decide));have ja:=q1;have ju:=C.Ap jt (.inr (by decide));have i4:t.heap.size<=fo.heap.size:=AY i3 C.size;clear q1 C q3;refine o _ _ (fun _ _=>a5 _ (gi.Ap a0.Cz (.inr (by decide))) hq) ?_;clear o K;simp only[List.set_cons_succ,List.set_cons_zero];refine MB 10 (v:=?vd10) rfl (by kernel_rfl) (by kernel_rfl) (by kernel_rfl) (fun _ _ _ h=>h) (Or.inl ⟨by rfl,?hd10⟩) rfl ?rd10
              case hd10=>
               intro w a1;try dsimp only at a1
               go_simp;try with_reducible rfl
              simp only[List.set_cons_succ,List.set_cons_zero];refine JP 9 (by kernel_rfl) rfl rfl rfl (fun K o=>?_);refine Ep M6 (.tmp 123) (.tmp 125) rfl (base:=t.heap.size) (n:=ZG.length) (m:=1) (N:=ZG.length+1) (v:=.slice Ag ZG.length cg) (src:=.slice (some ⟨j0,0,none⟩) 1 1) (xs:=ZG.map (·.1)) (news:=[.slice (some ⟨z.heap.size,0,none⟩) g.nn g.nn]) rfl rfl jh (Bf.Ap (c:=1) (cs:=[.slice (some ⟨z.heap.size,0,none⟩) g.nn g.nn]) ju rfl (by simp[Value.oneCell'])) rfl (by unfold maxLen;omega) (by omega) i4 ?_;intro A9 c9 fp q1 C q3;have d1:=gi.trans (C.mono (AG _) (by simp))
              have hu:Ah fp (l+1+1) 72 #[.slice (l+1,0) (g.nt+1) (g.nt+1)]:=C.Ap hq (.inr (by decide));have fx:=C.own ja (.inr (by decide));have g8:=q1;have ka:t.heap.size<=fp.heap.size:=AY i4 C.size;clear q1 C q3;refine o _ _ (fun _ _=>a5 _ (d1.Ap a0.Cz (.inr (by decide))) hu) ?_;clear o K;simp only[List.set_cons_succ,List.set_cons_zero];have ht:=d1.Ap a0.Cz (.inr (by decide));have t3:=ht.cell 3;have t4:=ht.cell 4;have f3:=ht.frozen 3;have f4:=ht.frozen 4;have tl:=ht.lt;simp at t3 t4;have bk:=Hd (a0.more di dk d1 fx g8)
              clear ht d1 hu fx g8 ka;refine GI 11 (by kernel_rfl) rfl rfl (fun K o=>?_);go_simp;refine o _ _ (fun h=>absurd h (by decide)) ?_;clear o K;refine GI 12 (by kernel_rfl) rfl rfl (fun K o=>?_);go_simp;refine o _ _ (fun _ h=>h) ?_;clear o K;refine GI 13 (by kernel_rfl) rfl rfl (fun K o=>?_);go_simp;refine o _ _ (fun h=>absurd h (by decide)) ?_;clear o K;refine Na (by kernel_rfl) ?_ _;go_wp2;have ek:((i+1:Nat):Int)=(i:Int)+1:=by omega
              exact Handed.intro (nL-(i+1)) (by omega) (HJ _ _ _ ⟨i+1,_,_,_,_,by omega,rfl,by rw[ek];rfl,bk⟩)
     ·obtain rfl:i=nL:=by omega
      have e9:=CG R.JB;have ea:=CG R.goto;obtain⟨Aa,ca,rfl⟩:=e9;obtain⟨Ag,cg,rfl⟩:=ea;have t0:=Ah.cell R.Cz 0;have t1:=Ah.cell R.Cz 1;have t2:=Ah.cell R.Cz 2;have t3:=Ah.cell R.Cz 3;have t4:=Ah.cell R.Cz 4;have a3:=R.AF.Ap fc (by have:=a4.out;omega);have r0:=Ah.cell a3 0;have r1:=Ah.cell a3 1;have r2:=Ah.cell a3 2;have r3:=Ah.cell a3 3;have r4:=Ah.cell a3 4;have q0:=Ah.frozen a3 0;have q1:=Ah.frozen a3 1;have C:=Ah.frozen a3 2;have q3:=Ah.frozen a3 3;have q4:=Ah.frozen a3 4;have rl:=a3.lt
      simp at t0 t1 t2 t3 t4 r0 r1 r2 r3 r4;have fd:=Hd a3;clear a3;go_wp2;have j2:i=E.length:=by have:=bl.1;omega
      have gw:=R.out;rw[j2]at gw;have k0:w.heap.size+1<t.heap.size:=fc.lt;have hdone:=gw.done ip (by have:=bl.2;omega) jw jv k0 R.lt;have bc:=((((((Aj.refl (·=w.heap.size+1) y).set (p:=⟨w.heap.size+1,0,none⟩) (.inr rfl) (.slice ab (g.R.length+1) ad)).set (p:=⟨w.heap.size+1,1,none⟩) (.inr rfl) g.nt).set (p:=⟨w.heap.size+1,2,none⟩) (.inr rfl) g.nn).set (p:=⟨w.heap.size+1,3,none⟩) (.inr rfl) (.slice Aa I.length ca)).set (p:=⟨w.heap.size+1,4,none⟩) (.inr rfl) (.slice Ag ZG.length cg))
      have cw:=((((fd.Be 0 (.slice ab (g.R.length+1) ad)).Be 1 g.nt).Be 2 g.nn).Be 3 (.slice Aa I.length ca)).Be 4 (.slice Ag ZG.length cg);have k5:y.heap[w.heap.size+1]?≠some (.deferred (some [])):=fun h=>by have P:=fd.out;unfold Ah at P;rw[h]at P;cases P
      generalize (((((y.setCell {block:=w.heap.size+1,off:=0} (Value.slice ab (g.R.length+1) ad)).setCell {block:=w.heap.size+1,off:=1} (Value.int IntKind.i64 ↑g.nt)).setCell {block:=w.heap.size+1,off:=2} (Value.int IntKind.i64 ↑g.nn)).setCell {block:=w.heap.size+1,off:=3} (Value.slice Aa I.length ca)).setCell {block:=w.heap.size+1,off:=4} (Value.slice Ag ZG.length cg))=W9 at *;simp at cw;refine Ur (B:=t.heap.size) (R.marks.AF bc (fun D _ hx e=>k5 (by rw[<-e];exact hx))) (fun w9 cx=>?_);have a2:=cx.Ap cw (fun h=>by have:=h.1;omega);have z0:=Ah.cell a2 0;have z1:=Ah.cell a2 1
      have z2:=Ah.cell a2 2;have z3:=Ah.cell a2 3;have z4:=Ah.cell a2 4;simp at z0 z1 z2 z3 z4;refine⟨.tuple #[.agg #[.slice ab (g.R.length+1) ad,g.nt,g.nn,.slice Aa I.length ca,.slice Ag ZG.length cg],.int .i64 0],?_,_,rfl,?_,?_⟩
      · rw[results_cell_tmp rfl]
        go_simp
      · refine((hdone.AF bc (fun b hb=>hb.1.2.2)).AF cx (fun b hb h=>hb.2 ⟨h.1,?_⟩)).mono (fun b hb=>?_)
        · rw[<-bc.block b hb.1.1 hb.1.2.2]
          exact h.2
        · exact AW (AW hb.1.1 bc.size) cx.size
      · have p:=ei.out
        have P:=a7.mono p.size;have U:=a4.out;have h4:Below w t y:=R.AF.below (AY p.size a7.size) (fun j hj e=>by omega);have h5:Below w y W9:=bc.below (AY (AY p.size a7.size) R.AF.size) (fun j hj e=>by omega);have h6:Below w W9 w9:=cx.below (AY (AY (AY p.size a7.size) R.AF.size) bc.size) (fun j hj e=>by have:=e.1;omega);exact(((p.trans P).trans h4).trans h5).trans h6
end
def O6(i j:Nat)(x:It):Prop:=(x.1=0/\x.2=0)\/(x.1=3/\x.2=0)\/(x.1=1/\x.2<i)\/(x.1=2/\x.2<j)
instance(nA nR:Nat)(x:It):Decidable (O6 nA nR x):=by unfold O6;infer_instance
def EX.open_(h:EX A w v g E K):∃P cr I T J U,v=.agg #[.slice P (g.R.length+1) cr,g.nt,g.nn,.slice I E.length T,.slice J E.length U] /\
  (∀k,k<=g.R.length->∃b off rv,P=some ⟨b,off,none⟩/\b<w.heap.size/\A b/\w.cell? ⟨b,off+k*2,none⟩=some (.int .i64 ((g.Bb k).1:Nat))/\w.cell? ⟨b,off+k*2+1,none⟩=some rv/\B4 A w rv (g.right k)) /\
  (∀i,i<E.length->∃b off l o,I=some ⟨b,off,none⟩/\b<w.heap.size/\A b/\w.cell? ⟨b,off+i,none⟩=some (.slice l (g.nt+1) o)/\D3 A w (.slice l (g.nt+1) o) (Ek g E K i)) /\
  (∀i,i<E.length->∃b off l o,J=some ⟨b,off,none⟩/\b<w.heap.size/\A b/\w.cell? ⟨b,off+i,none⟩=some (.slice l g.nn o)/\G1 A w (.slice l g.nn o) (EO g E i)):=by
 obtain⟨rv,av,gv,rfl,⟨P,cr,rfl,-,-,hr⟩,⟨I,T,rfl,-,-,ha⟩,⟨J,U,rfl,-,-,hg⟩⟩:=h;refine⟨P,cr,I,T,J,U,rfl,fun k hk=>?_,fun i hi=>?_,fun i hi=>?_⟩
 ·obtain⟨b,off,e,t,C,p⟩:=hr k (by omega)
  obtain⟨R,h0,j⟩:=p 0 (by omega);obtain⟨x1,h1,e1⟩:=p 1 (by omega);rw[if_pos rfl]at j;rw[if_neg (by omega)]at e1;exact⟨b,off,x1,e,C,t,by rw[<-Nat.add_zero (off+k*2),h0,j],h1,e1⟩
 ·obtain⟨b,off,e,t,C,p⟩:=ha i hi
  obtain⟨R,h0,j⟩:=p 0 (by omega);have j:D3 A w R (Ek g E K i):=j;obtain⟨l,o,rfl,-⟩:=j.form;rw[Nat.mul_one,Nat.add_zero]at h0;have hl:(Ek g E K i).length=g.nt+1:=by simp[Ek]
  rw[hl]at h0 j;exact⟨b,off,l,o,e,C,t,h0,j⟩
 ·obtain⟨b,off,e,t,C,p⟩:=hg i hi
  obtain⟨R,h0,j⟩:=p 0 (by omega);have j:G1 A w R (EO g E i):=j;obtain⟨l,o,rfl,-,-,-⟩:=id j;rw[Nat.mul_one,Nat.add_zero]at h0;have hl:(EO g E i).length=g.nn:=by simp[EO]
  rw[hl]at h0 j;exact⟨b,off,l,o,e,C,t,h0,j⟩
def G1.at_{i:Option Addr}{c:Nat}(h:G1 A w (.slice i n c) l){x:Int}(o:l[k]?=some x):∃b off,i=some ⟨b,off,none⟩/\A b/\b<w.heap.size/\w.cell? ⟨b,off+k,none⟩=some (.int .i64 x):=by
 obtain⟨U,c',T,-,-,R⟩:=h;cases T
 have J:=(sG.1 o).1;obtain⟨b,off,p,t,P,C⟩:=R k J;obtain⟨y0,h0,j⟩:=C 0 (by omega);have I:l.getD k 0=x:=by rw[dG,o];rfl
 rw[I]at j;refine⟨b,off,p,t,P,?_⟩;rw[Nat.mul_one,Nat.add_zero]at h0;rw[h0,j]
section
set_option maxRecDepth 1000000
def XC:((List.range AS.length).all fun i=>(List.range (pz.nt+1)).all fun t=>decide ((pz.Hu (AS.getD i []) (Bm.getD i []) t).length<=1))=true:=by decide +kernel
def aQ:Calm pz AS Bm:=fun i t j l=>by have h:=List.all_eq_true.1 (List.all_eq_true.1 XC i (List.mem_range.2 j)) t (List.mem_range.2 (by omega));exact of_decide_eq_true h
end
end Go.Proofs.YthaacmablcpdfaaGreatDoor
