/- The actions of a place. No clashes. What the making of lookaheads comes to. A table. A table that is being built. The making of a table. A right table. The table of the POSIX grammar. -/
import Derived.Test.YthaacmablcpdfaaGreatDoorYaw
import Derived.Test.YthaacmablcpdfaaGreatDoorYax
import Derived.Test.YthaacmablcpdfaaGreatDoorYat
import Derived.Test.YthaacmablcpdfaaGreatDoorYac
import Derived.BigQuiet
import Derived.Deep.QuietTactic
import Derived.Test.YthaacmablcpdfaaGreatDoorYn
set_option linter.unusedVariables false
set_option maxRecDepth 100000
set_option maxHeartbeats 16000000
namespace Go.Proofs.YthaacmablcpdfaaGreatDoor
open Go.RowKit
section
attribute [local go_sem] Oper.semAt_some
def O5(w:World)(own t:Nat)(iv tv p:Value)(e:Ending)(w':World):Prop:=
 ∃l o i j,e=.returned (.func (.func 63) #[] #[.pointer (some ⟨l,0,none⟩),.pointer (some ⟨o,0,none⟩),.pointer (some ⟨i,0,none⟩),.pointer (some ⟨j,0,none⟩)])/\w.heap.size<=l/\w.heap.size<=o/\w.heap.size<=i/\w.heap.size<=j /\
  Ah w' l 71 #[iv,tv]/\Ah w' o 3 #[.int .i64 t]/\Ah w' i 76 #[p]/\Ah w' j 3 #[.int .i64 own]/\Below w.heap.size w w'
theorem Ts{w:World}{own t:Nat}{Ai At Ak:Option Addr}{ni ci nt ct nk ck:Nat} :
  Calls Tryz.prog 27 #[.int .i64 own,.agg #[.slice Ai ni ci,.slice At nt ct],.slice Ak nk ck,.int .i64 t] w (O5 w own t (.slice Ai ni ci) (.slice At nt ct) (.slice Ak nk ck)):=by
 unfold O5;go_enter Tryz.func27,Tryz.ntmps27
 go_wp2;go_ret;have i:(w.alloc (.cells #[.int .i64 own] 3)).heap.size=w.heap.size+1:=by simp
 have j:((w.alloc (.cells #[.int .i64 own] 3)).alloc (.cells #[.slice Ai ni ci,.slice At nt ct] 71)).heap.size=w.heap.size+1+1:=by simp
 have l:(((w.alloc (.cells #[.int .i64 own] 3)).alloc (.cells #[.slice Ai ni ci,.slice At nt ct] 71)).alloc (.cells #[.slice Ak nk ck] 76)).heap.size=w.heap.size+1+1+1:=by simp
 refine⟨_,_,_,_,rfl,by omega,by omega,by omega,AG _,?_,?_,?_,?_,?_⟩
 ·exact((Ah.newAt i).alloc _).alloc _
 ·exact Ah.newAt l
 ·exact(Ah.newAt j).alloc _
 ·exact(((Ah.new w _ _).alloc _).alloc _).alloc _
 ·exact(((Ay w _).alloc (by omega) _).alloc (by omega) _).alloc (by omega) _
theorem Re{w:World}{v:Value}{l:List Nat}(h:Bz w v l):B0 (fun b=>b<w.heap.size) w v l:=by
 refine⟨h,fun b i p=>?_⟩;obtain⟨⟨I,c,t,o⟩,-,-⟩:=h;obtain⟨x,C⟩:∃x,l[0]?=some x:=⟨_,eG p⟩
 obtain⟨J,off,j,P,-⟩:=o 0 x C;rw[t,j]at i;simp only[Value.ownBlock,Option.some.injEq]at i;omega
theorem GH.OZ{w:World}{m:Nat}{v:Value}{l:List (Nat×Nat)}(h:GH w m v l):H0 (fun b=>b<w.heap.size) w m v l:=by
 refine Bk.mono (show Bk (fun b=>b<w.heap.size) w v l.length 2 _ from h) (fun _=>id) (fun k j x _ _ o=>?_);split at o
 ·rename_i i;rw[if_pos i];exact o
 ·rename_i i;rw[if_neg i];exact Re o
theorem CU.Zg{w:World}{v:Value}{l:List It}(h:CU w v l)(T:l.length<=1000000):D5 (fun b=>b<w.heap.size) w v l:=by
 obtain⟨⟨A,c,o,J⟩,-,U⟩:=h;refine⟨A,c,o,(U A l.length c o).1,T,fun k R=>?_⟩;obtain⟨x,p⟩:∃x,l[k]?=some x:=⟨_,eG R⟩
 obtain⟨b,off,I,j,t,C⟩:=J k x p;have i:l.getD k (0,0)=x:=by rw[dG,p];rfl
 refine⟨b,off,I,j,j,fun a0 P=>?_⟩
 match a0,P with
 | 0,_=>exact⟨_,t,by dsimp only;rw[i];rfl⟩
 | 1,_=>exact⟨_,C,by dsimp only;rw[i];rfl⟩
theorem FN.at_{w:World}{v:Value}{g:Gz}{L E:List (List It)}{K:List (List (Nat×Nat))}(h:FN w v g L E K){i:Nat}(hi:i<L.length)(hK:K.length=L.length)(hE:(E.getD i []).length<=1000000) :
  ∃C J I co b off Ai ni ci At nt ct j p Ak nk ck,v=.agg #[.int .i64 g.R.length,.slice C L.length J,.slice I L.length co]/\C=some ⟨b,off,none⟩/\I=some ⟨j,p,none⟩ /\
   (∀y,Below w.heap.size w y->b<y.heap.size/\j<y.heap.size/\y.cell? ⟨b,off+i*2,none⟩=some (.slice Ai ni ci)/\y.cell? ⟨b,off+i*2+1,none⟩=some (.slice At nt ct)/\y.cell? ⟨j,p+i,none⟩=some (.slice Ak nk ck)) /\
   D5 (fun b=>b<w.heap.size) w (.slice At nt ct) (E.getD i [])/\H0 (fun b=>b<w.heap.size) w (g.nt+1) (.slice Ak nk ck) (K.getD i []):=by
 obtain⟨lv,lo,V,rfl,⟨⟨C,J,rfl,-,hc⟩,⟨a3,a8⟩,hit,a4,-⟩,⟨I,co,rfl,-,-,hr⟩⟩:=h;rw[hK]at hr ⊢;rw[<-a3];obtain⟨x,U⟩:∃x,V[i]?=some x:=⟨_,eG (by omega)⟩
 obtain⟨l,hl⟩:∃l,L[i]?=some l:=⟨_,eG hi⟩
 obtain⟨t,ht⟩:∃t,E[i]?=some t:=⟨_,eG (by omega)⟩
 obtain⟨b,off,hA,T,e0,e1⟩:=hc i x U;obtain⟨j,p,a1,-,a0,a2⟩:=hr i hi;obtain⟨kv,h0,R⟩:=a2 0 (by omega);have hI:=hit i x l U hl;have P:=a4 i x t U ht;have eT:E.getD i []=t:=by rw[dG,ht];rfl
 rw[eT]at hE ⊢;obtain⟨⟨Ai,ci,a5,-⟩,-,-⟩:=id hI;obtain⟨⟨At,ct,a7,-⟩,-,-⟩:=id P;obtain⟨Ak,ck,a6,-⟩:=R.OZ.form;rw[a5]at e0;rw[a7]at e1 P;rw[a6]at h0 R;rw[Nat.mul_one,Nat.add_zero]at h0;exact⟨C,J,I,co,b,off,Ai,_,ci,At,_,ct,j,p,Ak,_,ck,rfl,hA,a1,fun y o=>⟨A0 T o.size,A0 a0 o.size,(o.cell (p:=⟨b,off+i*2,none⟩) T).trans e0,(o.cell (p:=⟨b,off+i*2+1,none⟩) T).trans e1,(o.cell (p:=⟨j,p+i,none⟩) a0).trans h0⟩,P.Zg hE,R.OZ⟩
def C9(x:It):List Value:=[.int .i64 x.1,.int .i64 x.2]
theorem fO:El Tryz.prog 72 78 2 16:=El.of (z:=.agg #[.int .i64 0,.int .i64 0]) Tryz.underlying72 (by kernel_rfl) rfl (by decide)
theorem Wn(own t:Nat)(j:List It)(i:List (Nat×Nat)):(Co t j++C8 own t i++Eb own t i).length<=j.length+i.length+i.length:=by
 have l:(Co t j).length<=j.length:=by
  unfold Co;rw[lM];split
  ·exact List.length_filter_le _ _
  ·simp
 have o:(C8 own t i).length<=i.length:=by unfold C8;rw[lM];exact List.length_filter_le _ _
 have p:(Eb own t i).length<=i.length:=by unfold Eb;rw[lM];exact List.length_filter_le _ _
 simp only[B5];omega
def Tq(w:World)(j:Nat)(W:World)(pre:List It)(A':Nat->Prop)(i:World):Prop:=Hv 78 2 72 w j pre.length (pre.flatMap C9) A' i/\W.heap.size<=i.heap.size
theorem eO{w:World}{v:Value}{g:Gz}{L E:List (List It)}{K:List (List (Nat×Nat))}(h:FN w v g L E K){i t:Nat}(hi:i<L.length)(hL:L.length<=1000000)(hK:K.length=L.length)(hE:(E.getD i []).length<=1000000)(hk:(K.getD i []).length<=1000000)(ht:t<=g.nt)(b8:g.nt<=120) :
  Calls Tryz.prog 62 #[v,.int .i64 i,.int .i64 t] w fun e w'=>∃o,e=.returned o/\Ng 78 2 w (g.JD (E.getD i []) (K.getD i []) t).length ((g.JD (E.getD i []) (K.getD i []) t).flatMap C9) o w':=by
 obtain⟨AL,cL,Ao,co,b,off,Ai,ni,ci,At,nt,ct,b2,a1,Ak,nk,ck,rfl,rfl,rfl,b3,bh,b6⟩:=h.at_ hi hK hE;rw[T0];have af:=Wn g.R.length t (E.getD i []) (K.getD i []);generalize E.getD i []=tr at *;generalize K.getD i []=lk at *;obtain⟨xs,al⟩:∃xs,Co t tr++C8 g.R.length t lk++Eb g.R.length t lk=xs:=⟨_,rfl⟩
 have cd:(i:Int)<(L.length:Int):=by omega
 generalize L.length=U at *;generalize cc:g.R.length=own at *;rw[al]at af ⊢;obtain⟨j,a0⟩:∃j,(w.alloc (.cells #[.int .i64 own,.slice (some ⟨b,off,none⟩) U cL,.slice (some ⟨b2,a1,none⟩) U co] 60)).alloc (.cells #[.slice none 0 0] 72)=j:=⟨_,rfl⟩
 have a5:Below w.heap.size w j:=by rw[<-a0];exact(Ay w _).alloc (by simp) _
 have bi:j.heap.size=w.heap.size+2:=by rw[<-a0];simp
 have ah:Ah j w.heap.size 60 #[.int .i64 own,.slice (some ⟨b,off,none⟩) U cL,.slice (some ⟨b2,a1,none⟩) U co]:=by rw[<-a0];exact(Ah.new w _ _).alloc _
 have ba:Ah j (w.heap.size+1) 72 #[.slice none 0 0]:=by rw[<-a0];exact Ah.newAt (by simp)
 have a3:Hid (∀y,Below j.heap.size j y->y.cell? ⟨w.heap.size,0,none⟩=some (.int .i64 own)/\y.cell? ⟨w.heap.size,1,none⟩=some (.slice (some ⟨b,off,none⟩) U cL)/\y.cell? ⟨w.heap.size,2,none⟩=some (.slice (some ⟨b2,a1,none⟩) U co)/\y.cell? ⟨b,off+i*2,none⟩=some (.slice Ai ni ci)/\y.cell? ⟨b,off+i*2+1,none⟩=some (.slice At nt ct)/\y.cell? ⟨b2,a1+i,none⟩=some (.slice Ak nk ck)):=Hd (fun y hy=>by obtain⟨p,P,J,R,h5⟩:=b3 y (a5.trans (hy.mono a5.size));have hm:=ah.below hy ah.lt;exact⟨hm.cell 0,hm.cell 1,hm.cell 2,J,R,h5⟩)
 obtain⟨c0,c1,c2,c3,c4,c5⟩:=a3.out j (Below.refl _ _);have a8:=Hd a5;have bt:=Hd bi;have aa:=Hd ba;have bv:=Hd a0;have aw:=Hd bh;have ar:=Hd b6;have bw:=Hd al;have bo:=Hd af;have HT:=Hd (And.intro ht b8);have bm:=Hd (And.intro hE hk);have HP:=Hd (fun y:World=>Ts (w:=y) (own:=own) (t:=t) (Ai:=Ai) (At:=At) (Ak:=Ak) (ni:=ni) (ci:=ci) (nt:=nt) (ct:=ct) (nk:=nk) (ck:=ck));clear h hi hL hK hE hk ht b8 b3 bh b6 al a5 bi ah ba af cc;refine(callsIn_wide (n:=0)).1 ?_;refine callsIn_of_wp_marks Tryz.func62 rfl trivial ?_ rfl
 simp only[Tryz.ntmps62,List.size_toArray,List.length_cons,List.length_nil,Nat.reduceAdd,Nat.reduceSub,Array.replicate_succ,Array.replicate_zero,List.push_toArray,List.append_toArray,List.nil_append,List.cons_append];refine wpIn_wide.2 ?_;have a9:Hid (Below j.heap.size j j.drew):=Hd ((Below.refl j.heap.size j).drew);go_upto_region 2 with fail
 clear a0
 go_region_held3 (fun v=>v.cell? ⟨w.heap.size,0,none⟩=some (.int .i64 own)/\v.cell? ⟨w.heap.size,1,none⟩=some (.slice (some ⟨b,off,none⟩) U cL)/\v.cell? ⟨w.heap.size,2,none⟩=some (.slice (some ⟨b2,a1,none⟩) U co)/\v.cell? ⟨b,off+i*2,none⟩=some (.slice Ai ni ci)/\v.cell? ⟨b,off+i*2+1,none⟩=some (.slice At nt ct)/\v.cell? ⟨b2,a1+i,none⟩=some (.slice Ak nk ck))
  (first|exact a3.out _ a9.out|exact a3.out _ a2.out)
  (first|(
     go_at_call 27;refine(HP.out _).mono ?_;rintro e l ⟨sb,tb,kb,ob,rfl,p,P,J,R,k1,k2,k3,k4,az⟩
     have a2:Hid (Below j.heap.size j l):=Hd (a9.out.trans az);have HK:=Hd (And.intro (And.intro p (And.intro P (And.intro J R))) (And.intro k1 (And.intro k2 (And.intro k3 k4))));clear p P J R k1 k2 k3 k4 az))
 obtain⟨⟨p,P,J,R⟩,k1,k2,k3,k4⟩:=HK.out;have p:j.heap.size<=sb:=p;have P:j.heap.size<=tb:=P;have J:j.heap.size<=kb:=J;have R:j.heap.size<=ob:=R;have I:Below w.heap.size w l:=a8.out.trans (a2.out.mono a8.out.size);have hA:∀b,(b<w.heap.size\/(j.heap.size<=b/\b<l.heap.size))->b<l.heap.size:=fun b C=>C.elim (fun h=>A0 h I.size) (·.2)
 have ak:BQ (fun b=>b<w.heap.size) w l:=fun b C=>I.block b C
 have aj:=SU (A:=fun b=>b<w.heap.size\/(j.heap.size<=b/\b<l.heap.size)) (w:=l) (m:=g.nt+1) (by have:=HT.out;omega) (by have:=HT.out;omega) hA (.inr ⟨p,k1.lt⟩) (.inr ⟨P,k2.lt⟩) (.inr ⟨J,k3.lt⟩) (.inr ⟨R,k4.lt⟩) k1 k2 k3 k4
  (aw.out.BZ (fun _=>.inl) I.size ak) (ar.out.BZ (fun _=>.inl) I.size ak)
 rw[bw.out]at aj;have ai:Ah l (w.heap.size+1) 72 #[.slice none 0 0]:=aa.out.below a2.out aa.out.lt;have ay:Tq w (w.heap.size+1) l [] (fun b=>b<w.heap.size\/(j.heap.size<=b/\b<l.heap.size)) l:=by refine⟨⟨by omega,?_,.slice none 0 0,ai,⟨none,0,rfl,⟨by simp,.inl ⟨rfl,rfl⟩⟩,I⟩,fun b C=>by cases C⟩,AG _⟩;have:=bt.out;rintro(h|h)<;>omega
 have ch:w.heap.size+1<l.heap.size:=ai.lt;have bu:=Hd aj;have bl:=Hd hA;have bn:=Hd ay;have aq:=Hd I;clear aj hA ay I ak ai p P J R k1 k2 k3 k4 HK HP a3 a8 a2 aa bv aw ar a9 c0 c1 c2 c3 c4 c5;go_wp2;refine(wpIn_wide (n:=0)).1 ?_;refine SH (gf:=63) (lb:=#[.pointer (some ⟨sb,0,none⟩),.pointer (some ⟨tb,0,none⟩),.pointer (some ⟨kb,0,none⟩),.pointer (some ⟨ob,0,none⟩)]) rfl (fun _ _=>by kernel_rfl) bu.out bl.out (fun _=>rfl)
  (Tq w (w.heap.size+1) l) (fun c A' W'=>False) ?hI ?hIx ?h0 ?hround ?hdone ?hstop
 case hI=>exact fun s A1 A2 bx U' h hc bz=>⟨h.1.OC (by omega) hc bz,AX h.2 hc.size⟩
 case hIx=>exact fun c s A1 A2 bx U' h _ _=>h
 case h0=>exact bn.out
 case hstop=>exact fun D c A' W' _ _ _ _ h _=>h.elim
 case hdone=>rintro D A5 T hD c6 bj ag ⟨hj,-⟩ hK;obtain⟨o,b0,bc⟩:=hj.cH (D:=D) (by omega) c6 (.deferred none);have HO:=Hd bc;clear bc hj;go_wp2;refine⟨by simp,.inl ⟨_,_,rfl,run_takeDeferred hK,?_⟩⟩;refine⟨_,results_tmp rfl _ _ _,?_⟩;exact⟨o,rfl,HO.out⟩
 case hround=>
  rintro l1 pre x A5 T bf cf cg c8 bj ag ⟨hj,cn⟩;obtain⟨xk,xn⟩:=x;obtain⟨W6,ab⟩:∃W6,T.alloc (.cells #[.int .i64 xk,.int .i64 xn] 78)=W6:=⟨_,rfl⟩
  have b1:Below T.heap.size T W6:=by rw[<-ab];exact Ay _ _
  have bk:Ah W6 T.heap.size 78 #[.int .i64 xk,.int .i64 xn]:=by rw[<-ab];exact Ah.new _ _ _
  have cl:W6.heap.size=T.heap.size+1:=by rw[<-ab];simp
  have bd:=bf.length_le;have an:=Hd b1;have ax:=Hd bk;have HJ:=Hd hj;have au:=Hd ag;have bq:=Hd bd;simp only[JL];clear b1 bk hj ag bj bf bd;simp
  gi_wp2
  refine⟨by omega,fun b C=>an.out.block b (au.out b C),fun W7 ae cm r hr=>?_⟩;have a7:Ah W7 T.heap.size 78 #[.int .i64 xk,.int .i64 xn]:=ae.An ax.out (by omega);have b5:=HJ.out.OC (B:=T.heap.size) (A':=A5) (by omega) (Aj.AH an.out) (fun _=>.inl);have cb:=b5.OC (B:=w.heap.size) (A':=A5) (AG _) (ae.mono (fun b C=>by subst C;exact⟨by omega,c8⟩)) (fun _=>.inl);have b7:∀b,A5 b->b<W7.heap.size:=fun b C=>by have:=au.out b C;omega
  have x0:=a7.cell 0;have x1:=a7.cell 1;have xl:=a7.lt;obtain⟨ca,c7,o,a6,⟨Ao,oc,rfl,ho,I⟩,bb⟩:=cb;have b0:=a6.cell 0;have f0:=a6.frozen 0;simp at b0 x0 x1;have cp:=I.size;have ao:=Hd a6;have HO:=Hd ho;have aq:=Hd I;have bp:=Hd bb;have av:=Hd b7;have cj:pre.length+1<=3000000:=by have p:=bq.out;have P:=bo.out;have J:=bm.out;simp at p;omega
  generalize be:pre.length=n at *;have br:=Hd be;clear a7 b5 a6 ho I bb b7 ax HJ hr ae be
  gi_wp2_with (first
   | (
    gi_at_builtin;refine Yx fO (.tmp 24) (.tmp 26) rfl rfl (base:=w.heap.size) (n:=n) (m:=1) (N:=n+1) (v:=.slice Ao n oc) (src:=.slice (some ⟨W7.heap.size,0,none⟩) 1 1) (xs:=pre.flatMap C9) (news:=[.int .i64 xk,.int .i64 xn]) rfl rfl (AS HO.out (Ay _ _)) (Bc.An (c:=1) (cs:=[.int .i64 xk,.int .i64 xn]) (Ah.new W7 78 _) rfl (by simp[Value.oneCell'])) rfl (by unfold maxLen;omega) (by omega) (by simp;omega) ?_
    intro A9 c9 w9 r1 r2 r3;have ad:=r2.An (ao.out.alloc _) (.inr (by decide));have b9:=ad.cell 0;have f9:=ad.frozen 0;simp at b9;have b4:=Hv.put ca c7 ao.out bp.out av.out HO.out aq.out ((Aj.refl _ W7).alloc _) r3.1 r3.2 r1 (by decide);have a4:=Hd b4;clear r1 r2 r3 ad b4))
  refine⟨a4.out.2.size,cI a4.out.2 av.out,?_,?_⟩
  ·rw[B5,List.flatMap_append,br.out]
   exact a4.out.1
  ·have p:=a4.out.2.size
   omega
end
def Calm(g:Gz)(E:List (List It))(K:List (List (Nat×Nat))):Prop:=∀i t,i<E.length->t<=g.nt->(g.JD (E.getD i []) (K.getD i []) t).length<=1
structure Sz(g:Gz)(L E:List (List It))(K:List (List (Nat×Nat))):Prop where
 l:L.length<=1000000
 e:E.length=L.length
 k:K.length=L.length
 es:∀i,(E.getD i []).length<=1000000
 ks:∀i,(K.getD i []).length<=1000000
 nt:g.nt<=120
theorem QS{w:World}{v:Value}{g:Gz}{L E:List (List It)}{K:List (List (Nat×Nat))}(h:FN w v g L E K)(j:Sz g L E K)(hc:Calm g E K) :
  Calls Tryz.prog 25 #[v,.int .i64 g.nt] w fun e w'=>e=.returned (.slice none 0 0)/\Below w.heap.size w w':=by
 have R:Hid (∀y i t,Below w.heap.size w y->i<L.length->t<=g.nt->Calls Tryz.prog 62 #[v,.int .i64 i,.int .i64 t] y fun e w'=>∃p n co,e=.returned (.slice p n co)/\n<=1/\Below y.heap.size y w'):=Hd (fun y i t hy T U=>(eO (h.later hy) T j.l j.k (j.es i) (j.ks i) U j.nt).mono (by rintro e w' ⟨o,rfl,p,co,rfl,-,hb⟩;exact⟨p,_,co,rfl,hc i t (by rw[j.e];exact T) U,hb⟩))
 have hl:=j.l;have ab:=j.nt;obtain⟨lv,lo,V,rfl,⟨⟨I,J,rfl,-,-⟩,⟨a5,-⟩,-,-,-⟩,⟨p,co,rfl,-,-,-⟩⟩:=h;have hk:=j.k;rw[hk]at R ⊢;rw[<-a5]at R ⊢;clear j hc hk a5;generalize L.length=n at *;generalize g.nt=P at *;generalize g.R.length=own at *;have C:=Ah.new w 60 #[.int .i64 own,.slice I n J,.slice p n co];have a2:=Ay w (.cells #[.int .i64 own,.slice I n J,.slice p n co] 60);have a1:=Hd C;have a0:=Hd a2;clear C a2;go_enter Tryz.func25,Tryz.ntmps25
 go_wp2_with fail
 go_loopw [13,5] (fun ii o wr=>∃i:Nat,i<=n/\ii=.int .i64 i/\o=.slice none 0 0/\Hid (Below (w.heap.size+1) (w.alloc (.cells #[.int .i64 own,.slice I n J,.slice p n co] 60)) wr)) (fun ii _ _=>n-(intOf ii).toNat)
 case atStart=>exact⟨0,AP _,rfl,rfl,Hd (by simpa using Below.refl _ _)⟩
 case round=>
  obtain⟨i,T,rfl,rfl,l⟩:=hrel;rename World=>w9
  by_cases a8:i<n
  ·go_wp2_with fail
   go_loopw [18,5] (fun tt o wr=>∃t:Nat,t<=P+1/\tt=.int .i64 t/\o=.slice none 0 0/\Hid (Below (w.heap.size+1) (w.alloc (.cells #[.int .i64 own,.slice I n J,.slice p n co] 60)) wr)) (fun tt _ _=>P+1-(intOf tt).toNat)
   case atStart=>exact⟨0,AP _,rfl,rfl,l⟩
   case round=>
    clear l;obtain⟨t,U,rfl,rfl,l⟩:=hrel;rename World=>w8
    have a4:Below w.heap.size w w8:=a0.out.trans (l.out.mono (by omega));have C:=a1.out.below (by simpa using l.out) a1.out.lt;have c0:=C.cell 0;have c1:=C.cell 1;have c2:=C.cell 2;have cl:=C.lt;simp at c0 c1 c2;have a7:=Hd a4;clear C a4;by_cases a9:t<P+1
    ·have HA:=Hd (R.out w8 i t a7.out a8 (by omega))
     go_wp2_with (go_at_call 62;refine HA.out.mono ?_;rintro e w7 ⟨Aa,na,ca,rfl,aa,a3⟩;have a6:=Hd a3;have hq:¬((1:Int)<(na:Int)):=(by omega);clear a3)
     go_loopw [9,5] (fun kk o wr=>kk=.int .i64 1/\o=.slice none 0 0/\Hid (wr=w7)) (fun _ _ _=>0)
     case atStart=>exact⟨rfl,rfl,Hd rfl⟩
     case round=>
      obtain⟨rfl,rfl,HW⟩:=hrel;have hw:=HW.out;subst hw;clear HW;go_wp2;go_roundw
      case rel=>exact⟨t+1,by omega,by go_num,rfl,Hd (l.out.trans (a6.out.mono (by have:=l.out.size;simpa using this)))⟩
      case measure=>simp[intOf];omega
    ·obtain rfl:t=P+1:=by omega
     go_wp2;go_roundw
     case rel=>exact⟨i+1,by omega,by go_num,rfl,l⟩
     case measure=>simp[intOf];omega
  ·obtain rfl:i=n:=by omega
   go_wp2;go_ret;exact⟨rfl,a0.out.trans (l.out.mono (by omega))⟩
section
set_option maxRecDepth 1000000
theorem aR:Im pz BK Ce 1000 1000 OK Np DQ D8 291 Mi J1 Mu where
 first:=X3
 Ou:=US
 comes:=ZK
 Eu:=UJ
 spread:=YP
 items:=fun K o x C=>by
  have h:(BK.all fun K=>K.all fun x=>decide (x.1<=pz.R.length)&&decide (x.2<=1000000))=true:=by decide +kernel
  have i:=List.all_eq_true.1 (List.all_eq_true.1 h K o) x C;simp only[Bool.and_eq_true,decide_eq_true_eq]at i;exact i
 some_:=by decide +kernel
 DH:=by decide +kernel
 rules:=fun F hF=>by
  have h:(Mi.all fun F=>decide (F.length<=100000)&&F.all fun f=>decide (f.1<=pz.R.length)&&decide (f.2<291))=true:=by decide +kernel
  have i:=List.all_eq_true.1 h F hF;simp only[Bool.and_eq_true,decide_eq_true_eq]at i;refine⟨i.1,fun f t=>?_⟩;have j:=List.all_eq_true.1 i.2 f t;simp only[Bool.and_eq_true,decide_eq_true_eq]at j;exact j
 fit:=fun e p=>by have l:=List.all_eq_true.1 SR e p;simp only[Bool.and_eq_true,decide_eq_true_eq]at l;exact l.1
def G7:List (List (Nat×Nat)):=[[],[(68,Dj)],[(73,Bq)],[(69,Dj)],[],[(97,Be)],[],[],[],[],[],[],[],[],[],[(97,Be)],[],[(97,Be)],[(97,Be)],[],[(97,Be)],[],[(104,1)],[],[(1,32)],[(4,1568)],[(5,Dt)],[(8,Dt)],[(10,Bx)],[(13,Bx)],[(17,AM)],[(18,AM)],[(19,AM)],[(20,AM)],[(21,AM)],[(22,AM)],[(15,Bx)],[(16,AM)],[(12,Bx)],[(67,Bx)],[(65,Bx)],[(71,Bq)],[(81,Bq)],[(83,Bq)],[],[(82,Bq)],[(84,Bq)],[(94,Jv)],[],[(96,Mw)],[],[(85,Bq)],[(87,Bq)],[(89,Bq)],[(92,Bq)],[(93,Bq)],[(86,Bq)],[(88,Bq)],[(90,Bq)],[(91,Bq)],[],[(97,Ev)],[],[],[(97,Ev)],[],[(9,Dt)],[(0,1)],[(99,JO)],[(98,JO)],[(2,32)],[(97,Be)],[(97,Be)],[(97,ID)],[(14,Bx)],[(79,AM)],[(77,Dj)],[(66,Bx)],[(75,Dj)],[(70,Dj)],[(74,Bq)],[(64,Bx)],[(72,Bq)],[(97,Jg)],[(23,AM)],[(95,Jv)],[(27,I7)],[(24,Jt)],[(97,Be)],[],[(97,Be)],[(56,AM)],[(57,AM)],[(97,Db)],[(28,AM)],[(96,Ev),(103,Db)],[],[],[(61,AM)],[(3,1568)],[],[],[],[(80,AM)],[(78,Dj)],[(76,Dj)],[(63,Bx)],[],[(101,IK)],[(97,IK)],[(25,Jt)],[],[(97,BJ)],[],[(102,Db)],[],[(29,AM)],[(6,Dt)],[(7,Dt)],[(11,Bx)],[(59,Bx)],[(58,Bx)],[(100,IK)],[(26,I7)],[(97,Be)],[(97,Be)],[(52,AM)],[],[],[(62,AM)],[(33,546)],[],[(103,Db)],[],[(60,Bx)],[(55,DR)],[],[(51,AM)],[(49,DO)],[],[(36,AM)],[],[],[(38,Cd)],[(40,BJ)],[],[(32,546)],[],[(30,AM)],[(97,Be)],[],[(35,AM)],[(34,AM)],[(37,Cd)],[(39,BJ)],[],[(97,LS)],[(31,AM)],[(53,DR)],[(97,LS)],[(50,DO)],[(42,Cd)],[(41,Cd)],[(54,DR)],[(44,Cd)],[(43,Cd)],[(97,BJ)],[(97,BJ)],[(97,BJ)],[(97,BJ)],[(46,BJ)],[(45,BJ)],[(48,BJ)],[(47,BJ)]]
theorem Wa:pz.Hp Mu BK (Gz.B4 BK 0) Mi=G7:=by decide +kernel
theorem O7{o:Type}{l:List (List o)}{n:Nat}(h:(l.all fun x=>decide (x.length<=n))=true)(i:Nat):(l.getD i []).length<=n:=by
 rw[dG];cases j:l[i]? with
 | none=>simp
 | some x=>have:=List.all_eq_true.1 h x (mG j);simpa using this
theorem NU:Sz pz BK Ce G7 where
 l:=by decide +kernel
 e:=by decide +kernel
 k:=by decide +kernel
 es:=O7 (by decide +kernel)
 ks:=O7 (by decide +kernel)
 nt:=by decide
end
def Gy(g:Gz)(E:List (List It))(K:List (List (Nat×Nat)))(i t:Nat):It:=(g.JD (E.getD i []) (K.getD i []) t).headD (0,0)
def EI(g:Gz)(E:List (List It))(K:List (List (Nat×Nat)))(i:Nat):List It:=(List.range (g.nt+1)).map (Gy g E K i)
def E8(g:Gz)(E:List (List It))(i:Nat):List Int:=(List.range g.nn).map fun k=>FY (E.getD i []) (g.nt+1+k)
def Hu(A:Nat->Prop)(w:World)(v:Value)(l:List Int):Prop:=Bk A w v l.length 1 (fun k _ x=>x=.int .i64 (l.getD k 0))
def Hl(A:Nat->Prop)(w:World)(v:Value)(g:Gz):Prop:=Bk A w v (g.R.length+1) 2 (fun k j x=>if j=0 then x=.int .i64 ((g.Cf k).1:Nat) else B0 A w x (g.right k))
def Fl(A:Nat->Prop)(w:World)(v:Value)(g:Gz)(E:List (List It))(K:List (List (Nat×Nat))):Prop:=
 ∃o j l,v=.agg #[o,.int .i64 g.nt,.int .i64 g.nn,j,l]/\Hl A w o g/\Bk A w j E.length 1 (fun i _ x=>D5 A w x (EI g E K i))/\Bk A w l E.length 1 (fun i _ x=>Hu A w x (E8 g E i))
theorem D5.mono{A A':Nat->Prop}{w:World}{v:Value}{l:List It}(h:D5 A w v l)(i:∀b,A b->A' b):D5 A' w v l:=Bk.mono h i (fun _ _ _ _ _ h=>h)
theorem Hu.mono{A A':Nat->Prop}{w:World}{v:Value}{l:List Int}(h:Hu A w v l)(i:∀b,A b->A' b):Hu A' w v l:=Bk.mono h i (fun _ _ _ _ _ h=>h)
theorem D5.Aw{A X:Nat->Prop}{w w':World}{v:Value}{l:List It}(h:D5 A w v l)(j:Aj X w w')(i:∀b,A b->¬X b):D5 A w' v l:=Bk.Aw h j i (fun _ _ _ _ _ h=>h)
theorem Hu.Aw{A X:Nat->Prop}{w w':World}{v:Value}{l:List Int}(h:Hu A w v l)(j:Aj X w w')(i:∀b,A b->¬X b):Hu A w' v l:=Bk.Aw h j i (fun _ _ _ _ _ h=>h)
theorem Hl.Aw{A X:Nat->Prop}{w w':World}{v:Value}{g:Gz}(h:Hl A w v g)(p:Aj X w w')(o:∀b,A b->¬X b):Hl A w' v g:=Bk.Aw h p o (fun k j x _ _ l=>by
 split at l
 ·rename_i i;rw[if_pos i];exact l
 ·rename_i i;rw[if_neg i];exact l.Aw p o)
theorem Hl.mono{A A':Nat->Prop}{w:World}{v:Value}{g:Gz}(h:Hl A w v g)(o:∀b,A b->A' b):Hl A' w v g:=Bk.mono h o (fun k j x _ _ l=>by
 split at l
 ·rename_i i;rw[if_pos i];exact l
 ·rename_i i;rw[if_neg i];exact l.mono o)
theorem Fl.Aw{A X:Nat->Prop}{w w':World}{v:Value}{g:Gz}{E:List (List It)}{K:List (List (Nat×Nat))}(h:Fl A w v g E K)(j:Aj X w w')(i:∀b,A b->¬X b):Fl A w' v g E K:=by obtain⟨J,l,o,p,t,C,I⟩:=h;exact⟨J,l,o,p,t.Aw j i,Bk.Aw C j i (fun _ _ _ _ _ h=>h.Aw j i),Bk.Aw I j i (fun _ _ _ _ _ h=>h.Aw j i)⟩
theorem Fl.mono{A A':Nat->Prop}{w:World}{v:Value}{g:Gz}{E:List (List It)}{K:List (List (Nat×Nat))}(h:Fl A w v g E K)(i:∀b,A b->A' b):Fl A' w v g E K:=by obtain⟨I,j,l,o,p,t,C⟩:=h;exact⟨I,j,l,o,p.mono i,Bk.mono t i (fun _ _ _ _ _ h=>h.mono i),Bk.mono C i (fun _ _ _ _ _ h=>h.mono i)⟩
theorem Bk.KY{A:Nat->Prop}{w:World}{B:Nat}{e:TypeId}{sz n:Nat}{v:Value}{XS:List Value}{f:Nat->Nat->Value->Prop}(h:w.ownsRow B e sz v n XS)(hn:n<=1000000)(P:∀b cs,B<=b->Ah w b e cs->A b)(T:∀i j x,i<n->j<sz->XS[i*sz+j]?=some x->f i j x):Bk A w v n sz f:=by
 rcases Bv h with⟨rfl,rfl⟩|⟨b,c,rfl,t,C,I,_,p,R⟩
 ·exact⟨none,0,rfl,AG _,by omega,fun k l=>by omega⟩
 ·refine⟨_,c,rfl,I,hn,fun k l=>⟨b,0,rfl,P b p t R,C,fun j U=>?_⟩⟩
  have hl:=h.1;have a0:k*sz+j<n*sz:=by have J:(k+1)*sz<=n*sz:=Nat.mul_le_mul_right _ l;rw[Nat.succ_mul]at J;omega
  have o:XS[k*sz+j]?=some (XS[k*sz+j]'(by omega)):=eG (by omega);exact⟨_,by rw[Nat.zero_add,Bf h _ a0,o],T k j _ l U o⟩
def D9(H:Nat->It)(n k:Nat):List It:=(List.range n).map fun t=>if t<k then H t else(0,0)
theorem KL(H:Nat->It)(n k:Nat):(D9 H n k).length=n:=by simp[D9]
theorem ZO(H:Nat->It)(n:Nat):D9 H n n=(List.range n).map H:=by
 unfold D9;refine List.map_congr_left fun t i=>?_
 rw[if_pos (List.mem_range.1 i)]
theorem UT(H:Nat->It){n k:Nat}(j:k<n):D9 H n (k+1)=(D9 H n k).set k (H k):=by
 apply List.ext_getElem?;intro t;by_cases i:t<n
 ·by_cases e:t=k
  ·subst e
   rw[tG (by rw[KL];exact i)];simp[D9,i]
  ·rw[uG (Ne.symm e)]
   simp only[D9,pG,List.getElem?_range i,Option.map_some];by_cases h:t<k
   ·rw[if_pos h,if_pos (by omega)]
   ·rw[if_neg h,if_neg (by omega)]
 ·rw[nG (by rw[KL];omega),nG (by rw[List.length_set,KL];omega)]
theorem Xr(H:Nat->It){n k:Nat}(j:k<n)(h:H k=(0,0)):D9 H n (k+1)=D9 H n k:=by
 unfold D9;refine List.map_congr_left fun t l=>?_
 by_cases e:t=k
 ·rw[if_pos (by omega),if_neg (by omega),e,h]
 ·by_cases i:t<k
  ·rw[if_pos i,if_pos (by omega)]
  ·rw[if_neg i,if_neg (by omega)]
theorem RE:∀(l:List It) (k:Nat) (x:It),k<l.length->((l.flatMap C9).set (k*2) (.int .i64 x.1)).set (k*2+1) (.int .i64 x.2)=(l.set k x).flatMap C9
 | [],k,x,h=>by simp at h
 | y::l,0,x,_=>by simp[C9]
 | y::l,k+1,x,h=>by have:=RE l k x (by simpa using h);rw[show (k+1)*2=k*2+2 by omega,List.flatMap_cons,List.set_cons_succ,List.flatMap_cons,<-this];simp[C9]
theorem Yl(H:Nat->It)(n:Nat):((D9 H n 0).flatMap C9).toArray=Array.replicate (n*2) (.int .i64 0):=by
 have e:D9 H n 0=List.replicate n (0,0):=by
  unfold D9;apply List.ext_getElem?;intro t;by_cases i:t<n
  ·simp[i]
  ·rw[nG (by simpa using i),nG (by simpa using i)]
 rw[e];induction n with
 | zero=>simp
 | succ n o=>
  have l:D9 H n 0=List.replicate n (0,0):=by
   unfold D9;apply List.ext_getElem?;intro t;by_cases i:t<n
   ·simp[i]
   ·rw[nG (by simpa using i),nG (by simpa using i)]
  have j:=congrArg Array.toList (o l);simp only[Array.toList_replicate]at j;apply Array.toList_inj.1;rw[List.replicate_succ,List.flatMap_cons,Array.toList_replicate,show (n+1)*2=n*2+1+1 by omega,List.replicate_succ,List.replicate_succ];simpa [C9] using j
theorem Uv{n:Nat}(R:n<=1000000)(y:World):(Instr.makeSlice 72 (.int .i64 (n:Nat)) (.int .i64 (n:Nat))).run Tryz.prog y=.ok (.slice (some ⟨y.heap.size,0,none⟩) n n) (y.alloc (.cells (Array.replicate (n*2) (.int .i64 0)) 78)):=by
 obtain⟨i,o,t,C,I⟩:=info_parts (show (Tryz.prog.info? 78).map (fun i=>(i.zero,i.size,i.bytes))=some (some (.agg #[.int .i64 0,.int .i64 0]),2,16) by kernel_rfl);have l:(i.bytes:Int)*(n:Int)<=281474976710656:=by rw[I];omega
 have p:=run_make (P:=Tryz.prog) y 72 78 i (.agg #[.int .i64 0,.int .i64 0]) Tryz.underlying72 o t .i64 .i64 n n (by omega) (Int.le_refl _) l (by omega);rw[p,C,Int.toNat_natCast];congr 4;unfold madeCells;apply Array.ext
 ·simp
 ·intro j J P
  simp[Value.cells];have:j%2=0\/j%2=1:=by omega
  rcases this with h|h<;>simp[h]
theorem Mz{w:World}{B b:Nat}{e:TypeId}{sz n:Nat}{XS:List Value}(h:Ah w b e XS.toArray)(j:B<=b)(i:XS.length=n*sz)(l:n<=1000000):w.ownsRow B e sz (.slice (some ⟨b,0,none⟩) n n) n XS:=
 ⟨i,.inr ⟨b,n,XS.toArray,rfl,j,h,AG _,by unfold maxLen;omega,by simp[i],by simp[<-i]⟩⟩
def Rt(w wr:World)(b:Nat):Prop:=b<w.heap.size\/(w.heap.size<=b/\∃j,Ah wr b 3 j)
theorem B0.rt{w wr w2:World}{v:Value}{l:List Nat}(h:B0 (Rt w wr) wr v l)(R:w.heap.size<=wr.heap.size)(P:wr.heap.size<=w2.heap.size)(I:∀b,b<wr.heap.size->Rt w wr b->w2.heap[b]?=wr.heap[b]?):B0 (Rt w w2) w2 v l:=by
 have J:∀b,Rt w wr b->b<wr.heap.size:=fun b j=>by
  rcases j with o|⟨o,t,p⟩
  ·omega
  ·exact p.lt
 have C:BQ (Rt w wr) wr w2:=fun b j=>I b (J b j) j
 refine h.BZ (fun b j=>?_) P C;rcases id j with o|⟨o,t,p⟩
 ·exact .inl o
 ·exact .inr ⟨o,t,(C b j).trans p⟩
def Kl(z:Nat×Value):List Value:=[.int .i64 z.1,z.2]
structure Hh(w wr:World)(B:Nat)(g:Gz)(k:Nat)(rv:Value)(Z:List (Nat×Value)):Prop where
 size:w.heap.size<=B/\B<=wr.heap.size
 len:Z.length=k
 row:wr.ownsRow B 65 2 rv Z.length (Z.flatMap Kl)
 is:∀(j:Nat) (x:Nat×Value),Z[j]?=some x->x.1=(g.Cf j).1/\B0 (Rt w wr) wr x.2 (g.right j)
theorem Hh.later{w wr w2:World}{B:Nat}{g:Gz}{k:Nat}{rv:Value}{Z:List (Nat×Value)}(h:Hh w wr B g k rv Z)(l:Below wr.heap.size wr w2):Hh w w2 B g k rv Z:=
 ⟨⟨h.size.1,AX h.size.2 l.size⟩,h.len,AS h.row l,fun j x o=>⟨(h.is j x o).1,(h.is j x o).2.rt (AX h.size.1 h.size.2) l.size (fun b p _=>l.block b p)⟩⟩
theorem Hh.more{w l wc:World}{B:Nat}{g:Gz}{k:Nat}{rv:Value}{Z:List (Nat×Value)}(h:Hh w l B g k rv Z){x:Value}(hx:B0 (Rt w l) l x (g.right k)){A:Option Addr}{c:Nat}(r1:wc.ownsRow B 65 2 (.slice A (Z.length+1) c) (Z.length+1) (Z.flatMap Kl++[.int .i64 ((g.Cf k).1:Nat),x]))(r2:AI B [65] l wc)
  {tb:Nat} {cs:Array Value} (T:Ah wc tb 26 cs) (hB:w.heap.size<=tb) (u:Value):Hh w (wc.setCell ⟨tb,0,none⟩ u) B g (k+1) (.slice A (Z.length+1) c) (Z++[((g.Cf k).1,x)]):=by
 have P:∀b,b<l.heap.size->Rt w l b->(wc.setCell ⟨tb,0,none⟩ u).heap[b]?=l.heap[b]?:=fun b hb R=>by
  have o:wc.heap[b]?=l.heap[b]?:=r2.block b hb (by
   rcases R with o|⟨_,C,o⟩
   ·exact .inl (A0 o h.size.1)
   ·refine .inr fun a2 a3 m J=>?_
    unfold Ah at o;rw[o]at J;cases J
    decide)
  have a1:b≠tb:=by
   rcases R with I|⟨_,C,I⟩
   ·omega
   ·have h3:Ah wc b 3 C:=o.trans I
    exact Ah.A8 h3 T (by decide)
  exact(Below.heap_setCell _ _ _ _ a1).trans o
 have t:l.heap.size<=(wc.setCell ⟨tb,0,none⟩ u).heap.size:=by simpa [World.setCell] using r2.size
 have U:=AX h.size.1 h.size.2;refine⟨⟨h.size.1,AX h.size.2 t⟩,by simp[h.len],?_,fun j y p=>?_⟩
 ·rw[B5,List.flatMap_append]
  exact EB r1 (p:=⟨tb,0,none⟩) (DX r1 T (by decide)) u
 ·by_cases hj:j<Z.length
  ·rw[gL hj]at p
   exact⟨(h.is j y p).1,(h.is j y p).2.rt U t P⟩
  ·rw[List.getElem?_append_right (by omega)]at p
   have a0:j-Z.length=0:=by have:=(sG.1 p).1;simpa using this
   rw[a0]at p;cases p
   have:j=k:=by have:=h.len;omega
   subst this;exact⟨rfl,hx.rt U t P⟩
theorem Hh.done{w wr:World}{B:Nat}{g:Gz}{rv:Value}{Z:List (Nat×Value)}(h:Hh w wr B g (g.R.length+1) rv Z)(hn:g.R.length<=300){tb rb:Nat}{cs T:Array Value}(P:Ah wr tb 26 cs)(J:Ah wr rb 26 T)(hB:w.heap.size<=tb)(a1:w.heap.size<=rb):Hl (fun b=>b<wr.heap.size/\b≠tb/\b≠rb) wr rv g:=by
 unfold Hl;have hl:=h.len;rw[<-hl];refine Bk.KY h.row (by omega) (fun b U a2 o=>⟨o.lt,Ah.A8 o P (by decide),Ah.A8 o J (by decide)⟩) (fun i j x C I hx=>?_);obtain⟨z,R⟩:∃z,Z[i]?=some z:=⟨_,eG C⟩
 obtain⟨_,a0⟩:=sG.1 R;have p:=CZ Kl 2 (fun _=>rfl) Z i j C I;rw[hx,a0]at p;obtain⟨h1,h2⟩:=h.is i z R
 match j,I with
 | 0,_=>rw[if_pos rfl];cases p;rw[h1]
 | 1,_=>
  rw[if_neg (by omega)];cases p
  refine h2.mono (fun b hb=>?_);rcases hb with t|⟨t,U,l⟩
  ·exact⟨A0 t (AX h.size.1 h.size.2),by omega,by omega⟩
  ·exact⟨l.lt,Ah.A8 l P (by decide),Ah.A8 l J (by decide)⟩
structure Gb(w1 wr:World)(tb:Nat)(g:Gz)(E:List (List It))(K:List (List (Nat×Nat)))(i:Nat)(rv av gv:Value)(ZA:List (Value×List It))(ZG:List (Value×List Int))(ds:List Deferred):Prop where
 Aw:Aj (·=tb) w1 wr
 lt:tb<w1.heap.size
 Ct:Ah wr tb 26 #[rv,.int .i64 g.nt,.int .i64 g.nn,av,gv]
 za:ZA.map (·.2)=(List.range i).map (EI g E K)
 zg:ZG.map (·.2)=(List.range i).map (E8 g E)
 Jj:wr.ownsRow w1.heap.size 72 1 av ZA.length (ZA.map (·.1))
 LV:∀z∈ZA,wr.ownsRow w1.heap.size 78 2 z.1 z.2.length (z.2.flatMap C9)
 goto:wr.ownsRow w1.heap.size 44 1 gv ZG.length (ZG.map (·.1))
 LQ:∀z∈ZG,wr.ownsRow w1.heap.size 3 1 z.1 z.2.length (z.2.map BF)
 marks:CP w1.heap.size wr ds
section
variable {w1 wr w':World} {tb rb:Nat} {g:Gz} {E:List (List It)} {K:List (List (Nat×Nat))} {i:Nat} {rv av gv:Value} {ZA:List (Value×List It)} {ZG:List (Value×List Int)} {ds:List Deferred}
theorem CP.later{B:Nat}(h:CP B wr ds)(l:Below wr.heap.size wr w'):CP B w' ds:=h.BZ fun D _ j _=>(l.block D (aG.1 j).1).trans j
theorem CP.keeps{B o:Nat}{T:List TypeId}(h:CP B wr ds)(p:AI o T wr w'):CP B w' ds:=h.BZ fun D _ j _=>(p.block D (aG.1 j).1 (.inr fun C t m l=>by rw[j]at l;cases l)).trans j
theorem CP.stored{B b:Nat}{t:TypeId}{cs:Array Value}(h:CP B wr ds)(l:Ah wr b t cs)(j:Nat)(u:Value):CP B (wr.setCell ⟨b,j,none⟩ u) ds:=h.BZ fun D _ o _=>(Below.heap_setCell _ _ _ _ (fun e=>by have e:D=b:=e;subst e;unfold Ah at l;rw[o]at l;cases l)).trans o
theorem Gb.later(h:Gb w1 wr tb g E K i rv av gv ZA ZG ds)(j:Below wr.heap.size wr w'):Gb w1 w' tb g E K i rv av gv ZA ZG ds:=
 ⟨h.Aw.next (Aj.AH j),h.lt,h.Ct.below j h.Ct.lt,h.za,h.zg,AS h.Jj j,fun z l=>AS (h.LV z l) j,AS h.goto j,fun z l=>AS (h.LQ z l) j,h.marks.later j⟩
theorem Gb.marked(h:Gb w1 wr tb g E K i rv av gv ZA ZG ds){j:List Deferred}(l:CP w1.heap.size wr j):Gb w1 wr tb g E K i rv av gv ZA ZG j:=
 ⟨h.Aw,h.lt,h.Ct,h.za,h.zg,h.Jj,h.LV,h.goto,h.LQ,l⟩
theorem Gb.more(h:Gb w1 wr tb g E K i rv av gv ZA ZG ds){T U:Value}(ha:wr.ownsRow w1.heap.size 78 2 T (EI g E K i).length ((EI g E K i).flatMap C9))(hg:wr.ownsRow w1.heap.size 3 1 U (E8 g E i).length ((E8 g E i).map BF))
  (o:AI w1.heap.size [72,44] wr w') {j l:Value} (ka:w'.ownsRow w1.heap.size 72 1 j (ZA.length+1) (ZA.map (·.1)++[T])) (kg:w'.ownsRow w1.heap.size 44 1 l (ZG.length+1) (ZG.map (·.1)++[U])) :
  Gb w1 ((w'.setCell ⟨tb,3,none⟩ j).setCell ⟨tb,4,none⟩ l) tb g E K (i+1) rv j l (ZA++[(T,EI g E K i)]) (ZG++[(U,E8 g E i)]) ds:=by
 have hs:=h.Aw.size;have P:Ah w' tb 26 #[rv,.int .i64 g.nt,.int .i64 g.nn,av,gv]:=o.An h.Ct (.inr (by decide));have a0:Ah (w'.setCell ⟨tb,3,none⟩ j) tb 26 #[rv,.int .i64 g.nt,.int .i64 g.nn,j,gv]:=by simpa using P.Bn 3 j
 have a3:Ah ((w'.setCell ⟨tb,3,none⟩ j).setCell ⟨tb,4,none⟩ l) tb 26 #[rv,.int .i64 g.nt,.int .i64 g.nn,j,l]:=by simpa using a0.Bn 4 l
 have a1:Aj (·=tb) w1 w':=h.Aw.trans (Y:=fun b=>w1.heap.size<=b) ⟨o.os,o.tape,o.output,o.size,fun k a2 hx=>o.block k a2 (.inl (by omega))⟩ (fun b hb hx=>by omega);have hc:Aj (·=tb) w1 ((w'.setCell ⟨tb,3,none⟩ j).setCell ⟨tb,4,none⟩ l):=(a1.set (p:=⟨tb,3,none⟩) (.inr rfl) _).set (p:=⟨tb,4,none⟩) (.inr rfl) _;have BE:∀{e:TypeId} {C n:Nat} {v:Value} {I:List Value},w'.ownsRow w1.heap.size e C v n I->e≠26->((w'.setCell ⟨tb,3,none⟩ j).setCell ⟨tb,4,none⟩ l).ownsRow w1.heap.size e C v n I:=fun t J=>EB (EB t (p:=⟨tb,3,none⟩) (DX t P J) _) (p:=⟨tb,4,none⟩) (DX t P J) _
 have BZ:∀{e:TypeId} {C n:Nat} {v:Value} {I:List Value},wr.ownsRow w1.heap.size e C v n I->e ∉ [72,44]->w'.ownsRow w1.heap.size e C v n I:=fun t J=>o.own t (.inr J)
 refine⟨hc,h.lt,a3,?_,?_,?_,fun z R=>?_,?_,fun z R=>?_,((h.marks.keeps o).stored P 3 _).stored a0 4 _⟩
 ·rw[By,h.za,List.range_succ,By];rfl
 ·rw[By,h.zg,List.range_succ,By];rfl
 ·rw[By,B5]
  exact BE ka (by decide)
 ·rcases mA.1 R with p|p
  ·exact BE (BZ (h.LV z p) (by decide)) (by decide)
  ·rw[mS.1 p]
   exact BE (BZ ha (by decide)) (by decide)
 ·rw[By,B5]
  exact BE kg (by decide)
 ·rcases mA.1 R with p|p
  ·exact BE (BZ (h.LQ z p) (by decide)) (by decide)
  ·rw[mS.1 p]
   exact BE (BZ hg (by decide)) (by decide)
theorem UI(l:List It)(k:Nat):(l.flatMap C9)[k*2]?=l[k]?.map (fun x=>Value.int .i64 x.1)/\(l.flatMap C9)[k*2+1]?=l[k]?.map (fun x=>Value.int .i64 x.2):=by
 by_cases j:k<l.length
 ·have h0:=CZ C9 2 (fun _=>rfl) l k 0 j (by omega)
  have o:=CZ C9 2 (fun _=>rfl) l k 1 j (by omega);rw[Nat.add_zero]at h0;rw[h0,o,eG j];exact⟨rfl,rfl⟩
 ·have p:=Lk C9 2 (fun _=>rfl) l
  rw[nG (by omega),nG (by omega),nG (by omega)];exact⟨rfl,rfl⟩
theorem Uc{A:Nat->Prop}{w:World}{B:Nat}{v:Value}{l:List It}(h:w.ownsRow B 78 2 v l.length (l.flatMap C9))(P:l.length<=1000000)(C:∀b cs,B<=b->Ah w b 78 cs->A b):D5 A w v l:=by
 refine Bk.KY h P C (fun i j x I J o=>?_);obtain⟨h0,t⟩:=UI l i;have p:l[i]?=some (l.getD i (0,0)):=by rw[dG,eG I];rfl
 match j,J with
 | 0,_=>
  rw[Nat.add_zero,h0,p]at o;cases o
  rfl
 | 1,_=>
  rw[t,p]at o;cases o
  rfl
theorem ZW{A:Nat->Prop}{w:World}{B:Nat}{v:Value}{l:List Int}(h:w.ownsRow B 3 1 v l.length (l.map BF))(C:l.length<=1000000)(t:∀b cs,B<=b->Ah w b 3 cs->A b):Hu A w v l:=by
 refine Bk.KY h C t (fun i j x o I p=>?_);obtain rfl:j=0:=by omega
 rw[Nat.mul_one,Nat.add_zero,pG,eG o]at p;cases p
 rw[dG,eG o];rfl
theorem Gb.done(h:Gb w1 wr tb g E K E.length rv av gv ZA ZG ds)(hr:Hl (fun b=>b<w1.heap.size/\b≠tb/\b≠rb) w1 rv g)(hn:E.length<=1000000)(a2:g.nt<=120)(a1:g.nn<=120)(a3:rb<w1.heap.size)(a4:tb<w1.heap.size) :
  Fl (fun b=>(b<wr.heap.size/\b≠tb/\b≠rb)/\¬(w1.heap.size<=b/\wr.heap[b]?=some (.deferred (some [])))) wr (.agg #[rv,.int .i64 g.nt,.int .i64 g.nn,av,gv]) g E K:=by
 have hs:=h.Aw.size;have R:ZA.length=E.length:=by simpa using congrArg List.length h.za
 have T:ZG.length=E.length:=by simpa using congrArg List.length h.zg
 have I:∀{a0:TypeId} (b:Nat) (P:Array Value),w1.heap.size<=b->Ah wr b a0 P->(b<wr.heap.size/\b≠tb/\b≠rb)/\¬(w1.heap.size<=b/\wr.heap[b]?=some (.deferred (some []))):=fun b P t o=>⟨⟨o.lt,by omega,by omega⟩,fun p=>by unfold Ah at o;rw[p.2]at o;cases o⟩
 refine⟨rv,av,gv,rfl,(hr.Aw h.Aw (fun b J=>J.2.1)).mono (fun b J=>⟨⟨A0 J.1 hs,J.2⟩,fun p=>by omega⟩),?_,?_⟩
 ·rw[<-R]
  refine Bk.KY h.Jj (by omega) I (fun i j x l U C=>?_);obtain rfl:j=0:=by omega
  rw[Nat.mul_one,Nat.add_zero,pG,eG l]at C;cases C
  have t:=h.LV _ (List.getElem_mem l);have o:ZA[i].2=EI g E K i:=by have p:=congrArg (·[i]?) h.za;simp only[pG,eG l,List.getElem?_range (R▸l),Option.map_some]at p;exact Option.some.inj p
  rw[o]at t;exact Uc t (by simp[EI];omega) I
 ·rw[<-T]
  refine Bk.KY h.goto (by omega) I (fun i j x l U C=>?_);obtain rfl:j=0:=by omega
  rw[Nat.mul_one,Nat.add_zero,pG,eG l]at C;cases C
  have t:=h.LQ _ (List.getElem_mem l);have o:ZG[i].2=E8 g E i:=by have p:=congrArg (·[i]?) h.zg;simp only[pG,eG l,List.getElem?_range (T▸l),Option.map_some]at p;exact Option.some.inj p
  rw[o]at t;exact ZW t (by simp[E8];omega) I
end
def ES(G:Nat->Int)(n k:Nat):List Int:=(List.range n).map fun t=>if t<k then G t else 0
theorem dD(G:Nat->Int){n k:Nat}(l:k<n):ES G n (k+1)=(ES G n k).set k (G k):=by
 apply List.ext_getElem?;intro t;by_cases j:t<n
 ·by_cases e:t=k
  ·subst e
   rw[tG (by simp[ES];exact j)];simp[ES,j]
  ·rw[uG (Ne.symm e)]
   simp only[ES,pG,List.getElem?_range j,Option.map_some];by_cases h:t<k
   ·rw[if_pos h,if_pos (by omega)]
   ·rw[if_neg h,if_neg (by omega)]
 ·rw[nG (by simp[ES];omega),nG (by simp[ES];omega)]
theorem dX(G:Nat->Int)(n:Nat):ES G n n=(List.range n).map G:=by
 unfold ES;refine List.map_congr_left fun t j=>?_
 rw[if_pos (List.mem_range.1 j)]
theorem gD(G:Nat->Int)(n:Nat):((ES G n 0).map BF).toArray=Array.replicate n (.int .i64 0):=by apply Array.toList_inj.1;rw[Array.toList_replicate];simp[ES,BF,List.map_const']
section
attribute [local go_sem] Oper.semAt_some
def gE(P:Program)(fn:Func)(R:Ending->World->Prop):Exit->Act->World->Prop
 | .normal,a,w | .ret,a,w=>LeavesInM Fence.wide 0 P fn a.tmps R a.defers .returning w
 | _,_,_=>False
theorem U4{P:Program}{f:FuncId}{fn:Func}{c:Code}{args:Array Value}{w:World}{R:Ending->World->Prop}(j:P.funcs[f]?=some fn)(i:fn.body=some c)
  (h:c.wp P (gE P fn R) {tmps:=args++Array.replicate (fn.ntmps-args.size) undef,defers:=[]} w):Calls P f args w R:=by
 refine(callsIn_wide (n:=0)).1 (callsIn_of_wp_marks j i trivial (wpIn_wide.2 (Code.wp_mono ?_ h)) rfl);intro e a w h;cases e with
 | normal=>exact h
 | ret=>exact h
 | panic o=>exact h.elim
 | exit id=>exact h.elim
 | goto l=>exact h.elim
 | outgrown=>exact h.elim
def Q4(y:World)(g:Gz)(L E:List (List It))(K:List (List (Nat×Nat)))(e:Ending)(w':World):Prop:=∃i,e=.returned (.tuple #[i,.int .i64 0])/\FN w' i g L E K/\Below y.heap.size y w'
def Pn(w:World)(g:Gz)(E:List (List It))(K:List (List (Nat×Nat)))(e:Ending)(w':World):Prop:=∃i,e=.returned (.tuple #[i,.int .i64 0])/\Fl (fun b=>b<w'.heap.size) w' i g E K/\Below w.heap.size w w'
theorem FN.form{w:World}{v:Value}{g:Gz}{L E:List (List It)}{K:List (List (Nat×Nat))}(h:FN w v g L E K)(o:K.length=L.length):∃i l j co,v=.agg #[.int .i64 g.R.length,.slice i L.length l,.slice j L.length co]:=by obtain⟨R,P,V,rfl,⟨⟨i,l,rfl,-,t⟩,⟨p,C⟩,hit,J,-⟩,⟨j,co,rfl,-,-,I⟩⟩:=h;exact⟨i,l,j,co,by rw[o,p]⟩
def Rf(j rb mb tb:Nat)(l o p:Value)(f:Nat->Value)(i:List Deferred):Act:={tmps:=#[f 0,.pointer (some ⟨j,0,none⟩),.pointer (some ⟨rb,0,none⟩),.int .i64 0,.pointer (some ⟨mb,0,none⟩),f 5,.pointer (some ⟨tb,0,none⟩),f 7,f 8,f 9,f 10,f 11,f 12,f 13,f 14,f 15,f 16,f 17,f 18,f 19,f 20,f 21,f 22,f 23,f 24,f 25,f 26,f 27,f 28,f 29,f 30,f 31,f 32,f 33,f 34,f 35,f 36,f 37,f 38,f 39,f 40,f 41,f 42,f 43,f 44,f 45,f 46,f 47,f 48,f 49,f 50,f 51,f 52,f 53,f 54,f 55,f 56,f 57,f 58,f 59,f 60,f 61,f 62,f 63,l,o,p,f 67,f 68,f 69,f 70,f 71,f 72,f 73,f 74,f 75,f 76,f 77,f 78,f 79,f 80,f 81,f 82,f 83,f 84,f 85,f 86,f 87,f 88,f 89,f 90,f 91,f 92,f 93,f 94,f 95,f 96,f 97,f 98,f 99,f 100,f 101,f 102,f 103,f 104,f 105,f 106,f 107,f 108,f 109,f 110,f 111,f 112,f 113,f 114,f 115,f 116,f 117,f 118,f 119,f 120,f 121,f 122,f 123,f 124,f 125,f 126,f 127,f 128,f 129,f 130],defers:=i}
def Sl(l rb mb tb o J:Nat)(i p t C I:Value)(f:Nat->Value)(j:List Deferred):Act:={tmps:=#[f 0,.pointer (some ⟨l,0,none⟩),.pointer (some ⟨rb,0,none⟩),.int .i64 0,.pointer (some ⟨mb,0,none⟩),f 5,.pointer (some ⟨tb,0,none⟩),f 7,f 8,f 9,i,.pointer (some ⟨o,0,none⟩),.pointer (some ⟨J,0,none⟩),f 13,f 14,f 15,f 16,f 17,f 18,f 19,f 20,f 21,f 22,f 23,f 24,f 25,f 26,f 27,f 28,f 29,f 30,f 31,f 32,f 33,f 34,f 35,f 36,f 37,f 38,f 39,f 40,f 41,f 42,f 43,f 44,f 45,f 46,f 47,f 48,f 49,f 50,f 51,f 52,f 53,f 54,f 55,f 56,f 57,f 58,f 59,f 60,f 61,f 62,f 63,p,t,i,f 67,f 68,f 69,f 70,f 71,f 72,f 73,f 74,f 75,C,I,f 78,f 79,f 80,f 81,f 82,f 83,f 84,f 85,f 86,f 87,f 88,f 89,f 90,f 91,f 92,f 93,f 94,f 95,f 96,f 97,f 98,f 99,f 100,f 101,f 102,f 103,f 104,f 105,f 106,f 107,f 108,f 109,f 110,f 111,f 112,f 113,f 114,f 115,f 116,f 117,f 118,f 119,f 120,f 121,f 122,f 123,f 124,f 125,f 126,f 127,f 128,f 129,f 130],defers:=j}
def L6(o y z:World)(l p i n:Nat)(iv tv:Value)(H:Nat->It)(k:Nat)(j:List Deferred):Prop:=
 Below y.heap.size y z/\Ah z l 71 #[iv,tv]/\Ah z p 72 #[.slice (some ⟨i,0,none⟩) n n]/\Ah z i 78 ((D9 H n k).flatMap C9).toArray/\CP o.heap.size z j
theorem dU:El Tryz.prog 22 65 2 32:=El.of (z:=.agg #[.int .i64 0,.slice none 0 0]) Tryz.underlying22 (by kernel_rfl) rfl (by decide)
theorem NJ:El Tryz.prog 23 72 1 24:=El.of (z:=.slice none 0 0) Tryz.underlying23 (by kernel_rfl) rfl (by decide)
theorem fF{w:World}{v:Value}{g:Gz}{L E:List (List It)}{K:List (List (Nat×Nat))}(hg:GN w v g)(hs:Sz g L E K)(hc:Calm g E K)
  (b1:∀y,Below w.heap.size w y->Calls Tryz.prog 24 #[v] y (Q4 y g L E K)):Calls Tryz.prog 6 #[v] w (Pn w g E K):=by
 have HG:=Hd hg;have HS:=Hd hs;have ez:=Hd b1;have en:Hid (∀y mv,FN y mv g L E K->Calls Tryz.prog 25 #[mv,.int .i64 g.nt] y fun e w'=>e=.returned (.slice none 0 0)/\Below y.heap.size y w'):=Hd (fun y mv h=>QS h hs hc);obtain⟨AT,cT,AN,cN,AR,cR,rfl,-,-⟩:=hg.open_;have ep:=Hd (Ah.new w 32 #[.slice AT g.nt cT,.slice AN g.nn cN,.slice AR g.R.length cR,.int .i64 g.s]);have da:=Hd (Ay w (.cells #[.slice AT g.nt cT,.slice AN g.nn cN,.slice AR g.R.length cR,.int .i64 g.s] 32));have de:=Hd (ep.out.alloc (.cells #[.slice none 0 0,.int .i64 0,.int .i64 0,.slice none 0 0,.slice none 0 0] 26))
 have dj:=Hd (Ah.new (w.alloc (.cells #[.slice AT g.nt cT,.slice AN g.nn cN,.slice AR g.R.length cR,.int .i64 g.s] 32)) 26 #[.slice none 0 0,.int .i64 0,.int .i64 0,.slice none 0 0,.slice none 0 0]);have a7:=Hd (da.out.alloc da.out.size (.cells #[.slice none 0 0,.int .i64 0,.int .i64 0,.slice none 0 0,.slice none 0 0] 26));have j3:=hg.fit.nr;have jw:=hs.nt;have jv:=hg.fit.nn;clear hg hs hc b1 ep da;refine U4 Tryz.func6 rfl ?_;simp only[Tryz.ntmps6,List.size_toArray,List.length_cons,List.length_nil,Nat.reduceAdd,Nat.reduceSub,Array.replicate_succ,Array.replicate_zero,List.push_toArray,List.append_toArray,List.nil_append,List.cons_append]
 go_wp2_with (first
  | (
    go_at_call 24;refine(ez.out _ a7.out).mono ?_;rintro e J ⟨mv,rfl,hM,cv⟩
    obtain⟨AL,cL,Ao,co,jl⟩:=hM.form HS.out.k;subst jl;have HM:=Hd hM;have ei:=Hd (a7.out.trans (cv.mono a7.out.size));have ak:=Hd (de.out.below cv de.out.lt);have cl:=Hd (dj.out.below cv dj.out.lt);have eo:=Hd (en.out (J.alloc (.cells #[.int .i64 g.R.length,.slice AL L.length cL,.slice Ao L.length co] 60)) _ (hM.later (Ay _ _)));have g0:=Ah.cell ak.out 0;have g1:=Ah.cell ak.out 1;have g2:=Ah.cell ak.out 2;have g3:=Ah.cell ak.out 3;have gl:=ak.out.lt;simp at g0 g1 g2 g3;clear hM cv)
  | (
    go_at_call 25;refine eo.out.mono ?_;rintro e w3 ⟨rfl,bt⟩
    have au:=Hd ((ak.out.alloc (.cells #[.int .i64 g.R.length,.slice AL L.length cL,.slice Ao L.length co] 60)).below bt (ak.out.alloc _).lt);have fb:=Hd ((cl.out.alloc (.cells #[.int .i64 g.R.length,.slice AL L.length cL,.slice Ao L.length co] 60)).below bt (cl.out.alloc _).lt);have df:=Hd ((Ah.new J 60 #[.int .i64 g.R.length,.slice AL L.length cL,.slice Ao L.length co]).below bt (by simp));have db:Hid (Below J.heap.size J w3):=Hd ((Ay J _).trans (bt.mono (by simp)));have x0:=Ah.cell au.out 0;have x1:=Ah.cell au.out 1;have x2:=Ah.cell au.out 2
    have x3:=Ah.cell au.out 3;have xl:=au.out.lt;simp at x0 x1 x2 x3;clear bt g0 g1 g2 g3 gl))
 clear en ez eo;have ff:=Hd (fun(y:World) (hy:Below w.heap.size w y) (k:Nat) (hk:k<=g.R.length)=>Q6 HG.out hy hk);have a4:Hid (w.heap.size+1<J.heap.size/\J.heap.size<w3.heap.size):=Hd ⟨by have h:=cl.out.lt;simpa using h,df.out.lt⟩;have HT:=Hd (Ah.new w3 26 #[.slice none 0 0,.int .i64 g.nt,.int .i64 g.nn,.slice none 0 0,.slice none 0 0]);have es:=Hd (au.out.alloc (.cells #[.slice none 0 0,.int .i64 g.nt,.int .i64 g.nn,.slice none 0 0,.slice none 0 0] 26));have dn:=Hd (fb.out.alloc (.cells #[.slice none 0 0,.int .i64 g.nt,.int .i64 g.nn,.slice none 0 0,.slice none 0 0] 26))
 have f2:=Hd (df.out.alloc (.cells #[.slice none 0 0,.int .i64 g.nt,.int .i64 g.nn,.slice none 0 0,.slice none 0 0] 26));have bj:Hid (Below J.heap.size J (w3.alloc (.cells #[.slice none 0 0,.int .i64 g.nt,.int .i64 g.nn,.slice none 0 0,.slice none 0 0] 26))):=Hd (db.out.alloc db.out.size _);have it:Hid ((w3.alloc (.cells #[.slice none 0 0,.int .i64 g.nt,.int .i64 g.nn,.slice none 0 0,.slice none 0 0] 26)).heap.size=w3.heap.size+1):=Hd (by simp);have a3:(w.alloc (.cells #[.slice AT g.nt cT,.slice AN g.nn cN,.slice AR g.R.length cR,.int .i64 g.s] 32)).heap.size=w.heap.size+1:=by simp
 rw[a3]at dn;clear de dj a7 ak cl au fb df db x0 x1 x2 x3 xl a3;generalize w3.alloc (.cells #[.slice none 0 0,.int .i64 g.nt,.int .i64 g.nn,.slice none 0 0,.slice none 0 0] 26)=W at *;generalize w3.heap.size=T at *;generalize gm:J.heap.size=mb at *;have dg:=Hd gm;clear gm;have ev:Hid (Hh w W W.heap.size g 0 (.slice none 0 0) []):=Hd ⟨⟨by have p:=bj.out.size;have P:=a4.out;have U:=it.out;omega,AG _⟩,rfl,⟨rfl,.inl ⟨rfl,rfl⟩⟩,fun j x hx=>by cases hx⟩;go_loopw [47] (fun kk wr=>∃(k:Nat) (rv:Value) (Z:List (Nat×Value)),k<=g.R.length+1/\kk=.int .i64 k/\Hid (Hh w wr W.heap.size g k rv Z)/\Hid (Ah wr T 26 #[rv,.int .i64 g.nt,.int .i64 g.nn,.slice none 0 0,.slice none 0 0])/\Hid (Aj (·=T) W wr)) (fun kk _=>g.R.length+1-(intOf kk).toNat)
 case atStart=>exact⟨0,_,[],AP _,rfl,ev,HT,Hd (Aj.refl _ _)⟩
 case round=>
  obtain⟨k,rv,Z,hk,rfl,aw,ax,ar⟩:=hrel;rename World=>wr
  have bd:=ar.out.An es.out (by have:=a4.out;omega);have jz:=Cv aw.out.row;obtain⟨ab,ad,rfl⟩:=jz;have dw:=aw.out.len;rw[dw]at aw ax;have x0:=Ah.cell bd 0;have x1:=Ah.cell bd 1;have x2:=Ah.cell bd 2;have x3:=Ah.cell bd 3;have t0:=Ah.cell ax.out 0;simp at x0 x1 x2 x3 t0;have an:=Hd dw;have ij:=Hd bd;clear bd dw;by_cases e6:k<g.R.length+1
  ·have dy:Below w.heap.size w wr:=by
     have p:=ei.out;have P:Below w.heap.size J W:=bj.out.mono (by have:=a4.out;omega);have U:Below w.heap.size W wr:=ar.out.below (by have h4:=bj.out.size;have h5:=dg.out;have:=a4.out;omega) (fun j hj e=>by have:=a4.out;omega);exact(p.trans P).trans U
   have iq:=Hd (ff.out wr dy k (by omega));have dc:=Hd dy;clear dy;go_upto_region 11 with(first
     | (
       go_at_call 26;refine iq.out.mono ?_;rintro e y ⟨rk,rfl,hn,bb,gp,gq⟩
       obtain⟨⟨aq,ay,jy,-⟩,-,-⟩:=id hn;subst jy;have ik:Hid (B0 (Rt w y) y (.slice aq (g.right k).length ay) (g.right k)):=Hd (by
         by_cases ji:k<g.R.length
         · have p:=Re (gp ji)
           have ao:Below w.heap.size w y:=dc.out.trans (bb.mono dc.out.size);exact p.BZ (fun b hb=>.inl hb) ao.size (fun b hb=>ao.block b hb)
         · obtain⟨b,hb,gj,cs,cw⟩:=gq (by omega)
           refine⟨hn,fun b' dx _=>?_⟩;rw[hb]at dx;simp only[Value.ownBlock,Option.some.injEq]at dx;subst dx;exact .inr ⟨AX dc.out.size gj,cs,cw⟩)
       have aj:=Hd bb;have cn:=Hd (aw.out.later bb);have ir:Hid (y.ownsRow W.heap.size 65 2 (.slice ab k ad) k (Z.flatMap Kl)):=Hd (by have h:=(aw.out.later bb).row;rw[an.out]at h;exact h);have dp:=Hd (ax.out.below bb ax.out.lt);have y0:=Ah.cell dp.out 0;have yl:=dp.out.lt;simp at y0;clear hn bb gp gq))
   go_wp2_with (first
     | (
       at_builtin;refine DA dU (.tmp 57) (.tmp 59) rfl rfl (base:=W.heap.size) (n:=k) (m:=1) (N:=k+1) (xs:=Z.flatMap Kl) (news:=[.int .i64 ((g.Cf k).1:Nat),.slice aq (g.right k).length ay]) rfl rfl (AS (AS ir.out (Ay _ _)) (Ay _ _)) (Bc.An (c:=1) (cs:=[.int .i64 ((g.Cf k).1:Nat),.slice aq (g.right k).length ay]) (Ah.newAt (by simp)) rfl (by simp[Value.oneCell'])) rfl (by unfold maxLen;omega) (by omega) (by have:=cn.out.size.2;simp;omega) ?_
       intro A9 c9 w9 r1 r2 r3;have bf:Ah w9 T 26 #[.slice ab k ad,.int .i64 g.nt,.int .i64 g.nn,.slice none 0 0,.slice none 0 0]:=r2.An ((dp.out.alloc _).alloc _) (.inr (by decide));have f9:=bf.frozen 0;have b9:=bf.cell 0;have l9:=bf.lt;simp at b9;have bz:=(Ay y (.cells #[.int .i64 ((g.Cf k).1:Nat),.slice aq (g.right k).length ay] 65)).trans ((Ay (y.alloc (.cells #[.int .i64 ((g.Cf k).1:Nat),.slice aq (g.right k).length ay] 65)) (.cells #[.int .i64 ((g.Cf k).1:Nat),.slice aq (g.right k).length ay] 65)).mono (by simp));have h3:w.heap.size<=y.heap.size:=AX cn.out.size.1 cn.out.size.2
       have hx:=ik.out.rt h3 bz.size (fun b hb _=>bz.block b hb);have ia:w9.ownsRow W.heap.size 65 2 (.slice A9 (Z.length+1) c9) (Z.length+1) (Z.flatMap Kl++[.int .i64 ((g.Cf k).1:Nat),.slice aq (g.right k).length ay]):=by rw[an.out];exact r1
       have h9:=(cn.out.later bz).more hx ia r2 bf (by have:=a4.out;omega) (.slice A9 (Z.length+1) c9);rw[an.out]at h9;have H9:=Hd h9;have iu:Hid (Ah (w9.setCell ⟨T,0,none⟩ (.slice A9 (k+1) c9)) T 26 #[.slice A9 (k+1) c9,.int .i64 g.nt,.int .i64 g.nn,.slice none 0 0,.slice none 0 0]):=Hd (by simpa using bf.Bn 0 (.slice A9 (k+1) c9));have ie:Hid (Aj (·=T) W (w9.setCell ⟨T,0,none⟩ (.slice A9 (k+1) c9))):=Hd (((((ar.out.next (Aj.AH aj.out)).next (Aj.AH bz)).trans (Y:=fun b=>W.heap.size<=b) ⟨r2.os,r2.tape,r2.output,r2.size,fun i hi hx=>r2.block i hi (.inl (by omega))⟩ (fun b hb hx=>by omega))).set (p:=⟨T,0,none⟩) (.inr rfl) _)
       clear bf bz h3 hx h9 r1 ia r2 r3))
   go_roundw
   case rel=>exact⟨k+1,_,_,by omega,by go_num,H9,iu,ie⟩
   case measure=>simp[intOf];omega
  ·obtain rfl:k=g.R.length+1:=by omega
   have e7:=ar.out.An dn.out (by have:=a4.out;omega);have ip:=Hd (Hh.done aw.out j3 ax.out e7 (by have:=a4.out;omega) (by omega));have a7:Hid (Below J.heap.size J wr):=Hd (by have p:=bj.out;have P:=a4.out;have U:=dg.out;rw[U];exact p.trans (ar.out.below (by have:=p.size;omega) (fun j hj e=>by omega)))
   have cf:=Hd (ar.out.An f2.out (by have:=a4.out;omega));have fc:=Hd e7;have fg:Hid (Gb wr wr T g E K 0 (.slice ab (g.R.length+1) ad) (.slice none 0 0) (.slice none 0 0) [] [] []):=Hd ⟨Aj.refl _ _,ax.out.lt,ax.out,rfl,rfl,⟨rfl,.inl ⟨rfl,rfl⟩⟩,(fun z hz=>by cases hz),⟨rfl,.inl ⟨rfl,rfl⟩⟩,(fun z hz=>by cases hz),trivial⟩;have m0:=Ah.cell cf.out 0;have m1:=Ah.cell cf.out 1;have m2:=Ah.cell cf.out 2;simp at m0 m1 m2;have bl:Hid (L.length=E.length/\L.length<=1000000):=Hd ⟨HS.out.e.symm,HS.out.l⟩;clear e7 aw ar ij x0 x1 x2 x3 t0 an e6 hk ev HT es dn f2 bj ff
   go_wp2_with fail
   generalize gs:L.length=nL at *;have f6:=Hd gs;clear gs;rename World=>t
   refine wp_loop_ghost_k (fun n a y=>∃(i:Nat) (av gv:Value) (I:List (Value×List It)) (ZG:List (Value×List Int)),i<=nL/\n=nL-i/\a=Rf w.heap.size (w.heap.size+1) mb T (.slice AL nL cL) (.int .i64 nL) (.int .i64 i) (fun j=>a.tmps.getD j undef) a.defers/\Hid (Gb t y T g E K i (.slice ab (g.R.length+1) ad) av gv I ZG a.defers)) nL ?start ?round
   case start=>exact⟨0,_,_,[],[],AP _,rfl,rfl,fg⟩
   case round=>
     intro n a y hI kf K2 hJ o;obtain⟨i,av,gv,I,ZG,hi,hn,ha,R⟩:=hI;obtain⟨f,hf⟩:∃f,(fun j=>a.tmps.getD j undef)=f:=⟨_,rfl⟩
     obtain⟨ds,az⟩:∃ds,a.defers=ds:=⟨_,rfl⟩
     rw[hf,az]at ha;rw[az]at R;clear hf az;subst ha;unfold Rf;subst hn;clear fg m0 m1 m2;have HJ:=Hd hJ;clear hJ;by_cases e6:i<nL
     ·obtain⟨kc,kg,kd,kh,b,off,Ai,ni,ci,At,nq,ct,b2,d9,Ak,nk,ck,hv,fr,fs,e3,gy,b0⟩:=HM.out.at_ (i:=i) (by rw[f6.out];exact e6) HS.out.k (HS.out.es i)
      simp at hv;obtain⟨⟨e1,-,-⟩,⟨e2,-,-⟩⟩:=hv;rw[<-e1]at fr;rw[<-e2]at fs;subst fr;subst fs;clear e1 e2;have aj:Hid (Below J.heap.size J y):=Hd (a7.out.trans (R.out.Aw.below a7.out.size (fun j hj e=>by have:=a4.out;have:=dg.out;omega)));have em:=Hd e3;obtain⟨yb,l2,s0,s1,s2⟩:=e3 y aj.out;have f8:=Hd gy;have ew:=Hd b0;have ag:=R.out.Aw.An cf.out (by have:=a4.out;omega);have m0:=Ah.cell ag 0;have m1:=Ah.cell ag 1;have m2:=Ah.cell ag 2;have ml:=ag.lt;have t1:=Ah.cell R.out.Ct 1;have t2:=Ah.cell R.out.Ct 2;have tl:=R.out.Ct.lt;simp at m0 m1 m2 t1 t2
      have ch:=Hd ag;have kx:(i:Int)<(nL:Int):=by omega
      have ky:nL<=1000000:=bl.out.2;have b1:=fun(y:World)=>Uv (n:=g.nt+1) (by omega) y
      have ec:((g.nt+1:Nat):Int)=(g.nt:Int)+1:=by omega
      simp only[ec]at b1;clear e3 gy b0 ag ec;go_wp2_with fail
      have e1:(y.alloc (.cells #[.slice Ai ni ci,.slice At nq ct] 71)).heap.size=y.heap.size+1:=by simp
      have e2:((y.alloc (.cells #[.slice Ai ni ci,.slice At nq ct] 71)).alloc (.cells (Array.replicate ((g.nt+1)*2) (.int .i64 0)) 78)).heap.size=y.heap.size+1+1:=by simp
      have fa:Hid (L6 t y (((y.alloc (.cells #[.slice Ai ni ci,.slice At nq ct] 71)).alloc (.cells (Array.replicate ((g.nt+1)*2) (.int .i64 0)) 78)).alloc (.cells #[.slice (some ⟨y.heap.size+1,0,none⟩) (g.nt+1) (g.nt+1)] 72)) y.heap.size (y.heap.size+1+1) (y.heap.size+1) (g.nt+1) (.slice Ai ni ci) (.slice At nq ct) (Gy g E K i) 0 ds):=Hd ⟨((Ay y _).alloc (by omega) _).alloc (by omega) _,((Ah.new y _ _).alloc _).alloc _,Ah.newAt e2,by rw[Yl];exact(Ah.newAt e1).alloc _,R.out.marks.later (((Ay y _).alloc (by omega) _).alloc (by omega) _)⟩;clear e1 e2 s0 s1 s2 m0 m1 m2 t1 t2 b1
      generalize h1:y.heap.size=l at *;have bn:=Hd h1;clear h1;have ke:Hid (g.nt+1<=121):=Hd (by omega);refine wp_loop_ghost_k (fun n a z=>∃k:Nat,k<=g.nt+1/\n=g.nt+1-k/\a=Sl w.heap.size (w.heap.size+1) mb T l (l+1+1) (.int .i64 i) (.slice (some ⟨b,off,none⟩) nL cL) (.int .i64 nL) (.int .i64 ((g.nt:Int)+1)) (.int .i64 k) (fun j=>a.tmps.getD j undef) a.defers/\Hid (L6 t y z l (l+1+1) (l+1) (g.nt+1) (.slice Ai ni ci) (.slice At nq ct) (Gy g E K i) k a.defers)) (g.nt+1) ?start5 ?round5
      case start5=>exact⟨0,AP _,rfl,rfl,fa⟩
      case round5=>
        intro n a z hI J5 K5 ft ko;obtain⟨k,hk,hn,ha,cm⟩:=hI;obtain⟨f5,hf⟩:∃f,(fun j=>a.tmps.getD j undef)=f:=⟨_,rfl⟩
        obtain⟨cu,az⟩:∃ds,a.defers=ds:=⟨_,rfl⟩
        rw[hf,az]at ha;rw[az]at cm;clear hf az;subst ha;unfold Sl;subst hn;clear fa;have et:=Hd ft;clear ft;obtain⟨ah,eg,c7,d8,d7⟩:=cm.out;by_cases b0:k<g.nt+1
        · have bi:Below J.heap.size J z:=aj.out.trans (ah.mono aj.out.size)
          have d6:=Ay z (.cells #[.int .i64 k] 3);have d2:=Ah.new z 3 #[.int .i64 k];have kb:(z.alloc (.cells #[.int .i64 k] 3)).heap.size=z.heap.size+1:=by simp
          have d5:Below J.heap.size J (z.alloc (.cells #[.int .i64 k] 3)):=bi.trans (d6.mono bi.size);have dr:Hid (Below y.heap.size y (z.alloc (.cells #[.int .i64 k] 3))):=Hd (ah.trans (d6.mono ah.size));have bq:Hid (Ah (z.alloc (.cells #[.int .i64 k] 3)) l 71 #[.slice Ai ni ci,.slice At nq ct]):=Hd (eg.alloc _);have dt:Hid (Ah (z.alloc (.cells #[.int .i64 k] 3)) (l+1+1) 72 #[.slice (some ⟨l+1,0,none⟩) (g.nt+1) (g.nt+1)]):=Hd (c7.alloc _);have cr:Hid (Ah (z.alloc (.cells #[.int .i64 k] 3)) (l+1) 78 ((D9 (Gy g E K i) (g.nt+1) k).flatMap C9).toArray):=Hd (d8.alloc _)
          have fi:Hid (CP t.heap.size (z.alloc (.cells #[.int .i64 k] 3)) cu):=Hd (d7.later d6);have b8:=Hd d5;have cq:=Hd d2;have an:Hid (l+1+1<z.heap.size/\J.heap.size<=l/\t.heap.size<=l):=Hd ⟨c7.lt,by have:=aj.out.size;have:=bn.out;omega,by have:=R.out.Aw.size;have:=bn.out;omega⟩;have cc:Hid (∀y',Below (z.alloc (.cells #[.int .i64 k] 3)).heap.size (z.alloc (.cells #[.int .i64 k] 3)) y'->y'.cell? ⟨mb,0,none⟩=some (.int .i64 g.R.length)/\y'.cell? ⟨mb,2,none⟩=some (.slice (some ⟨b2,d9,none⟩) nL co)/\y'.cell? ⟨l,0,none⟩=some (.slice Ai ni ci)/\y'.cell? ⟨l,1,none⟩=some (.slice At nq ct)/\y'.cell? ⟨b2,d9+i,none⟩=some (.slice Ak nk ck)/\y'.cell? ⟨z.heap.size,0,none⟩=some (.int .i64 k)):=Hd (fun y' bh=>by
            have p:=(ch.out.below ah ch.out.lt).alloc (.cells #[.int .i64 k] 3);have P:=p.below bh p.lt;have U:=bq.out.below bh bq.out.lt;have h4:=d2.below bh d2.lt;exact⟨P.cell 0,P.cell 2,U.cell 0,U.cell 1,(em.out y' (d5.trans (bh.mono d5.size))).2.2.2.2,h4.cell 0⟩)
          clear bi d6 d2 kb d5 ah eg c7 d8 d7 cm;have kr:(k:Int)<(g.nt:Int)+1:=by omega
          go_upto_region 20 with fail
          generalize z.alloc (.cells #[.int .i64 k] 3)=z1 at *;obtain⟨c0,c1,c2,c3,c4,c5⟩:=cc.out z1 (Below.refl _ _);have dd:Hid (Below z1.heap.size z1 z1.drew):=Hd ((Below.refl z1.heap.size z1).drew);have HP:=Hd (fun y:World=>Ts (w:=y) (own:=g.R.length) (t:=k) (Ai:=Ai) (At:=At) (Ak:=Ak) (ni:=ni) (ci:=ci) (nt:=nq) (ct:=ct) (nk:=nk) (ck:=ck))
          go_region_held3 (fun v=>v.cell? ⟨mb,0,none⟩=some (.int .i64 g.R.length)/\v.cell? ⟨mb,2,none⟩=some (.slice (some ⟨b2,d9,none⟩) nL co)/\v.cell? ⟨l,0,none⟩=some (.slice Ai ni ci)/\v.cell? ⟨l,1,none⟩=some (.slice At nq ct)/\v.cell? ⟨b2,d9+i,none⟩=some (.slice Ak nk ck)/\v.cell? ⟨z.heap.size,0,none⟩=some (.int .i64 k))
            (first|exact cc.out _ dd.out|exact cc.out _ ai.out)
            (first|(
                 go_at_call 27;refine(HP.out _).mono ?_;rintro e z2 ⟨i5,i6,i7,i9,rfl,p,P,U,h4,k1,k2,k3,k4,fy⟩
                 have ai:Hid (Below z1.heap.size z1 z2):=Hd (dd.out.trans fy);have f7:=Hd (And.intro (And.intro p (And.intro P (And.intro U h4))) (And.intro k1 (And.intro k2 (And.intro k3 k4))));clear p P U h4 k1 k2 k3 k4 fy))
          clear c0 c1 c2 c3 c4 c5 HP;go_wp2;obtain⟨⟨p,P,U,h4⟩,k1,k2,k3,k4⟩:=f7.out;have p:z1.heap.size<=i5:=p;have P:z1.heap.size<=i6:=P;have U:z1.heap.size<=i7:=U;have h4:z1.heap.size<=i9:=h4;have ao:Below J.heap.size J z2:=b8.out.trans (ai.out.mono b8.out.size);have hA:∀b,(b<J.heap.size\/(z1.heap.size<=b/\b<z2.heap.size))->b<z2.heap.size:=fun b hb=>hb.elim (fun h=>A0 h ao.size) (·.2)
          have e8:BQ (fun b=>b<J.heap.size) J z2:=fun b hb=>ao.block b hb
          have d3:=SU (A:=fun b=>b<J.heap.size\/(z1.heap.size<=b/\b<z2.heap.size)) (w:=z2) (m:=g.nt+1) b0 (by omega) hA (.inr ⟨p,k1.lt⟩) (.inr ⟨P,k2.lt⟩) (.inr ⟨U,k3.lt⟩) (.inr ⟨h4,k4.lt⟩) k1 k2 k3 k4
            (f8.out.BZ (fun _=>.inl) ao.size e8) (ew.out.BZ (fun _=>.inl) ao.size e8)
          rw[<-T0]at d3;obtain⟨xs,ed⟩:∃xs,g.JD (E.getD i []) (K.getD i []) k=xs:=⟨_,rfl⟩
          rw[ed]at d3;have bp:Hid (Gy g E K i k=xs.headD (0,0)):=Hd (by unfold Gy;rw[ed]);have gu:¬(l+1<J.heap.size\/(z1.heap.size<=l+1/\l+1<z2.heap.size)):=by have q1:=an.out;have C:=cr.out.lt;omega
          have cp:=Hd d3;have cb:=Hd hA;have cj:=Hd gu;have b7:=Hd (cr.out.below ai.out cr.out.lt);have a8:=Hd (dt.out.below ai.out dt.out.lt);have cd:=Hd (cq.out.below ai.out cq.out.lt);have bo:=Hd (bq.out.below ai.out bq.out.lt);have b4:Hid (Below y.heap.size y z2):=Hd (dr.out.trans (ai.out.mono dr.out.size));have b5:Hid (CP t.heap.size z2 cu):=Hd (fi.out.later ai.out);have bm:Hid (z.heap.size<z2.heap.size/\l+1+1<z2.heap.size/\z.heap.size<z1.heap.size):=Hd ⟨cd.out.lt,a8.out.lt,cq.out.lt⟩;clear d3 hA ao e8 p P U h4 k1 k2 k3 k4 f7 cc ed gu dd cr dt cq bq dr fi
          refine(wpIn_wide (n:=0)).1 ?_;refine SH (gf:=63) (lb:=#[.pointer (some ⟨i5,0,none⟩),.pointer (some ⟨i6,0,none⟩),.pointer (some ⟨i7,0,none⟩),.pointer (some ⟨i9,0,none⟩)]) rfl (fun _ _=>by kernel_rfl) cp.out cb.out (fun _=>rfl)
            (fun pre A' W'=>pre=[]/\¬A' (l+1)/\Below z2.heap.size z2 W') (fun c A' W'=>c=.exit 7/\Aj (·=l+1) z2 W'/\Ah W' (l+1) 78 ((D9 (Gy g E K i) (g.nt+1) (k+1)).flatMap C9).toArray) ?hI ?hIx ?h0 ?hround ?hdone ?hstop
          case hI=>rintro s A1 A2 iw U' ⟨p,P,U⟩ hc fq;refine⟨p,fun h=>(fq _ h).elim P (by have:=bm.out;have:=U.size;omega),U.trans (hc.below U.size (fun j hj h=>by omega))⟩
          case hIx=>rintro c s A1 A2 iw U' ⟨p,P,U⟩ hc fq;refine⟨p,P.trans hc (fun j hj h=>by omega),hc.An U (fun h=>by have:=bm.out;omega)⟩
          case h0=>exact⟨rfl,cj.out,Below.refl _ _⟩
          case hround=>
            rintro l1 pre x A5 W5 gx ks kt kn bx be ⟨rfl,aa,a6⟩;have HX:Hid (Gy g E K i k=x):=Hd (by obtain⟨rest,hr⟩:=gx;rw[bp.out,<-hr];rfl)
            obtain⟨xk,xn⟩:=x;obtain⟨W6,dv⟩:∃W6,W5.alloc (.cells #[.int .i64 xk,.int .i64 xn] 78)=W6:=⟨_,rfl⟩
            have fz:Below W5.heap.size W5 W6:=by rw[<-dv];exact Ay _ _
            have hw:Ah W6 W5.heap.size 78 #[.int .i64 xk,.int .i64 xn]:=by rw[<-dv];exact Ah.new _ _ _
            have kz:W6.heap.size=W5.heap.size+1:=by rw[<-dv];simp
            have ej:=Hd fz;have iv:=Hd hw;have ey:=Hd be;have eu:=Hd (And.intro aa a6);simp only[JL];clear fz hw be bx gx aa a6 bp cp cb cj;simp
            gi_wp2
            refine⟨by omega,fun b hb=>ej.out.block b (ey.out b hb),fun W7 dz l0 r hr=>?_⟩;have bu:Aj (·=l1) z2 W7:=(((Aj.AH eu.out.2).next (Aj.AH ej.out))).next dz;have d4:Ah W7 W5.heap.size 78 #[.int .i64 xk,.int .i64 xn]:=dz.An iv.out (by omega);have bv:=bm.out;have b3:=bu.An b7.out (by omega);have ee:=bu.An a8.out (by omega);have e5:=bu.An cd.out (by omega);have jj:((D9 (Gy g E K i) (g.nt+1) k).flatMap C9).length=(g.nt+1)*2:=by rw[Lk C9 2 (fun _=>rfl),KL]
            have x0:=d4.cell 0;have x1:=d4.cell 1;have xl:=d4.lt;have y0:=ee.cell 0;have yl:=ee.lt;have w0:=e5.cell 0;have wl:=e5.lt;have f0:=b3.frozen (k*2);have f1:=b3.frozen (k*2+1);have rl:=b3.lt;obtain⟨u0,r0⟩:∃u,W7.cell? ⟨l+1,k*2,none⟩=some u:=⟨_,(b3.cell (k*2)).trans (by rw[List.getElem?_toArray];exact eG (by omega))⟩
            obtain⟨u1,r1⟩:∃u,W7.cell? ⟨l+1,k*2+1,none⟩=some u:=⟨_,(b3.cell (k*2+1)).trans (by rw[List.getElem?_toArray];exact eG (by omega))⟩
            simp at x0 x1 y0 w0;have ic:=Hd bu;have im:=Hd b3;clear bu d4 b3 ee e5 jj dz bv
            gi_wp2
            have e0:Aj (·=l+1) W7 ((W7.setCell ⟨l+1,k*2,none⟩ (.int .i64 xk)).setCell ⟨l+1,k*2+1,none⟩ (.int .i64 xn)):=((Aj.refl (·=l+1) W7).set (p:=⟨l+1,k*2,none⟩) (.inr rfl) (.int .i64 xk)).set (p:=⟨l+1,k*2+1,none⟩) (.inr rfl) (.int .i64 xn);have jx:=(im.out.Bn (k*2) (.int .i64 xk)).Bn (k*2+1) (.int .i64 xn);refine⟨e0.size,fun b hb=>e0.block b (by have:=ey.out b hb;omega) (fun e=>eu.out.1 (e▸hb)),rfl,((Aj.refl (·=l+1) z2).trans ic.out (fun j hj e=>by omega)).next e0,?_⟩;rw[UT _ b0,HX.out,<-RE _ _ _ (by rw[KL];exact b0)];simpa using jx
          case hdone=>
            rintro D A5 W5 hD j1 bx be ⟨hx,aa,a6⟩ br;have hz:Gy g E K i k=(0,0):=by rw[bp.out,hx];rfl
            have bv:=bm.out;have dm:Hid (L6 t y W5 l (l+1+1) (l+1) (g.nt+1) (.slice Ai ni ci) (.slice At nq ct) (Gy g E K i) (k+1) ({target:=.collected D,args:=#[]}::cu)):=Hd ⟨b4.out.trans (a6.mono b4.out.size),bo.out.below a6 bo.out.lt,a8.out.below a6 a8.out.lt,by rw[Xr _ b0 hz];exact b7.out.below a6 b7.out.lt,(b5.out.later a6).more (by have p:=an.out;omega) br (fun D' du=>by have:=b5.out.lt D' du;omega)⟩;clear bx be hx aa a6 br hz bv bp cp cb cj b7 a8 cd bo b4 b5;go_wp2;have ek:((k+1:Nat):Int)=(k:Int)+1:=by omega
            exact Handed.intro (g.nt+1-(k+1)) (by omega) (et.out _ _ _ ⟨k+1,by omega,rfl,by rw[ek];rfl,dm⟩)
          case hstop=>
            rintro D c A5 W5 hD j1 bx be ⟨rfl,aa,a6⟩ br;have bv:=bm.out;have gj:=an.out;have dm:Hid (L6 t y W5 l (l+1+1) (l+1) (g.nt+1) (.slice Ai ni ci) (.slice At nq ct) (Gy g E K i) (k+1) ({target:=.collected D,args:=#[]}::cu)):=Hd ⟨b4.out.trans (aa.below b4.out.size (fun j hj e=>by have:=bn.out;omega)),aa.An bo.out (by omega),aa.An a8.out (by omega),a6,(b5.out.Aw aa (fun D' p P e=>by have U:=b7.out;have e:D'=l+1:=e;unfold Ah at U;rw[<-e,P]at U;cases U)).more (by omega) br (fun D' du=>by have:=b5.out.lt D' du;omega)⟩
            clear bx be aa a6 br bv bp cp cb cj b7 a8 cd bo b4 b5;refine wpIn_wide.2 ?_;go_wp2;have ek:((k+1:Nat):Int)=(k:Int)+1:=by omega
            exact Handed.intro (g.nt+1-(k+1)) (by omega) (et.out _ _ _ ⟨k+1,by omega,rfl,by rw[ek];rfl,dm⟩)
        · obtain rfl:k=g.nt+1:=by omega
          have gz:z.ownsRow t.heap.size 78 2 (.slice (some ⟨l+1,0,none⟩) (g.nt+1) (g.nt+1)) (g.nt+1) ((EI g E K i).flatMap C9):=by have p:=Mz (sz:=2) (n:=g.nt+1) (B:=t.heap.size) d8 (by have:=R.out.Aw.size;have:=bn.out;omega) (by rw[Lk C9 2 (fun _=>rfl),KL]) (by omega);rw[ZO]at p;exact p
          have fe:=Hd gz;have al:=Hd ((R.out.later ah).marked d7);have c6:Below J.heap.size J z:=aj.out.trans (ah.mono aj.out.size);have b8:=Hd c6;have a8:=Hd c7;have dh:=Hd (ch.out.below ah ch.out.lt);have t2:=Ah.cell al.out.Ct 2;have tl:=al.out.Ct.lt;simp at t2;have b1:=fun y=>IV (P:=Tryz.prog) (t:=44) (e:=3) (z:=.int .i64 0) (bytes:=8) Tryz.underlying44 (by kernel_rfl) rfl (l:=((g.nn:Nat):Int)) (n:=g.nn) rfl (by omega) (by omega) y
          clear gz ah eg c7 d8 d7 cm c6;go_wp2_with fail
          have ig:Hid (Below z.heap.size z (z.alloc (.cells (Array.replicate g.nn (.int .i64 0)) 3))/\Ah (z.alloc (.cells (Array.replicate g.nn (.int .i64 0)) 3)) z.heap.size 3 ((ES (fun c8=>FY (E.getD i []) (g.nt+1+c8)) g.nn 0).map BF).toArray):=Hd ⟨Ay z _,by rw[gD];exact Ah.new z _ _⟩;have er:Hid (∀y',Below J.heap.size J y'->∀k:Nat,Calls Tryz.prog 28 #[.slice (some ⟨b,off,none⟩) nL cL,.int .i64 i,.int .i64 ((g.nt:Int)+1+(k:Int))] y' fun e w'=>e=.returned (.int .i64 (FY (E.getD i []) (g.nt+1+k)))/\Below y'.heap.size y' w'):=Hd (fun y' bh k=>by obtain⟨lv,lo,V,hv,hA,-⟩:=HM.out;simp at hv;rw[<-hv.1]at hA;have p:=PY (hA.later bh) (i:=i) (s:=g.nt+1+k) (by have:=hA.len.1;have:=f6.out;omega);rwa [show ((g.nt+1+k:Nat):Int)=(g.nt:Int)+1+(k:Int) by omega]at p)
          clear t2 b1;go_loopw [101] (fun kk wr=>∃k:Nat,k<=g.nn/\kk=.int .i64 k/\Hid (Below z.heap.size z wr/\Ah wr z.heap.size 3 ((ES (fun c8=>FY (E.getD i []) (g.nt+1+c8)) g.nn k).map BF).toArray)) (fun kk _=>g.nn-(intOf kk).toNat)
          case atStart=>exact⟨0,AP _,rfl,ig⟩
          case round=>
            obtain⟨k,kp,rfl,b6⟩:=hrel;rename World=>z9
            by_cases jk:k<g.nn
            ·have a2:=b6.out.1
             have ag:=dh.out.below a2 dh.out.lt;have h2:=al.out.Ct.below a2 al.out.Ct.lt;have m1:=ag.cell 1;have t1:=h2.cell 1;simp at m1 t1;have ih:=Hd (er.out z9 (b8.out.trans (a2.mono b8.out.size)) k);have el:=Hd a2;have kq:(k:Int)<(g.nn:Int):=by omega
             have kw:((ES (fun c8=>FY (E.getD i []) (g.nt+1+c8)) g.nn k).map BF).length=g.nn:=by simp[ES]
             clear a2 ag h2;go_wp2_with (
                  go_at_call 28;refine ih.out.mono ?_;rintro e eh ⟨rfl,hb10⟩
                  have bw:=b6.out.2.below hb10 b6.out.2.lt;obtain⟨u0,r0⟩:∃u,eh.cell? ⟨z.heap.size,k,none⟩=some u:=⟨_,(bw.cell k).trans (by rw[List.getElem?_toArray];exact eG (by omega))⟩
                  have f0:=bw.frozen k;have rl:=bw.lt;have il:=Hd bw;have ib:=Hd hb10;clear bw hb10)
             go_roundw
             case rel=>exact⟨k+1,by omega,by go_num,Hd ⟨by
              have p:Below z.heap.size z eh:=el.out.trans (ib.out.mono el.out.size);exact p.trans (((Aj.refl (fun b=>z.heap.size<=b) eh).set (p:=⟨z.heap.size,k,none⟩) (.inr (AG _)) _).below p.size (fun j hj h=>by omega)),by
              rw[dD _ jk,List.map_set];simpa [BF] using il.out.Bn k (.int .i64 (FY (E.getD i []) (g.nt+1+k)))⟩⟩
             case measure=>simp[intOf];omega
            ·obtain rfl:k=g.nn:=by omega
             have a2:=b6.out.1;have e9:=Cv al.out.Jj;have ea:=Cv al.out.goto;obtain⟨Aa,ca,rfl⟩:=e9;obtain⟨Ag,cg,rfl⟩:=ea;have a0:=Hd (al.out.later a2);have fh:=Hd (a8.out.below a2 a8.out.lt);have c6:t.heap.size<=z.heap.size:=al.out.Aw.size;have di:Hid (z9.ownsRow t.heap.size 78 2 (.slice (some ⟨l+1,0,none⟩) (g.nt+1) (g.nt+1)) (EI g E K i).length ((EI g E K i).flatMap C9)):=Hd (by have p:=AS fe.out a2;rwa [show (EI g E K i).length=g.nt+1 by simp[EI]])
             have dk:Hid (z9.ownsRow t.heap.size 3 1 (.slice (some ⟨z.heap.size,0,none⟩) g.nn g.nn) (E8 g E i).length ((E8 g E i).map BF)):=Hd (by have p:=Mz (sz:=1) (n:=g.nn) (B:=t.heap.size) b6.out.2 c6 (by simp[ES]) (by omega);rw[dX]at p;rw[show (E8 g E i).length=g.nn by simp[E8]];exact p)
             have dq:Hid (some (l+1+1)≠(Value.slice Aa I.length ca).ownBlock):=Hd (fun e=>by have p:=(B9 R.out.Jj _ e.symm).1;have P:=bn.out;omega)
             have ku:I.length<=1000000:=by have p:=congrArg List.length R.out.za;simp at p;have:=bl.out.2;omega
             have kv:ZG.length<=1000000:=by have p:=congrArg List.length R.out.zg;simp at p;have:=bl.out.2;omega
             have a5:Hid (∀v:World,Ah v T 26 #[.slice ab (g.R.length+1) ad,.int .i64 g.nt,.int .i64 g.nn,.slice Aa I.length ca,.slice Ag ZG.length cg]->Ah v (l+1+1) 72 #[.slice (some ⟨l+1,0,none⟩) (g.nt+1) (g.nt+1)]->(v.cell? ⟨T,3,none⟩=some (.slice Aa I.length ca)/\v.cell? ⟨T,4,none⟩=some (.slice Ag ZG.length cg)/\v.cell? ⟨l+1+1,0,none⟩=some (.slice (some ⟨l+1,0,none⟩) (g.nt+1) (g.nt+1)))):=Hd (fun v p P=>⟨p.cell 3,p.cell 4,P.cell 0⟩);obtain⟨t3,t4,y0⟩:=a5.out z9 a0.out.Ct fh.out;clear a2 c6 b6 er dh b8 fe a8 f8 ew em;go_upto_region 30 with fail
             refine WJ (fun j=>j==11||j==13) (fun(v:World)=>v.cell? ⟨T,3,none⟩=some (.slice Aa I.length ca)/\v.cell? ⟨T,4,none⟩=some (.slice Ag ZG.length cg)/\v.cell? ⟨l+1+1,0,none⟩=some (.slice (some ⟨l+1,0,none⟩) (g.nt+1) (g.nt+1))) (by kernel_rfl) ?_;have ba:(fun(v:World)=>v.cell? ⟨T,3,none⟩=some (.slice Aa I.length ca)/\v.cell? ⟨T,4,none⟩=some (.slice Ag ZG.length cg)/\v.cell? ⟨l+1+1,0,none⟩=some (.slice (some ⟨l+1,0,none⟩) (g.nt+1) (g.nt+1))) z9.drew:=⟨t3,t4,y0⟩
             refine Lu 0 (v:=?va0) rfl (by kernel_rfl) (by kernel_rfl) (by kernel_rfl) (by kernel_rfl) (fun _ _ _ h=>h) (Or.inl ⟨by rfl,?ha0⟩) ba rfl ?ra0
             case ha0=>
              intro w a1;try dsimp only at a1
              go_simp;try with_reducible rfl
             simp only[List.set_cons_succ,List.set_cons_zero];refine Lu 1 (v:=?va1) rfl (by kernel_rfl) (by kernel_rfl) (by kernel_rfl) (by kernel_rfl) (fun _ _ _ h=>h) (Or.inl ⟨by rfl,?ha1⟩) ba rfl ?ra1
             case ha1=>
              intro w a1;try dsimp only at a1
              go_simp;try with_reducible rfl
             simp only[List.set_cons_succ,List.set_cons_zero];refine Lu 2 (v:=?va2) rfl (by kernel_rfl) (by kernel_rfl) (by kernel_rfl) (by kernel_rfl) (fun _ _ _ h=>h) (Or.inl ⟨by rfl,?ha2⟩) ba rfl ?ra2
             case ha2=>
              intro w a1;try dsimp only at a1
              go_simp;try with_reducible rfl
             simp only[List.set_cons_succ,List.set_cons_zero];refine Lu 5 (v:=?va5) rfl (by kernel_rfl) (by kernel_rfl) (by kernel_rfl) (by kernel_rfl) (fun _ _ _ h=>h) (Or.inl ⟨by rfl,?ha5⟩) ba rfl ?ra5
             case ha5=>
              intro w a1;try dsimp only at a1
              go_simp;try with_reducible rfl
             simp only[List.set_cons_succ,List.set_cons_zero];refine Lu 6 (v:=?va6) rfl (by kernel_rfl) (by kernel_rfl) (by kernel_rfl) (by kernel_rfl) (fun _ _ _ h=>h) (Or.inl ⟨by rfl,?ha6⟩) ba rfl ?ra6
             case ha6=>
              intro w a1;try dsimp only at a1
              go_simp;try with_reducible rfl
             simp only[List.set_cons_succ,List.set_cons_zero];refine LY 7 (v:=?va7) rfl (by kernel_rfl) (by kernel_rfl) (by kernel_rfl) (fun _ _ _ h=>h) (Or.inl ⟨by rfl,?ha7⟩) rfl ?ra7
             case ha7=>
              intro w a1;try dsimp only at a1
              go_simp;try with_reducible rfl
             simp only[List.set_cons_succ,List.set_cons_zero];clear ba;have g9:AI t.heap.size [72,44] z9 z9.drew:=(AI.refl _ _ z9).drew;have ha0:z9.drew.ownsRow t.heap.size 72 1 (.slice Aa I.length ca) I.length (I.map (·.1)):=a0.out.Jj;have g4:z9.drew.ownsRow t.heap.size 44 1 (.slice Ag ZG.length cg) ZG.length (ZG.map (·.1)):=a0.out.goto;have h7:Ah z9.drew (l+1+1) 72 #[.slice (some ⟨l+1,0,none⟩) (g.nt+1) (g.nt+1)]:=fh.out;have bi:t.heap.size<=z9.drew.heap.size:=a0.out.Aw.size;generalize z9.drew=d0 at *;refine RP 3 8 (by kernel_rfl) ?_ ?_
             ·
              refine Mb (Z:=fun j=>j==11||j==13) (S:=(fun(v:World)=>v.cell? ⟨T,3,none⟩=some (.slice Aa I.length ca)/\v.cell? ⟨T,4,none⟩=some (.slice Ag ZG.length cg)/\v.cell? ⟨l+1+1,0,none⟩=some (.slice (some ⟨l+1,0,none⟩) (g.nt+1) (g.nt+1)))) 3 (by rfl) (by rfl) (by rfl) (fun K o=>?_);go_simp;have e4:=g9.alloc (.cells #[.slice (some ⟨l+1,0,none⟩) (g.nt+1) (g.nt+1)] 72);have eb:=h7.alloc (.cells #[.slice (some ⟨l+1,0,none⟩) (g.nt+1) (g.nt+1)] 72);have fu:=AS ha0 (Ay d0 (.cells #[.slice (some ⟨l+1,0,none⟩) (g.nt+1) (g.nt+1)] 72));have g5:=AS g4 (Ay d0 (.cells #[.slice (some ⟨l+1,0,none⟩) (g.nt+1) (g.nt+1)] 72))
              have gr:Ah (d0.alloc (.cells #[.slice (some ⟨l+1,0,none⟩) (g.nt+1) (g.nt+1)] 72)) d0.heap.size 72 #[.slice (some ⟨l+1,0,none⟩) (g.nt+1) (g.nt+1)]:=Ah.new d0 _ _;have ef:t.heap.size<=(d0.alloc (.cells #[.slice (some ⟨l+1,0,none⟩) (g.nt+1) (g.nt+1)] 72)).heap.size:=AX bi (by simp);refine o.out (.slice (some ⟨d0.heap.size,0,none⟩) 1 1) _ (fun _ _=>a5.out _ (e4.An a0.out.Ct (.inr (by decide))) eb) ?_;clear o K;simp only[List.set_cons_succ,List.set_cons_zero];generalize d0.alloc (.cells #[.slice (some ⟨l+1,0,none⟩) (g.nt+1) (g.nt+1)] 72)=ae at *;generalize d0.heap.size=fj at *
              refine RP 4 8 (by kernel_rfl) ?_ ?_
              ·
               refine Mb (Z:=fun j=>j==11||j==13) (S:=(fun(v:World)=>v.cell? ⟨T,3,none⟩=some (.slice Aa I.length ca)/\v.cell? ⟨T,4,none⟩=some (.slice Ag ZG.length cg)/\v.cell? ⟨l+1+1,0,none⟩=some (.slice (some ⟨l+1,0,none⟩) (g.nt+1) (g.nt+1)))) 4 (by rfl) (by rfl) (by rfl) (fun K o=>?_);refine Fv NJ (.tmp 118) (.tmp 120) rfl (base:=t.heap.size) (n:=I.length) (m:=1) (N:=I.length+1) (v:=.slice Aa I.length ca) (src:=.slice (some ⟨fj,0,none⟩) 1 1) (xs:=I.map (·.1)) (news:=[.slice (some ⟨l+1,0,none⟩) (g.nt+1) (g.nt+1)]) rfl rfl fu (Bc.An (c:=1) (cs:=[.slice (some ⟨l+1,0,none⟩) (g.nt+1) (g.nt+1)]) gr rfl (by simp[Value.oneCell'])) rfl (by unfold maxLen;omega) (by omega) ef ?_
               intro A4 c4 a9 q1 C q3;have ga:=e4.trans (C.mono (AG _) (by simp));have h8:Ah a9 (l+1+1) 72 #[.slice (some ⟨l+1,0,none⟩) (g.nt+1) (g.nt+1)]:=eb.grown q3.1 dq.out;have jb:=C.own g5 (.inr (by decide));have j4:=q1;have k6:t.heap.size<=a9.heap.size:=AX ef C.size;clear q1 C q3;refine o.out _ _ (fun _ _=>a5.out _ (ga.An a0.out.Ct (.inr (by decide))) h8) ?_;clear o K;simp only[List.set_cons_succ,List.set_cons_zero];refine LY 10 (v:=?vb10) rfl (by kernel_rfl) (by kernel_rfl) (by kernel_rfl) (fun _ _ _ h=>h) (Or.inl ⟨by rfl,?hb10⟩) rfl ?rb10
               case hb10=>
                intro w a1;try dsimp only at a1
                go_simp;try with_reducible rfl
               simp only[List.set_cons_succ,List.set_cons_zero];refine Jw 8 (by kernel_rfl) rfl rfl rfl (fun K o=>?_);go_simp;have gb:=ga.alloc (.cells #[.slice (some ⟨z.heap.size,0,none⟩) g.nn g.nn] 44);have hd:=h8.alloc (.cells #[.slice (some ⟨z.heap.size,0,none⟩) g.nn g.nn] 44);have j5:=AS j4 (Ay a9 (.cells #[.slice (some ⟨z.heap.size,0,none⟩) g.nn g.nn] 44));have jc:=AS jb (Ay a9 (.cells #[.slice (some ⟨z.heap.size,0,none⟩) g.nn g.nn] 44));have jo:Ah (a9.alloc (.cells #[.slice (some ⟨z.heap.size,0,none⟩) g.nn g.nn] 44)) a9.heap.size 44 #[.slice (some ⟨z.heap.size,0,none⟩) g.nn g.nn]:=Ah.new a9 _ _
               have i0:t.heap.size<=(a9.alloc (.cells #[.slice (some ⟨z.heap.size,0,none⟩) g.nn g.nn] 44)).heap.size:=AX k6 (by simp);refine o.out (.slice (some ⟨a9.heap.size,0,none⟩) 1 1) _ (fun _ _=>a5.out _ (gb.An a0.out.Ct (.inr (by decide))) hd) ?_;clear o K;simp only[List.set_cons_succ,List.set_cons_zero];generalize a9.alloc (.cells #[.slice (some ⟨z.heap.size,0,none⟩) g.nn g.nn] 44)=ki at *;generalize a9.heap.size=iy at *;refine Jw 9 (by kernel_rfl) rfl rfl rfl (fun K o=>?_);refine Fv MC (.tmp 123) (.tmp 125) rfl (base:=t.heap.size) (n:=ZG.length) (m:=1) (N:=ZG.length+1) (v:=.slice Ag ZG.length cg) (src:=.slice (some ⟨iy,0,none⟩) 1 1) (xs:=ZG.map (·.1)) (news:=[.slice (some ⟨z.heap.size,0,none⟩) g.nn g.nn]) rfl rfl jc (Bc.An (c:=1) (cs:=[.slice (some ⟨z.heap.size,0,none⟩) g.nn g.nn]) jo rfl (by simp[Value.oneCell'])) rfl (by unfold maxLen;omega) (by omega) i0 ?_
               intro A9 c9 fk q1 C q3;have cy:=gb.trans (C.mono (AG _) (by simp));have he:Ah fk (l+1+1) 72 #[.slice (some ⟨l+1,0,none⟩) (g.nt+1) (g.nt+1)]:=C.An hd (.inr (by decide));have fv:=C.own j5 (.inr (by decide));have g6:=q1;have k7:t.heap.size<=fk.heap.size:=AX i0 C.size;clear q1 C q3;refine o.out _ _ (fun _ _=>a5.out _ (cy.An a0.out.Ct (.inr (by decide))) he) ?_;clear o K;simp only[List.set_cons_succ,List.set_cons_zero];have ht:=cy.An a0.out.Ct (.inr (by decide));have t3:=ht.cell 3
               have t4:=ht.cell 4;have f3:=ht.frozen 3;have f4:=ht.frozen 4;have tl:=ht.lt;simp at t3 t4;have bk:=Hd (a0.out.more di.out dk.out cy fv g6);clear ht cy he fv g6 k7;refine H6 11 (by kernel_rfl) rfl rfl (fun K o=>?_);go_simp;refine o.out _ _ (fun h=>absurd h (by decide)) ?_;clear o K;refine H6 12 (by kernel_rfl) rfl rfl (fun K o=>?_);go_simp;refine o.out _ _ (fun _ h=>h) ?_;clear o K;refine H6 13 (by kernel_rfl) rfl rfl (fun K o=>?_);go_simp;refine o.out _ _ (fun h=>absurd h (by decide)) ?_;clear o K;refine NP (by kernel_rfl) ?_ _
               go_wp2;have ek:((i+1:Nat):Int)=(i:Int)+1:=by omega
               exact Handed.intro (nL-(i+1)) (by omega) (HJ.out _ _ _ ⟨i+1,_,_,_,_,by omega,rfl,by rw[ek];rfl,bk⟩)
              ·
               refine Mb (Z:=fun j=>j==11||j==13) (S:=(fun(v:World)=>v.cell? ⟨T,3,none⟩=some (.slice Aa I.length ca)/\v.cell? ⟨T,4,none⟩=some (.slice Ag ZG.length cg)/\v.cell? ⟨l+1+1,0,none⟩=some (.slice (some ⟨l+1,0,none⟩) (g.nt+1) (g.nt+1)))) 8 (by rfl) (by rfl) (by rfl) (fun K o=>?_);go_simp;have gd:=e4.alloc (.cells #[.slice (some ⟨z.heap.size,0,none⟩) g.nn g.nn] 44);have hh:=eb.alloc (.cells #[.slice (some ⟨z.heap.size,0,none⟩) g.nn g.nn] 44);have j6:=AS fu (Ay ae (.cells #[.slice (some ⟨z.heap.size,0,none⟩) g.nn g.nn] 44));have jd:=AS g5 (Ay ae (.cells #[.slice (some ⟨z.heap.size,0,none⟩) g.nn g.nn] 44))
               have jq:Ah (ae.alloc (.cells #[.slice (some ⟨z.heap.size,0,none⟩) g.nn g.nn] 44)) ae.heap.size 44 #[.slice (some ⟨z.heap.size,0,none⟩) g.nn g.nn]:=Ah.new ae _ _;have jm:=gr.alloc (.cells #[.slice (some ⟨z.heap.size,0,none⟩) g.nn g.nn] 44);have i1:t.heap.size<=(ae.alloc (.cells #[.slice (some ⟨z.heap.size,0,none⟩) g.nn g.nn] 44)).heap.size:=AX ef (by simp);refine o.out (.slice (some ⟨ae.heap.size,0,none⟩) 1 1) _ (fun _ _=>a5.out _ (gd.An a0.out.Ct (.inr (by decide))) hh) ?_;clear o K;simp only[List.set_cons_succ,List.set_cons_zero];generalize ae.alloc (.cells #[.slice (some ⟨z.heap.size,0,none⟩) g.nn g.nn] 44)=kj at *
               generalize ae.heap.size=iz at *;refine Jw 4 (by kernel_rfl) rfl rfl rfl (fun K o=>?_);refine Fv NJ (.tmp 118) (.tmp 120) rfl (base:=t.heap.size) (n:=I.length) (m:=1) (N:=I.length+1) (v:=.slice Aa I.length ca) (src:=.slice (some ⟨fj,0,none⟩) 1 1) (xs:=I.map (·.1)) (news:=[.slice (some ⟨l+1,0,none⟩) (g.nt+1) (g.nt+1)]) rfl rfl j6 (Bc.An (c:=1) (cs:=[.slice (some ⟨l+1,0,none⟩) (g.nt+1) (g.nt+1)]) jm rfl (by simp[Value.oneCell'])) rfl (by unfold maxLen;omega) (by omega) i1 ?_;intro A4 c4 fl q1 C q3;have gf:=gd.trans (C.mono (AG _) (by simp))
               have hl:Ah fl (l+1+1) 72 #[.slice (some ⟨l+1,0,none⟩) (g.nt+1) (g.nt+1)]:=hh.grown q3.1 dq.out;have je:=C.own jd (.inr (by decide));have j7:=q1;have jr:=C.An jq (.inr (by decide));have i2:t.heap.size<=fl.heap.size:=AX i1 C.size;clear q1 C q3;refine o.out _ _ (fun _ _=>a5.out _ (gf.An a0.out.Ct (.inr (by decide))) hl) ?_;clear o K;simp only[List.set_cons_succ,List.set_cons_zero];refine LY 10 (v:=?vc10) rfl (by kernel_rfl) (by kernel_rfl) (by kernel_rfl) (fun _ _ _ h=>h) (Or.inl ⟨by rfl,?hc10⟩) rfl ?rc10
               case hc10=>
                intro w a1;try dsimp only at a1
                go_simp;try with_reducible rfl
               simp only[List.set_cons_succ,List.set_cons_zero];refine Jw 9 (by kernel_rfl) rfl rfl rfl (fun K o=>?_);refine Fv MC (.tmp 123) (.tmp 125) rfl (base:=t.heap.size) (n:=ZG.length) (m:=1) (N:=ZG.length+1) (v:=.slice Ag ZG.length cg) (src:=.slice (some ⟨iz,0,none⟩) 1 1) (xs:=ZG.map (·.1)) (news:=[.slice (some ⟨z.heap.size,0,none⟩) g.nn g.nn]) rfl rfl je (Bc.An (c:=1) (cs:=[.slice (some ⟨z.heap.size,0,none⟩) g.nn g.nn]) jr rfl (by simp[Value.oneCell'])) rfl (by unfold maxLen;omega) (by omega) i2 ?_;intro A9 c9 fm q1 C q3;have cz:=gf.trans (C.mono (AG _) (by simp))
               have hm:Ah fm (l+1+1) 72 #[.slice (some ⟨l+1,0,none⟩) (g.nt+1) (g.nt+1)]:=C.An hl (.inr (by decide));have fw:=C.own j7 (.inr (by decide));have g7:=q1;have k8:t.heap.size<=fm.heap.size:=AX i2 C.size;clear q1 C q3;refine o.out _ _ (fun _ _=>a5.out _ (cz.An a0.out.Ct (.inr (by decide))) hm) ?_;clear o K;simp only[List.set_cons_succ,List.set_cons_zero];have ht:=cz.An a0.out.Ct (.inr (by decide));have t3:=ht.cell 3;have t4:=ht.cell 4;have f3:=ht.frozen 3;have f4:=ht.frozen 4;have tl:=ht.lt;simp at t3 t4
               have bk:=Hd (a0.out.more di.out dk.out cz fw g7);clear ht cz hm fw g7 k8;refine H6 11 (by kernel_rfl) rfl rfl (fun K o=>?_);go_simp;refine o.out _ _ (fun h=>absurd h (by decide)) ?_;clear o K;refine H6 12 (by kernel_rfl) rfl rfl (fun K o=>?_);go_simp;refine o.out _ _ (fun _ h=>h) ?_;clear o K;refine H6 13 (by kernel_rfl) rfl rfl (fun K o=>?_);go_simp;refine o.out _ _ (fun h=>absurd h (by decide)) ?_;clear o K;refine NP (by kernel_rfl) ?_ _;go_wp2;have ek:((i+1:Nat):Int)=(i:Int)+1:=by omega
               exact Handed.intro (nL-(i+1)) (by omega) (HJ.out _ _ _ ⟨i+1,_,_,_,_,by omega,rfl,by rw[ek];rfl,bk⟩)
             ·
              refine Mb (Z:=fun j=>j==11||j==13) (S:=(fun(v:World)=>v.cell? ⟨T,3,none⟩=some (.slice Aa I.length ca)/\v.cell? ⟨T,4,none⟩=some (.slice Ag ZG.length cg)/\v.cell? ⟨l+1+1,0,none⟩=some (.slice (some ⟨l+1,0,none⟩) (g.nt+1) (g.nt+1)))) 8 (by rfl) (by rfl) (by rfl) (fun K o=>?_);go_simp;have gg:=g9.alloc (.cells #[.slice (some ⟨z.heap.size,0,none⟩) g.nn g.nn] 44);have ho:=h7.alloc (.cells #[.slice (some ⟨z.heap.size,0,none⟩) g.nn g.nn] 44);have j8:=AS ha0 (Ay d0 (.cells #[.slice (some ⟨z.heap.size,0,none⟩) g.nn g.nn] 44));have jf:=AS g4 (Ay d0 (.cells #[.slice (some ⟨z.heap.size,0,none⟩) g.nn g.nn] 44))
              have js:Ah (d0.alloc (.cells #[.slice (some ⟨z.heap.size,0,none⟩) g.nn g.nn] 44)) d0.heap.size 44 #[.slice (some ⟨z.heap.size,0,none⟩) g.nn g.nn]:=Ah.new d0 _ _;have k9:t.heap.size<=(d0.alloc (.cells #[.slice (some ⟨z.heap.size,0,none⟩) g.nn g.nn] 44)).heap.size:=AX bi (by simp);refine o.out (.slice (some ⟨d0.heap.size,0,none⟩) 1 1) _ (fun _ _=>a5.out _ (gg.An a0.out.Ct (.inr (by decide))) ho) ?_;clear o K;simp only[List.set_cons_succ,List.set_cons_zero];generalize d0.alloc (.cells #[.slice (some ⟨z.heap.size,0,none⟩) g.nn g.nn] 44)=af at *;generalize d0.heap.size=j0 at *
              refine Jw 3 (by kernel_rfl) rfl rfl rfl (fun K o=>?_);go_simp;have gh:=gg.alloc (.cells #[.slice (some ⟨l+1,0,none⟩) (g.nt+1) (g.nt+1)] 72);have hp:=ho.alloc (.cells #[.slice (some ⟨l+1,0,none⟩) (g.nt+1) (g.nt+1)] 72);have j9:=AS j8 (Ay af (.cells #[.slice (some ⟨l+1,0,none⟩) (g.nt+1) (g.nt+1)] 72));have jg:=AS jf (Ay af (.cells #[.slice (some ⟨l+1,0,none⟩) (g.nt+1) (g.nt+1)] 72));have jn:Ah (af.alloc (.cells #[.slice (some ⟨l+1,0,none⟩) (g.nt+1) (g.nt+1)] 72)) af.heap.size 72 #[.slice (some ⟨l+1,0,none⟩) (g.nt+1) (g.nt+1)]:=Ah.new af _ _
              have jt:=js.alloc (.cells #[.slice (some ⟨l+1,0,none⟩) (g.nt+1) (g.nt+1)] 72);have i3:t.heap.size<=(af.alloc (.cells #[.slice (some ⟨l+1,0,none⟩) (g.nt+1) (g.nt+1)] 72)).heap.size:=AX k9 (by simp);refine o.out (.slice (some ⟨af.heap.size,0,none⟩) 1 1) _ (fun _ _=>a5.out _ (gh.An a0.out.Ct (.inr (by decide))) hp) ?_;clear o K;simp only[List.set_cons_succ,List.set_cons_zero];generalize af.alloc (.cells #[.slice (some ⟨l+1,0,none⟩) (g.nt+1) (g.nt+1)] 72)=km at *;generalize af.heap.size=ix at *;refine Jw 4 (by kernel_rfl) rfl rfl rfl (fun K o=>?_)
              refine Fv NJ (.tmp 118) (.tmp 120) rfl (base:=t.heap.size) (n:=I.length) (m:=1) (N:=I.length+1) (v:=.slice Aa I.length ca) (src:=.slice (some ⟨ix,0,none⟩) 1 1) (xs:=I.map (·.1)) (news:=[.slice (some ⟨l+1,0,none⟩) (g.nt+1) (g.nt+1)]) rfl rfl j9 (Bc.An (c:=1) (cs:=[.slice (some ⟨l+1,0,none⟩) (g.nt+1) (g.nt+1)]) jn rfl (by simp[Value.oneCell'])) rfl (by unfold maxLen;omega) (by omega) i3 ?_;intro A4 c4 fo q1 C q3;have gi:=gh.trans (C.mono (AG _) (by simp));have hq:Ah fo (l+1+1) 72 #[.slice (some ⟨l+1,0,none⟩) (g.nt+1) (g.nt+1)]:=hp.grown q3.1 dq.out
              have jh:=C.own jg (.inr (by decide));have ja:=q1;have ju:=C.An jt (.inr (by decide));have i4:t.heap.size<=fo.heap.size:=AX i3 C.size;clear q1 C q3;refine o.out _ _ (fun _ _=>a5.out _ (gi.An a0.out.Ct (.inr (by decide))) hq) ?_;clear o K;simp only[List.set_cons_succ,List.set_cons_zero];refine LY 10 (v:=?vd10) rfl (by kernel_rfl) (by kernel_rfl) (by kernel_rfl) (fun _ _ _ h=>h) (Or.inl ⟨by rfl,?hd10⟩) rfl ?rd10
              case hd10=>
               intro w a1;try dsimp only at a1
               go_simp;try with_reducible rfl
              simp only[List.set_cons_succ,List.set_cons_zero];refine Jw 9 (by kernel_rfl) rfl rfl rfl (fun K o=>?_);refine Fv MC (.tmp 123) (.tmp 125) rfl (base:=t.heap.size) (n:=ZG.length) (m:=1) (N:=ZG.length+1) (v:=.slice Ag ZG.length cg) (src:=.slice (some ⟨j0,0,none⟩) 1 1) (xs:=ZG.map (·.1)) (news:=[.slice (some ⟨z.heap.size,0,none⟩) g.nn g.nn]) rfl rfl jh (Bc.An (c:=1) (cs:=[.slice (some ⟨z.heap.size,0,none⟩) g.nn g.nn]) ju rfl (by simp[Value.oneCell'])) rfl (by unfold maxLen;omega) (by omega) i4 ?_;intro A9 c9 fp q1 C q3;have d1:=gi.trans (C.mono (AG _) (by simp))
              have hu:Ah fp (l+1+1) 72 #[.slice (some ⟨l+1,0,none⟩) (g.nt+1) (g.nt+1)]:=C.An hq (.inr (by decide));have fx:=C.own ja (.inr (by decide));have g8:=q1;have ka:t.heap.size<=fp.heap.size:=AX i4 C.size;clear q1 C q3;refine o.out _ _ (fun _ _=>a5.out _ (d1.An a0.out.Ct (.inr (by decide))) hu) ?_;clear o K;simp only[List.set_cons_succ,List.set_cons_zero];have ht:=d1.An a0.out.Ct (.inr (by decide));have t3:=ht.cell 3;have t4:=ht.cell 4;have f3:=ht.frozen 3;have f4:=ht.frozen 4;have tl:=ht.lt;simp at t3 t4;have bk:=Hd (a0.out.more di.out dk.out d1 fx g8)
              clear ht d1 hu fx g8 ka;refine H6 11 (by kernel_rfl) rfl rfl (fun K o=>?_);go_simp;refine o.out _ _ (fun h=>absurd h (by decide)) ?_;clear o K;refine H6 12 (by kernel_rfl) rfl rfl (fun K o=>?_);go_simp;refine o.out _ _ (fun _ h=>h) ?_;clear o K;refine H6 13 (by kernel_rfl) rfl rfl (fun K o=>?_);go_simp;refine o.out _ _ (fun h=>absurd h (by decide)) ?_;clear o K;refine NP (by kernel_rfl) ?_ _;go_wp2;have ek:((i+1:Nat):Int)=(i:Int)+1:=by omega
              exact Handed.intro (nL-(i+1)) (by omega) (HJ.out _ _ _ ⟨i+1,_,_,_,_,by omega,rfl,by rw[ek];rfl,bk⟩)
     ·obtain rfl:i=nL:=by omega
      have e9:=Cv R.out.Jj;have ea:=Cv R.out.goto;obtain⟨Aa,ca,rfl⟩:=e9;obtain⟨Ag,cg,rfl⟩:=ea;have t0:=Ah.cell R.out.Ct 0;have t1:=Ah.cell R.out.Ct 1;have t2:=Ah.cell R.out.Ct 2;have t3:=Ah.cell R.out.Ct 3;have t4:=Ah.cell R.out.Ct 4;have a3:=R.out.Aw.An fc.out (by have:=a4.out;omega);have r0:=Ah.cell a3 0;have r1:=Ah.cell a3 1;have r2:=Ah.cell a3 2;have r3:=Ah.cell a3 3;have r4:=Ah.cell a3 4;have q0:=Ah.frozen a3 0;have q1:=Ah.frozen a3 1;have C:=Ah.frozen a3 2;have q3:=Ah.frozen a3 3;have q4:=Ah.frozen a3 4;have rl:=a3.lt
      simp at t0 t1 t2 t3 t4 r0 r1 r2 r3 r4;have fd:=Hd a3;clear a3;go_wp2;have j2:i=E.length:=by have:=bl.out.1;omega
      have gw:=R.out;rw[j2]at gw;have k0:w.heap.size+1<t.heap.size:=fc.out.lt;have hdone:=gw.done ip.out (by have:=bl.out.2;omega) jw jv k0 R.out.lt;have bc:=((((((Aj.refl (·=w.heap.size+1) y).set (p:=⟨w.heap.size+1,0,none⟩) (.inr rfl) (.slice ab (g.R.length+1) ad)).set (p:=⟨w.heap.size+1,1,none⟩) (.inr rfl) (.int .i64 g.nt)).set (p:=⟨w.heap.size+1,2,none⟩) (.inr rfl) (.int .i64 g.nn)).set (p:=⟨w.heap.size+1,3,none⟩) (.inr rfl) (.slice Aa I.length ca)).set (p:=⟨w.heap.size+1,4,none⟩) (.inr rfl) (.slice Ag ZG.length cg))
      have cw:=((((fd.out.Bn 0 (.slice ab (g.R.length+1) ad)).Bn 1 (.int .i64 g.nt)).Bn 2 (.int .i64 g.nn)).Bn 3 (.slice Aa I.length ca)).Bn 4 (.slice Ag ZG.length cg);have k5:y.heap[w.heap.size+1]?≠some (.deferred (some [])):=fun h=>by have P:=fd.out;unfold Ah at P;rw[h]at P;cases P
      generalize (((((y.setCell {block:=w.heap.size+1,off:=0} (Value.slice ab (g.R.length+1) ad)).setCell {block:=w.heap.size+1,off:=1} (Value.int IntKind.i64 ↑g.nt)).setCell {block:=w.heap.size+1,off:=2} (Value.int IntKind.i64 ↑g.nn)).setCell {block:=w.heap.size+1,off:=3} (Value.slice Aa I.length ca)).setCell {block:=w.heap.size+1,off:=4} (Value.slice Ag ZG.length cg))=W9 at *;simp at cw;refine Rg (B:=t.heap.size) (R.out.marks.Aw bc (fun D _ hx e=>k5 (by rw[<-e];exact hx))) (fun w9 cx=>?_);have a2:=cx.An cw (fun h=>by have:=h.1;omega);have z0:=Ah.cell a2 0;have z1:=Ah.cell a2 1
      have z2:=Ah.cell a2 2;have z3:=Ah.cell a2 3;have z4:=Ah.cell a2 4;simp at z0 z1 z2 z3 z4;refine⟨.tuple #[.agg #[.slice ab (g.R.length+1) ad,.int .i64 g.nt,.int .i64 g.nn,.slice Aa I.length ca,.slice Ag ZG.length cg],.int .i64 0],?_,_,rfl,?_,?_⟩
      · rw[results_cell_tmp rfl]
        go_simp
      · refine((hdone.Aw bc (fun b hb=>hb.1.2.2)).Aw cx (fun b hb h=>hb.2 ⟨h.1,?_⟩)).mono (fun b hb=>?_)
        · rw[<-bc.block b hb.1.1 hb.1.2.2]
          exact h.2
        · exact A0 (A0 hb.1.1 bc.size) cx.size
      · have p:=ei.out
        have P:=a7.out.mono p.size;have U:=a4.out;have h4:Below w.heap.size t y:=R.out.Aw.below (AX p.size a7.out.size) (fun j hj e=>by omega);have h5:Below w.heap.size y W9:=bc.below (AX (AX p.size a7.out.size) R.out.Aw.size) (fun j hj e=>by omega);have h6:Below w.heap.size W9 w9:=cx.below (AX (AX (AX p.size a7.out.size) R.out.Aw.size) bc.size) (fun j hj e=>by have:=e.1;omega);exact(((p.trans P).trans h4).trans h5).trans h6
end
def NG(i j:Nat)(x:It):Prop:=(x.1=0/\x.2=0)\/(x.1=3/\x.2=0)\/(x.1=1/\x.2<i)\/(x.1=2/\x.2<j)
instance(nA nR:Nat)(x:It):Decidable (NG nA nR x):=by unfold NG;infer_instance
theorem Fl.open_{A:Nat->Prop}{w:World}{v:Value}{g:Gz}{E:List (List It)}{K:List (List (Nat×Nat))}(h:Fl A w v g E K):∃P cr I T J U,v=.agg #[.slice P (g.R.length+1) cr,.int .i64 g.nt,.int .i64 g.nn,.slice I E.length T,.slice J E.length U] /\
  (∀k,k<=g.R.length->∃b off rv,P=some ⟨b,off,none⟩/\b<w.heap.size/\A b/\w.cell? ⟨b,off+k*2,none⟩=some (.int .i64 ((g.Cf k).1:Nat))/\w.cell? ⟨b,off+k*2+1,none⟩=some rv/\B0 A w rv (g.right k)) /\
  (∀i,i<E.length->∃b off l o,I=some ⟨b,off,none⟩/\b<w.heap.size/\A b/\w.cell? ⟨b,off+i,none⟩=some (.slice l (g.nt+1) o)/\D5 A w (.slice l (g.nt+1) o) (EI g E K i)) /\
  (∀i,i<E.length->∃b off l o,J=some ⟨b,off,none⟩/\b<w.heap.size/\A b/\w.cell? ⟨b,off+i,none⟩=some (.slice l g.nn o)/\Hu A w (.slice l g.nn o) (E8 g E i)):=by
 obtain⟨rv,av,gv,rfl,⟨P,cr,rfl,-,-,hr⟩,⟨I,T,rfl,-,-,ha⟩,⟨J,U,rfl,-,-,hg⟩⟩:=h;refine⟨P,cr,I,T,J,U,rfl,fun k hk=>?_,fun i hi=>?_,fun i hi=>?_⟩
 ·obtain⟨b,off,e,t,C,p⟩:=hr k (by omega)
  obtain⟨R,h0,j⟩:=p 0 (by omega);obtain⟨x1,h1,e1⟩:=p 1 (by omega);rw[if_pos rfl]at j;rw[if_neg (by omega)]at e1;exact⟨b,off,x1,e,C,t,by rw[<-Nat.add_zero (off+k*2),h0,j],h1,e1⟩
 ·obtain⟨b,off,e,t,C,p⟩:=ha i hi
  obtain⟨R,h0,j⟩:=p 0 (by omega);have j:D5 A w R (EI g E K i):=j;obtain⟨l,o,rfl,-⟩:=j.form;rw[Nat.mul_one,Nat.add_zero]at h0;have hl:(EI g E K i).length=g.nt+1:=by simp[EI]
  rw[hl]at h0 j;exact⟨b,off,l,o,e,C,t,h0,j⟩
 ·obtain⟨b,off,e,t,C,p⟩:=hg i hi
  obtain⟨R,h0,j⟩:=p 0 (by omega);have j:Hu A w R (E8 g E i):=j;obtain⟨l,o,rfl,-,-,-⟩:=id j;rw[Nat.mul_one,Nat.add_zero]at h0;have hl:(E8 g E i).length=g.nn:=by simp[E8]
  rw[hl]at h0 j;exact⟨b,off,l,o,e,C,t,h0,j⟩
section
set_option maxRecDepth 1000000
theorem WI:((List.range Ce.length).all fun i=>(List.range (pz.nt+1)).all fun t=>decide ((pz.JD (Ce.getD i []) (G7.getD i []) t).length<=1))=true:=by decide +kernel
theorem Qf:Calm pz Ce G7:=fun i t j l=>by have h:=List.all_eq_true.1 (List.all_eq_true.1 WI i (List.mem_range.2 j)) t (List.mem_range.2 (by omega));exact of_decide_eq_true h
theorem iK:((List.range Ce.length).all fun i=>(EI pz Ce G7 i).all fun x=>decide (NG Ce.length pz.R.length x))=true:=by decide +kernel
theorem iG:((List.range Ce.length).all fun i=>(E8 pz Ce i).all fun x=>decide (-1<=x)&&decide (x<(Ce.length:Int)))=true:=by decide +kernel
end
end Go.Proofs.YthaacmablcpdfaaGreatDoor
