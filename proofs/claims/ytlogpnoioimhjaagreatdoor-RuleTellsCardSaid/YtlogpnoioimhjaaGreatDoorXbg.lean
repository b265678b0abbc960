/- What a terminal would come to. -/
import Derived.Test.YtlogpnoioimhjaaGreatDoorXbf
set_option linter.all false
set_option maxRecDepth 100000
set_option maxHeartbeats 16000000
namespace Go.Proofs.YtlogpnoioimhjaaGreatDoor
open Go.RowKit
variable{w w':World}{f rb steps t tb:Nat}{nv v:Value}{l r:List Nat}{E:List (List It)}{T:List (Nd×Value)}{ov:Bool}{L:List TypeId}
def Fx.use(h:Fx w tb):∃U nT cT R nN cN T nR cR gs i p J j C ca l I o,Ah w tb 84 #[.slice U nT cT,.slice R nN cN,.slice T nR cR,.int .i64 gs,.slice i (pz.R.length+1) p,.int .i64 (pz.nt:Nat),.int .i64 J,.slice j C ca,.slice l I o] /\
  (∀y,Below w w y->∀s t:Nat,s<AQ.length->t<=pz.nt->() 73 #[.agg #[.slice i (pz.R.length+1) p,.int .i64 (pz.nt:Nat),.int .i64 J,.slice j C ca,.slice l I o],.int .i64 s,.int .i64 t] y fun e w'=>e=.returned (.agg #[.int .i64 (AZ pz AQ Bs s t).1,.int .i64 (AZ pz AQ Bs s t).2])/\Below y y w') /\
  (∀y,Below w w y->∀u k q:Nat,k<pz.R.length->FM AQ u (pz.Bo k).1=some q->u<AQ.length->() 75 #[.agg #[.slice i (pz.R.length+1) p,.int .i64 (pz.nt:Nat),.int .i64 J,.slice j C ca,.slice l I o],.int .i64 u,.int .i64 (pz.Bo k).1] y fun e w'=>e=.returned (.int .i64 q)/\Below y y w') /\
  (∀k,k<pz.R.length->∃b off Av c,i=some ⟨b,off,none⟩/\b<w.heap.size/\w.cell? ⟨b,off+k*2,none⟩=some (.int .i64 ((pz.Bo k).1:Nat))/\w.cell? ⟨b,off+k*2+1,none⟩=some (.slice Av (pz.right k).length c)):=by
 obtain⟨U,nT,cT,R,nN,cN,T,nR,cR,gs,i,nr,p,nt,J,j,C,ca,l,I,o,h1,h2,h3⟩:=h;obtain⟨a4,a7,a2,a5,a3,a6,e,hr,-,-⟩:=h3.open_;have e2:=Value.agg.inj e;simp only[Array.mk.injEq,List.cons.injEq,Value.slice.injEq,Value.int.injEq,and_true,true_and]at e2;obtain⟨⟨rfl,rfl,rfl⟩,rfl,-⟩:=e2;have a0:=h2.gn.fit;refine⟨U,nT,cT,R,nN,cN,T,nR,cR,gs,i,p,J,j,C,ca,l,I,o,h1,fun y hy s t hs ht=>aH (h3.MJ hy) hs ht,fun y hy u k q hk P hu=>?_,fun k hk=>?_⟩
 ·have hl:=a0.left (pz.Bo k) (by
   unfold Gz.Bo;rw[if_neg (by omega),dG,eG hk];exact List.getElem_mem hk)
  refine(bO (h3.MJ hy) hu hl.1 hl.2 (by have:=a0.nt;omega) (by have:=a0.nn;omega)).mono ?_;rintro e w' ⟨rfl,hb⟩;unfold FM at P;split at P
  ·rename_i hh
   cases P
   exact⟨by rw[Int.toNat_of_nonneg hh.1],hb⟩
  ·cases P
 ·obtain⟨b,off,rv,e,a1,-,c0,c1,hn,-⟩:=hr k (by omega)
  obtain⟨⟨A,c,rfl,-⟩,-,-⟩:=hn;exact⟨b,off,A,c,e,a1,c0,c1⟩
def Ed(w:World)(v:Value)(l:List Nat):Prop:=(v=.slice none 0 0/\l=[])\/∃b c,v=.slice (some ⟨b,0,none⟩) l.length c/\l.length<=c/\b<w.heap.size/\∀k x,l[k]?=some x->w.cell? ⟨b,k,none⟩=some (AV x)
def Ed.later(h:Ed w v l)(j:Below w w w'):Ed w' v l:=by
 rcases h with h|⟨b,c,rfl,o,i,p⟩
 ·exact .inl h
 ·exact .inr ⟨b,c,rfl,o,Ba i j.size,fun k x t=>(j.cell (p:=⟨b,k,none⟩) i).trans (p k x t)⟩
def Ha.later(h:Ha w v l)(j:Below w w w'):Ha w' v l:=by
 rcases h with h|⟨b,rfl,i,o⟩
 ·exact .inl h
 ·exact .inr ⟨b,rfl,Ba i j.size,fun k x p=>(j.cell (p:=⟨b,k,none⟩) i).trans (o k x p)⟩
def Ed.own{B n:Nat}(h:w.ownsRow B 3 1 v n (l.map AV))(p:l.length=n):Ed w v l:=by
 subst p;rcases Bi h with⟨rfl,h0⟩|⟨b,c,rfl,t,j,o,_⟩
 ·exact .inl ⟨rfl,List.eq_nil_of_length_eq_zero h0⟩
 ·refine .inr ⟨b,c,rfl,o,j,fun k x i=>?_⟩
  have C:=(sG.1 i).1;rw[Bh h k (by omega),pG,i];rfl
def Ed.cut{b n c:Nat}(h:Ed w (.slice (b,0) n c) l){m:Nat}(J:m<=l.length):Ha w (.slice (b,0) m m) (l.take m):=by
 rcases h with⟨e,-⟩|⟨t,C,e,I,j,o⟩
 ·cases e
 ·cases e
  have p:(l.take m).length=m:=by rw[List.length_take];omega
  refine .inr ⟨b,by rw[p],j,fun k x i=>?_⟩;rw[List.getElem?_take]at i;split at i
  ·exact o k x i
  ·cases i
def RE{s:Nat}(h:l.reverse=s::r):0<l.length/\l[l.length-1]?=some s:=by
 have j:=congrArg List.length h;rw[List.length_reverse,List.length_cons]at j;refine⟨by omega,?_⟩;have i:l.reverse[0]?=some s:=by rw[h];rfl
 rw[List.getElem?_reverse (by omega)]at i;rw[show l.length-1=l.length-1-0 by omega];exact i
def ZW{g:Gz}{K:List (List (Nat×Nat))}{s:Nat}{a:It}(h:Fh g E K t (f+1) (s::r)=some a) :
  ((AZ g E K s t).1≠2/\AZ g E K s t=a)\/((AZ g E K s t).1=2/\(AZ g E K s t).2<g.R.length/\(s::r).length<=10000/\∃u i q,(s::r).drop (g.right (AZ g E K s t).2).length=u::i/\FM E u (g.Bo (AZ g E K s t).2).1=some q/\Fh g E K t f (q::u::i)=some a):=by
 unfold Fh at h;split at h
 ·rename_i j
  right;split at h
  ·rename_i o
   refine⟨j,o.1,o.2,?_⟩;cases p:(s::r).drop (g.right (AZ g E K s t).2).length with
   | nil=>rw[p]at h;cases h
   | cons u i=>
    rw[p]at h;simp only at h;cases l:FM E u (g.Bo (AZ g E K s t).2).1 with
    | none=>rw[l]at h;cases h
    | some q=>rw[l]at h;exact⟨u,i,q,rfl,l,h⟩
  ·cases h
 ·rename_i j
  exact .inl ⟨j,Option.some.inj h⟩
def Qt{u A q:Nat}(h:FM E u A=some q):q<E.length:=by
 unfold FM at h;split at h
 ·rename_i i
  cases h
  omega
 ·cases h
def iF{w0:World}{eb:Nat}{st ns:List Nat}{sv:Value}(h:Cw w0 w eb tb rb st ns T ov steps sv nv)(h0:0<st.length){a:It}(ht:t<=pz.nt)(hl:Fh pz AQ Bs t f st=some a)(bq:∀s∈st,s<AQ.length) :
  () 71 #[(eb,0),t] w fun e w'=>e=.returned (.agg #[a.1,a.2])/\Below w w w':=by
 have ck:=h.B7.1;have hS:Ed w sv st.reverse:=Ed.own h.G5 (by simp);obtain⟨bs,cs,cv,cj,aw,bp⟩:∃b c,sv=.slice (some ⟨b,0,none⟩) st.length c/\st.length<=c/\b<w.heap.size/\∀k x,st.reverse[k]?=some x->w.cell? ⟨b,k,none⟩=some (AV x):=by
  rcases hS with⟨-,i⟩|⟨b,c,i,j,U,h4⟩
  ·have:=congrArg List.length i
   rw[List.length_reverse,List.length_nil]at this;omega
  ·rw[List.length_reverse]at i j
   exact⟨b,c,i,j,U,h4⟩
 subst cv;obtain⟨AT,nT,cT,AN,nN,cN,AR,nR,cR,gs,Ar,cr,nn,Aa,na,ca,Ag,ng,cg,hT,hA,hG,hR⟩:=(h.GL.later h.base).use;have hE:=h.box;have aa:Hid (∀y,Below w w y->(y.cell? (eb,0)=some (.pointer (tb,0))/\y.cell? (eb,1)=some (.slice (bs,0) st.length cs)/\eb<y.heap.size)/\(y.cell? (tb,4)=some (.slice Ar (pz.R.length+1) cr)/\y.cell? (tb,5)=some (.int .i64 (pz.nt:Nat))/\y.cell? (tb,6)=some (.int .i64 nn)/\y.cell? (tb,7)=some (.slice Aa na ca)/\y.cell? (tb,8)=some (.slice Ag ng cg)/\tb<y.heap.size)):=Hd (fun y o=>by have e1:=hE.below o hE.lt;have e2:=hT.below o hT.lt;exact⟨⟨e1.cell 0,e1.cell 1,e1.lt⟩,e2.cell 4,e2.cell 5,e2.cell 6,e2.cell 7,e2.cell 8,e2.lt⟩)
 have bd:Hid (∀y,Below w w y->∀k x:Nat,st.reverse[k]?=some x->y.cell? ⟨bs,k,none⟩=some (.int .i64 x)/\bs<y.heap.size):=Hd (fun y o k x hx=>⟨(o.cell (p:=⟨bs,k,none⟩) aw).trans (bp k x hx),Ba aw o.size⟩);have cf:Hid (∀k,k<pz.R.length->∃b off Av c,Ar=some ⟨b,off,none⟩/\∀y,Below w w y->b<y.heap.size/\y.cell? ⟨b,off+k*2,none⟩=some (.int .i64 ((pz.Bo k).1:Nat))/\y.cell? ⟨b,off+k*2+1,none⟩=some (.slice Av (pz.right k).length c)):=Hd (fun k hk=>by obtain⟨b,off,Av,c,e,b1,c0,c1⟩:=hR k hk;exact⟨b,off,Av,c,e,fun y o=>⟨Ba b1 o.size,(o.cell (p:=⟨b,off+k*2,none⟩) b1).trans c0,(o.cell (p:=⟨b,off+k*2+1,none⟩) b1).trans c1⟩⟩)
 have HA:=Hd hA;have HG:=Hd hG;have ak:=Hd (AG w (.cells #[.int .i64 0,.int .i64 0] 106));have b8:=Hd (Ah.new w 106 #[.int .i64 0,.int .i64 0]);have be:=Hd bq;have c6:=Hd hl;obtain⟨n,hn⟩:∃n,st.length=n:=⟨_,rfl⟩
 rw[hn]at aa cj h0 ck;have HN:=Hd hn;clear h hS aw bp hT hA hG hR hE bq hl hn;generalize pz.nt=nt at *;generalize bm:pz.R.length=nr at *;have c8:=Hd bm;clear bm;go_enter Tryz.func71,Tryz.ntmps71
 obtain⟨⟨e0,e1,el⟩,t4,t5,t6,t7,t8,tl⟩:=aa _ ak;go_wp2_with fail
 clear e0 e1 el t4 t5 t6 t7 t8 tl;generalize w.alloc (.cells #[.int .i64 0,.int .i64 0] 106)=W1 at *;go_loopg [5,6] f (fun k bv uv wr=>∃(m:Nat) (up:List Nat),bv=.int .i64 m/\Hid (0<m/\m<=n)/\Hid (Ed wr uv up)/\Hid (Below W1 W1 wr)/\Hid (Fh pz AQ Bs t k (up.reverse++st.drop (n-m))=some a)/\Hid ((∀s∈up,s<AQ.length)/\up.length<=20000))
 case atStart=>exact⟨n,[],rfl,Hd ⟨h0,AF _⟩,Hd (.inl ⟨rfl,rfl⟩),Hd (Below.refl _ _),by simpa using c6,Hd ⟨by simp,by decide⟩⟩
 case round=>
  obtain⟨m,up,rfl,HM,HU,HB,HL,HP⟩:=hrel;rename World=>w2
  have a6:=HL.out;obtain⟨k',ay⟩:∃k',gk=k'+1:=by
   cases gk with
   | zero=>unfold Fh at a6;cases a6
   | succ k'=>exact⟨k',rfl⟩
  rw[ay]at a6;have HK:=Hd ay;have ae:Below w w w2:=ak.trans (HB.mono ak.size);obtain⟨⟨e0,e1,el⟩,t4,t5,t6,t7,t8,tl⟩:=aa w2 ae;have hm:=HM.out;have dd:=hm.2;have d7:=hm.1;obtain⟨s,V,hV⟩:∃s V,up.reverse++st.drop (n-m)=s::V:=by
   cases hc:up.reverse++st.drop (n-m) with
   | nil=>have i:=congrArg List.length hc;rw[B8,List.length_drop,HN.out,List.length_nil]at i;omega
   | cons s V=>exact⟨s,V,rfl⟩
  rw[hV]at a6;have HV:=Hd hV;have b0:=ZW a6;rw[c8.out]at b0;have c7:=Hd b0;clear b0;have b4:s<AQ.length:=by
   have i:s∈up.reverse++st.drop (n-m):=by rw[hV];simp
   rcases mA.1 i with i|i
   ·exact HP.1 s (by simpa using i)
   ·exact be s (List.mem_of_mem_drop i)
  have d0:=Hd b4;have ba:=Hd (fun(y:World) (o:Below w2 w2 y)=>HA y (ae.trans (o.mono ae.size)) s t b4 ht);have a9:=Hd ae;obtain⟨ul,af⟩:∃k,up.length=k:=⟨_,rfl⟩
  have a1:=Hd af;obtain⟨Au,cu,cz⟩:∃A c,u6=.slice A ul c:=by
   rcases HU.out with⟨i,j⟩|⟨b,c,i,-⟩
   ·subst j;subst af;exact⟨none,0,i⟩
   ·exact⟨_,c,by rw[i,af]⟩
  subst cz;have cy:=HP.2;rw[af]at cy;have d8:(0:Int)<(m:Int):=by omega
  have db:(m:Int)<=(n:Int):=by omega
  clear ay hV a6 b4 ae af hm
  go_upto_if 19 with fail
  go_cut [7] (fun v wx=>v=.int .i64 s/\wx=w2)
  case first=>
   cases p:up.reverse with
   | nil=>
    have i:up=[]:=by simpa using p
    have j:ul=0:=by rw[<-a1.out,i];rfl
    subst j;have U:st.reverse[m-1]?=some s:=by have J:=HV.out;rw[p,List.nil_append]at J;rw[List.getElem?_reverse (by rw[HN.out];omega),HN.out,show n-1-(m-1)=n-m+0 by omega,<-List.getElem?_drop,J];rfl
    obtain⟨c0,cl⟩:=bd w2 a9 (m-1) s U;have dc:((m-1:Nat):Int)=(m:Int)-1:=by omega
    have cq:((m:Int)-1).toNat=m-1:=by omega
    clear p i U;go_wp2_with fail
    go_meet
    exact⟨rfl,rfl⟩
   | cons s' r=>
    have J:=HV.out;rw[p]at J;obtain⟨rfl,-⟩:=List.cons.inj J;obtain⟨i,j⟩:=RE p;rw[a1.out]at i j;obtain⟨b,c,e,U,h4,h5⟩:∃b c,Value.slice Au ul cu=.slice (some ⟨b,0,none⟩) up.length c/\up.length<=c/\b<w2.heap.size/\∀k x,up[k]?=some x->w2.cell? ⟨b,k,none⟩=some (AV x):=by
     rcases HU.out with⟨-,i⟩|h
     ·rw[i]at p;cases p
     ·exact h
    simp only[Value.slice.injEq]at e;obtain⟨rfl,-,rfl⟩:=e;have c0:w2.cell? ⟨b,ul-1,none⟩=some (.int .i64 s'):=h5 _ _ j;have cx:(0:Int)<(ul:Int):=by omega
    have bt:((ul:Int)-1).toNat=ul-1:=by omega
    clear p J j U h5;go_wp2_with fail
    go_meet
    exact⟨rfl,rfl⟩
  case rest=>
   obtain⟨rfl,rfl⟩:=hcut;have aj:=b8.below HB b8.lt;have b9:=Hd (fun(y:World) (o:Below wc wc y)=>aj.below o aj.lt);rcases c7.out with⟨ct,ax⟩|⟨j,hk,d6,u,r2,q,hd,hq,bo⟩
   ·have HX:Hid (() 73 #[.agg #[.slice Ar (nr+1) cr,nt,nn,.slice Aa na ca,.slice Ag ng cg],.int .i64 s,t] wc fun e w'=>e=.returned (.agg #[a.1,a.2])/\Below wc wc w'):=Hd (by have h:=ba wc (Below.refl _ _);rwa [ax]at h)
    rw[ax]at ct;have de:¬((a.1:Int)=2):=by omega
    clear ax aj;go_wp2_with (
           go_at_call 73;refine HX.mono ?_;rintro e w3 ⟨rfl,a3⟩
           have a7:=Hd a3;have a2:=b9 w3 a3;have y0:=Ah.cell a2 0;have y1:=Ah.cell a2 1;have f0:=Ah.frozen a2 0;have f1:=Ah.frozen a2 1;have yl:=a2.lt;simp at y0 y1;clear a3 a2)
    have bk:Ah (((w3.setCell (w,0) a.1).setCell (w,1) a.2).alloc (.cells #[a.1,a.2] 106)) w.heap.size 106 #[a.1,a.2]:=by have h:=(((b9 w3 a7).Be 0 a.1).Be 1 a.2).alloc (.cells #[a.1,a.2] 106);simpa using h
    have z0:=Ah.cell bk 0;have z1:=Ah.cell bk 1;simp only[List.getElem?_toArray,List.getElem?_cons_zero,List.getElem?_cons_succ]at z0 z1;refine bodyPost_ret (v:=.agg #[a.1,a.2]) (by simp[results,Tryz.f71,go_sem,z0,z1]) rfl ?_;refine⟨rfl,?_⟩;have i:Below w w w3:=a9.trans (a7.mono a9.size);exact((i.setCell (p:=⟨w.heap.size,0,none⟩) (AF _) _).setCell (p:=⟨w.heap.size,1,none⟩) (AF _) _).alloc (by simpa [World.setCell] using i.size) _
   ·obtain⟨I,az⟩:∃k,(AZ pz AQ Bs s t).2=k:=⟨_,rfl⟩
    rw[az]at hk hd hq;have HX:Hid (() 73 #[.agg #[.slice Ar (nr+1) cr,nt,nn,.slice Aa na ca,.slice Ag ng cg],.int .i64 s,t] wc fun e w'=>e=.returned (.agg #[.int .i64 2,I])/\Below wc wc w'):=Hd (by have h:=ba wc (Below.refl _ _);rw[j,az]at h;exact h);have br:u<AQ.length:=by
     have i:u∈s::V:=List.mem_of_mem_drop (by rw[hd];simp);rw[<-HV.out]at i;rcases mA.1 i with i|i
     ·exact HP.1 u (by simpa using i)
     ·exact be u (List.mem_of_mem_drop i)
    have bx:=Hd (fun(y:World) (o:Below w w y)=>HG y o u I q hk hq br);obtain⟨b,off,Av,c,rfl,bn⟩:=cf I hk;have bc:=Hd bn;obtain⟨l,bl⟩:∃k,(pz.right I).length=k:=⟨_,rfl⟩
    rw[bl]at hd bc;generalize (pz.Bo I).1=lf at *;have HD:=Hd hd;have cb:=Hd (Qt hq);have cd:=Hd bo;have d3:(I:Int)<(nr:Int):=by omega
    have d4:(I:Int)<(nr:Int)+1:=by omega
    clear bl hd hq bo br bn j az aj;go_upto_region 10 with(go_at_call 73;refine HX.mono ?_;rintro e w3 ⟨rfl,a3⟩;have a7:=Hd a3;clear a3)
    have b7:=Hd (Ah.new w3 106 #[.int .i64 2,I]);have ag:=Hd (a7.alloc a7.size (.cells #[.int .i64 2,I] 106));generalize w3.alloc (.cells #[.int .i64 2,I] 106)=R at *;generalize w3.heap.size=a4 at *;clear e0 e1 el t4 t5 t6 t7 t8 tl;have ai:=Hd (a9.trans (ag.mono a9.size));have bf:Hid (∀y,Below R R y->(y.cell? (eb,0)=some (.pointer (tb,0))/\eb<y.heap.size)/\(y.cell? (tb,4)=some (.slice (some ⟨b,off,none⟩) (nr+1) cr)/\tb<y.heap.size)/\(y.cell? (a4,1)=some (.int .i64 I)/\a4<y.heap.size)/\b<y.heap.size/\y.cell? ⟨b,off+I*2,none⟩=some (.int .i64 lf)/\y.cell? ⟨b,off+I*2+1,none⟩=some (.slice Av l c)):=Hd (fun y o=>by
     have i:Below w w y:=ai.trans (o.mono ai.size);obtain⟨⟨q1,q2,q3⟩,q4,q5,q6,q7,q8,q9⟩:=aa y i;obtain⟨r1,r2,r3⟩:=bc y i;have j:=b7.below o b7.lt;exact⟨⟨q1,q3⟩,⟨q4,q9⟩,⟨j.cell 1,j.lt⟩,r1,r2,r3⟩)
    go_region_held3 (fun y=>(y.cell? (eb,0)=some (.pointer (tb,0))/\eb<y.heap.size)/\(y.cell? (tb,4)=some (.slice (some ⟨b,off,none⟩) (nr+1) cr)/\tb<y.heap.size)/\(y.cell? (a4,1)=some (.int .i64 I)/\a4<y.heap.size)/\b<y.heap.size/\y.cell? ⟨b,off+I*2,none⟩=some (.int .i64 lf)/\y.cell? ⟨b,off+I*2+1,none⟩=some (.slice Av l c))
     (first|exact bf _ (Below.refl _ _).drew|exact bf _ (((Below.refl _ _).drew).alloc (AF _) _))
     (fail)
    have ad:Hid (Ah (R.alloc (.cells #[lf,.slice Av l c] 119)).drew R.heap.size 119 #[lf,.slice Av l c]):=Hd (Ah.new R 119 _).drew;have ah:Hid (Below R R (R.alloc (.cells #[lf,.slice Av l c] 119)).drew):=Hd (AG R _).drew;generalize (R.alloc (.cells #[lf,.slice Av l c] 119)).drew=W5 at *;generalize R.heap.size=r5 at ad ⊢;have x1:=Ah.cell ad 1;have xl:=ad.lt;simp at x1;have au:=Hd (ai.trans (ah.mono ai.size));have bh:Hid (Ed W5 (.slice Au ul cu) up):=Hd ((HU.later ag).later ah)
    have an:Hid ((up.reverse++st.drop (n-m)).drop l=u::r2):=Hd (by rw[HV.out];exact HD)
    go_upto_if 66 with fail
    go_cut [5,6] (fun bv uv wx=>∃(C:Nat) (P:List Nat),bv=.int .i64 C/\Hid (0<C/\C<=n)/\Hid (Ha wx uv P)/\Hid (P.reverse++st.drop (n-C)=u::r2)/\Hid ((∀s∈P,s<AQ.length)/\P.length<=20000)/\wx=W5)
    case first=>
     by_cases d5:l<=ul
     ·have cn:(l:Int)<=(ul:Int):=by omega
      have a0:=an.out;rw[List.drop_append,List.length_reverse,a1.out,show l-ul=0 by omega,List.drop_zero]at a0;rcases bh.out with⟨i,j⟩|⟨b2,c2,e,U,h4,h5⟩
      ·simp only[Value.slice.injEq]at i
       obtain⟨rfl,rfl,rfl⟩:=i;obtain rfl:l=0:=by omega
       clear a0;go_wp2_with fail
       go_meet
       refine⟨m,[],rfl,HM,Hd (.inl ⟨rfl,rfl⟩),Hd ?_,Hd ⟨by simp,by decide⟩,rfl⟩;have h:=an.out;rw[j]at h;exact h
      ·have e0:=e
       simp only[Value.slice.injEq]at e;obtain⟨rfl,-,rfl⟩:=e;rw[a1.out]at U;have d1:(ul:Int)<=(cu:Int):=by omega
       have hcut:=Ed.cut bh (m:=ul-l) (by rw[a1.out];omega);have bw:=Hd hcut;have ao:=Hd a0;have bt:((ul:Int)-l).toNat=ul-l:=by omega
       have df:(ul:Int)-l<=cu:=by omega
       have dg:0<=(ul:Int)-l:=by omega
       clear a0 h5 hcut e0;go_wp2_with fail
       go_meet
       refine⟨m,up.take (ul-l),rfl,HM,bw,Hd ?_,Hd ⟨fun s hs=>HP.1 s (List.mem_of_mem_take hs),by rw[List.length_take];omega⟩,rfl⟩;rw[List.reverse_take,a1.out,show ul-(ul-l)=l by omega];exact ao
     ·have cn:¬((l:Int)<=(ul:Int)):=by omega
      have a0:=an.out;rw[List.drop_append,List.length_reverse,a1.out,List.drop_of_length_le (by rw[List.length_reverse,a1.out];omega),List.nil_append,List.drop_drop]at a0;have cm:=congrArg List.length a0;rw[List.length_drop,HN.out,List.length_cons]at cm;have ao:=Hd a0;clear a0;go_wp2_with fail
      go_meet
      refine⟨m-(l-ul),[],by congr 1;omega,Hd (by omega),Hd (.inl ⟨rfl,rfl⟩),Hd ?_,Hd ⟨by simp,by decide⟩,rfl⟩;rw[List.reverse_nil,List.nil_append,show n-(m-(l-ul))=n-m+(l-ul) by omega];exact ao
    case rest=>
     obtain⟨C,P,rfl,bb,al,ar,c9,rfl⟩:=hcut;generalize wc=W6 at *;have b5:P.length<=10000:=by have i:=congrArg List.length ar;have j:=congrArg List.length HD;rw[B8,List.length_reverse]at i;rw[List.length_drop]at j;omega
     have bi:=Hd b5;have cp:=bb.out;obtain⟨x0,R0,b6⟩:∃x av,st.drop (n-C)=x::av:=by
      cases hc:st.drop (n-C) with
      | nil=>have i:=congrArg List.length hc;rw[List.length_drop,HN.out,List.length_nil]at i;omega
      | cons x av=>exact⟨x,av,rfl⟩
     have U:st.reverse[C-1]?=some x0:=by rw[List.getElem?_reverse (by rw[HN.out];omega),HN.out,show n-1-(C-1)=n-C+0 by omega,<-List.getElem?_drop,b6];rfl
     obtain⟨c0,cl⟩:=bd W6 au (C-1) x0 U;obtain⟨⟨e0,e1,el⟩,t4,t5,t6,t7,t8,tl⟩:=aa W6 au;have d9:(0:Int)<(C:Int):=by omega
     have da:(C:Int)<=(n:Int):=by omega
     have cq:((C:Int)-1).toNat=C-1:=by omega
     have ch:=Hd b6;obtain⟨k2,a5⟩:∃k,P.length=k:=⟨_,rfl⟩
     have ab:=Hd a5;obtain⟨A6,cw⟩:∃A,u6=.slice A k2 k2:=by
      rcases al.out with⟨i,j⟩|⟨b3,i,-⟩
      ·rw[j]at a5;subst a5;exact⟨none,i⟩
      ·rw[a5]at i;exact⟨_,i⟩
     subst cw;have d2:k2<=10000:=by rw[<-a5];exact b5
     clear b6 U b5 cp a5
     go_upto_if 93 with fail
     clear c0 cl
     go_cut [11] (fun v wx=>v=.int .i64 u/\wx=W6)
     case first=>
      have J:=ar.out;rw[ch.out]at J;cases p:P.reverse with
      | nil=>
       have i:P=[]:=by simpa using p
       have j:k2=0:=by rw[<-ab.out,i];rfl
       rw[p]at J;obtain⟨rfl,-⟩:=List.cons.inj J;subst j;clear J p i;go_wp2_with fail
       go_meet
       exact⟨rfl,rfl⟩
      | cons s' r=>
       rw[p]at J;obtain⟨rfl,-⟩:=List.cons.inj J;obtain⟨i,j⟩:=RE p;rw[ab.out]at i j;rcases al.out with⟨-,h6⟩|⟨b3,e,h4,h5⟩
       ·rw[h6]at p;cases p
       ·simp only[Value.slice.injEq]at e
        obtain⟨rfl,-⟩:=e;have c0:W6.cell? (b3,k2-1)=some (.int .i64 s'):=h5 _ _ j;have cx:(0:Int)<(k2:Int):=by omega
        have bt:((k2:Int)-1).toNat=k2-1:=by omega
        clear p J j h5;go_wp2_with fail
        go_meet
        exact⟨rfl,rfl⟩
     case rest=>
      obtain⟨rfl,rfl⟩:=hcut;generalize wc=W6 at *;have z0:=Ah.cell ad 0;have zl:=ad.lt;simp at z0;have bz:=Hd (bx W6.drew (au.drew));go_upto_region 19 with fail
      go_region_law (first
       | (go_simp;go_at_call 75;refine bz.mono ?_;rintro e w7 ⟨rfl,bj⟩;have a8:=Hd (((Below.refl _ W6).drew).trans bj);clear bj)
       | (refine Xy (x:=q) (g:=w7.heap.size) (c:=1) (.tmp 100) (.tmp 112) rfl rfl rfl rfl (al.later (a8.alloc a8.size (.cells #[q] 3))) (by simp[AV]) (by have:=bi.out;omega) ?_;intro c' w8 r1 r2;have cc:=Hd r1;have bu:=Hd ((a8.alloc a8.size (.cells #[q] 3)).trans (r2.mono (by have:=a8.size;simp;omega)));clear r1 r2))
      all_goals
       have aq:Hid (Fh pz AQ Bs t (gk-1) ((P++[q]).reverse++st.drop (n-C))=some a/\Ed w8 (.slice (some ⟨(w7.alloc (.cells #[q] 3)).heap.size,0,none⟩) (k2+1) c') (P++[q])/\Below W1 W1 w8):=Hd ⟨by rw[HK.out,Nat.add_sub_cancel,List.reverse_append,List.reverse_singleton,List.singleton_append,List.cons_append,ar.out];exact cd,Ed.own (by rw[<-ab.out];exact cc) (by simp[ab.out]),HB.trans ((ag.trans ((ah.trans (bu.mono ah.size)).mono ag.size)).mono HB.size)⟩;go_wp2
       go_roundg (gk-1)
       case measure=>have:=HK.out;omega
       case rel=>
        refine⟨C,P++[q],rfl,bb,Hd ?_,Hd aq.2.2,Hd aq.1,Hd ⟨fun s hs=>?_,by have:=bi.out;simp;omega⟩⟩
        ·rw[ab.out];simpa using aq.2.1
        ·rcases mA.1 hs with hs|hs
         ·exact c9.1 s hs
         ·rw[mS.1 hs];exact cb
def GH(i:List Nd)(j:List Nat):List Nd:=j.foldl (fun i k=>i.modify k fun x=>{x with below:=true}) i
theorem YI(T:List (Nd×Value))(j:List Nat):(Er T j).map (·.1)=GH (T.map (·.1)) j:=by
 induction j generalizing T with
 | nil=>rfl
 | cons k j l=>
  rw[Er,List.foldl_cons];refine(l _).trans ?_;rw[GH,GH,List.foldl_cons];congr 1;apply List.ext_getElem?;intro i;simp only[pG,List.getElem?_modify];cases T[i]? with
  | none=>rfl
  | some p=>simp only[Option.map_some,Option.map_eq_map];split<;>rfl
def L6(j:List Nd)(i:List Nat):Bool:=decide i.Nodup&&i.all fun k=>(j[k]?.map Nd.below)==some false
structure Ca where
 st:List Nat
 ns:List Nat
 tr:List Nd
variable{st:List Nat}{o:It×Ca}
section
variable (g:Gz) (E:List (List It)) (K:List (List (Nat×Nat)))
def Ca.red(c:Ca)(k u q:Nat)(r:List Nat):Ca:=⟨q::u::r,c.tr.length::c.ns.drop (g.right k).length,GH c.tr (c.ns.take (g.right k).length).reverse++[⟨(g.Bo k).1,-1,k,(c.ns.take (g.right k).length).reverse,false,false⟩]⟩
def Hp(t:Nat):Nat->Ca->Option (It×Ca)
 | 0,_=>none
 | f+1,c=>match c.st with
  | []=>none
  | s::i=>if (AZ g E K s t).1=2 then(if (AZ g E K s t).2<g.R.length/\(s::i).length<=9000/\(g.right (AZ g E K s t).2).length<=c.ns.length/\0<c.ns.length/\c.tr.length<=90000/\L6 c.tr (c.ns.take (g.right (AZ g E K s t).2).length).reverse=true then match (s::i).drop (g.right (AZ g E K s t).2).length with
   | []=>none
   | u::r=>match FM E u (g.Bo (AZ g E K s t).2).1 with
    | none=>none
    | some q=>Hp t f (c.red g (AZ g E K s t).2 u q r)
   else none) else some (AZ g E K s t,c)
variable {g E K}
def V8{c:Ca}{s:Nat}(C:c.st=s::st)(h:Hp g E K t (f+1) c=some o) :
  ((AZ g E K s t).1≠2/\o=(AZ g E K s t,c))\/((AZ g E K s t).1=2/\((AZ g E K s t).2<g.R.length/\(s::st).length<=9000/\(g.right (AZ g E K s t).2).length<=c.ns.length/\0<c.ns.length/\c.tr.length<=90000/\L6 c.tr (c.ns.take (g.right (AZ g E K s t).2).length).reverse=true)/\∃u r q,(s::st).drop (g.right (AZ g E K s t).2).length=u::r/\FM E u (g.Bo (AZ g E K s t).2).1=some q/\Hp g E K t f (c.red g (AZ g E K s t).2 u q r)=some o):=by
 unfold Hp at h;rw[C]at h;simp only at h;split at h
 ·rename_i i
  right;split at h
  ·rename_i p
   refine⟨i,p,?_⟩;cases l:(s::st).drop (g.right (AZ g E K s t).2).length with
   | nil=>rw[l]at h;cases h
   | cons u r=>
    rw[l]at h;simp only at h;cases j:FM E u (g.Bo (AZ g E K s t).2).1 with
    | none=>rw[j]at h;cases h
    | some q=>rw[j]at h;exact⟨u,r,q,rfl,j,h⟩
  ·cases h
 ·rename_i i
  exact .inl ⟨i,(Option.some.inj h).symm⟩
end
def Ee.keeps{j:World}{B:Nat}(h:Ee j w rb T)(i:AI B L w w')(C:102 ∉ L)(I:155 ∉ L)(J:3 ∉ L):Ee j w' rb T:=by obtain⟨l,o,t⟩:=h.box;exact⟨⟨l,i.Ap o (.inr C),Ce t i I⟩,fun p P=>Ce (h.kids p P) i J,h.lo,h.B7⟩
def Cw.keeps{l:World}{o:Nat}{p:List Nat}{t:Bool}{C:Value}(h:Cw l w o tb rb st p T t steps C nv)(i:AI l L w w')(h0:72 ∉ L)(I:102 ∉ L)(J:155 ∉ L)(j:3 ∉ L):Cw l w' o tb rb st p T t steps C nv:=
 ⟨i.Ap h.box (.inr h0),h.tree.keeps i I J j,Ce h.G5 i j,Ce h.nodes i j,h.Kb,h.JH,h.ap,h.lo,h.GL,h.base.trans (i.below h.base.size),h.lt,h.B7⟩
def Gv(w:World)(v v':Value):Prop:=∀b,v'.ownBlock=some b->v.ownBlock=some b\/w.heap.size<=b
def Mv(w:World)(T T':List (Nd×Value)):Prop:=∀p∈T',∀b,p.2.ownBlock=some b->(∃q∈T,q.2.ownBlock=some b)\/w.heap.size<=b
def Oq(t w:World)(C tb rb:Nat)(T:List (Nd×Value))(J:Bool)(I:Nat)(P nv:Value)(o:It×Ca)(e:Ending)(w':World):Prop:=
 e=.returned (.agg #[o.1.1,o.1.2])/\∃i l p j,Cw t w' C tb rb o.2.st o.2.ns i J l p j/\i.map (·.1)=o.2.tr/\l<=I/\AI t [72,155,102] w w'/\Gv w P p/\Gv w nv j/\Mv w T i
def fT{B b n c m o:Nat}(h:w.ownsRow B 3 1 (.slice (b,0) n c) n (l.map AV))(P:l.length=n)(hm:m<=n)(i:o=n-m\/c=n-m)(hn:n<=10000):BD w (.slice (b,o) m (c-(n-m))) (l.drop (n-m)):=by
 obtain⟨a0,R⟩:n<=c/\b<w.heap.size:=by
  rcases Bi h with⟨e,-⟩|⟨U,t,e,-,C,I,-⟩
  ·cases e
  ·cases e;exact⟨I,C⟩
 have p:(l.drop (n-m)).length=m:=by rw[List.length_drop,P];omega
 refine⟨⟨_,_,by rw[p],fun k x j=>?_⟩,by omega,fun T n' t e=>?_⟩
 ·have J:=(sG.1 j).1
  rw[p]at J;obtain rfl:o=n-m:=by rcases i with i|i<;>omega
  refine⟨b,n-m,rfl,R,?_⟩;rw[List.getElem?_drop]at j;rw[Bh h _ (by omega),pG,j];rfl
 ·cases e
  exact⟨by omega,fun e=>by cases e⟩
def VL{l:World}{j:Nat}{c:Ca}{T0:List (Nd×Value)}{sv:Value}(h:Cw l w j tb rb c.st c.ns T0 ov steps sv nv)(hT:T0.map (·.1)=c.tr)(hw:l.heap.size<=w.heap.size)(J:c.st.length=c.ns.length+1){bm:Nat}(ht:t<=pz.nt)(hl:Hp pz AQ Bs t f c=some o)(e5:∀s∈c.st,s<AQ.length)(fd:steps+f<=bm)(gq:bm<=900000) :
  () 52 #[(j,0),t] w (Oq l w j tb rb T0 ov bm sv nv o):=by
 obtain⟨AT,nT,cT,AN,nN,cN,AR,nR,cR,gs,Ar,cr,nn,Aa,na,ca,Ag,ng,cg,di,hA,hG,hR⟩:=h.GL.use;have bx:Hid (∀y,Below l l y->y.cell? (tb,4)=some (.slice Ar (pz.R.length+1) cr)/\y.cell? (tb,5)=some (.int .i64 (pz.nt:Nat))/\y.cell? (tb,6)=some (.int .i64 nn)/\y.cell? (tb,7)=some (.slice Aa na ca)/\y.cell? (tb,8)=some (.slice Ag ng cg)/\tb<y.heap.size):=Hd (fun y C=>by have e2:=di.below C h.lt;exact⟨e2.cell 4,e2.cell 5,e2.cell 6,e2.cell 7,e2.cell 8,e2.lt⟩)
 have eu:Hid (∀k,k<pz.R.length->∃b off Av c,Ar=some ⟨b,off,none⟩/\∀y,Below l l y->b<y.heap.size/\y.cell? ⟨b,off+k*2,none⟩=some (.int .i64 ((pz.Bo k).1:Nat))/\y.cell? ⟨b,off+k*2+1,none⟩=some (.slice Av (pz.right k).length c)):=Hd (fun k hk=>by obtain⟨b,off,Av,c,e,cf,c0,c1⟩:=hR k hk;exact⟨b,off,Av,c,e,fun y C=>⟨Ba cf C.size,(C.cell (p:=⟨b,off+k*2,none⟩) cf).trans c0,(C.cell (p:=⟨b,off+k*2+1,none⟩) cf).trans c1⟩⟩)
 have HA:=Hd hA;have HG:=Hd hG;have cq:=Hd (Ah.new w 106 #[.int .i64 0,.int .i64 0]);have bo:=Hd (AG w (.cells #[.int .i64 0,.int .i64 0] 106));have cw:=Hd (h.later bo);have d0:=Hd hl;have da:=Hd hT;have cu:=Hd (And.intro J e5);clear h hT J hl e5 di hA hG hR;unfold Oq;generalize pz.nt=nt at *;generalize dx:pz.R.length=nr at *;have ep:=Hd dx;clear dx;go_enter Tryz.func52,Tryz.ntmps52
 go_wp2_with fail
 generalize w.alloc (.cells #[.int .i64 0,.int .i64 0] 106)=W1 at *;go_loopg [7] f (fun k _ wr=>∃(c:Ca) (a2:List (Nd×Value)) (steps:Nat) (b6 b5:Value),Hid (Cw l wr j tb rb c.st c.ns a2 ov steps b6 b5)/\Hid (a2.map (·.1)=c.tr)/\Hid (c.st.length=c.ns.length+1/\∀s∈c.st,s<AQ.length)/\Hid (Hp pz AQ Bs t k c=some o)/\Hid (steps+k<=bm)/\Hid (AI l [72,155,102] W1 wr)/\Hid (Gv w sv b6/\Gv w nv b5/\Mv w T0 a2))
 case atStart=>exact⟨c,T0,steps,sv,nv,cw,da,cu,d0,Hd fd,Hd (AI.refl _ _ _),Hd ⟨fun b P=>.inl P,fun b P=>.inl P,fun a3 hp b P=>.inl ⟨a3,hp,P⟩⟩⟩
 case round=>
  clear cw da cu d0;obtain⟨c,a2,steps,b6,b5,HE,HT,HC,HL,be,ax,d6⟩:=hrel;rename World=>w2
  have b3:=HL.out;obtain⟨k',c8⟩:∃k',gk=k'+1:=by
   cases gk with
   | zero=>unfold Hp at b3;cases b3
   | succ k'=>exact⟨k',rfl⟩
  rw[c8]at b3;have HK:=Hd c8;have hE:=HE.box;have ak:=HE.base;obtain⟨s,st,hc⟩:∃s st,c.st=s::st:=by
   cases hc:c.st with
   | nil=>have J:=HC.1;rw[hc]at J;simp at J
   | cons s st=>exact⟨s,st,rfl⟩
  have e4:s<AQ.length:=HC.2 s (by rw[hc];simp);have cd:=V8 hc b3;rw[ep.out]at cd;have en:=Hd cd;have dk:Ed w2 b6 c.st.reverse:=Ed.own HE.G5 (by simp);have fa:=HE.B7.1;obtain⟨n,hn⟩:∃n,c.st.length=n:=⟨_,rfl⟩
  have gr:0<n:=by rw[<-hn,hc];simp
  rw[hn]at fa;obtain⟨bs,cs,fm,dp,dn,cl⟩:∃b c',b6=.slice (some ⟨b,0,none⟩) n c'/\n<=c'/\b<w2.heap.size/\∀k x,c.st.reverse[k]?=some x->w2.cell? ⟨b,k,none⟩=some (AV x):=by
   rcases dk with⟨-,J⟩|⟨b,c',J,T,h3,h4⟩
   ·have:=congrArg List.length J
    rw[List.length_reverse,List.length_nil]at this;omega
   ·rw[List.length_reverse,hn]at J T
    exact⟨b,c',J,T,h3,h4⟩
  subst fm;have dq:w2.cell? (bs,n-1)=some (.int .i64 s):=cl (n-1) s (by rw[List.getElem?_reverse (by omega),hn,show n-1-(n-1)=0 by omega,hc];rfl);have ct:=Hd (fun(y:World) (C:Below l l y)=>HA y C s t e4 ht);have az:Hid (∀y,Below w2 w2 y->(y.cell? (j,0)=some (.pointer (tb,0))/\y.cell? (j,1)=some (.slice (bs,0) n cs)/\j<y.heap.size)/\(y.cell? (tb,4)=some (.slice Ar (nr+1) cr)/\y.cell? (tb,5)=some (.int .i64 nt)/\y.cell? (tb,6)=some (.int .i64 nn)/\y.cell? (tb,7)=some (.slice Aa na ca)/\y.cell? (tb,8)=some (.slice Ag ng cg)/\tb<y.heap.size)/\y.cell? (bs,n-1)=some (.int .i64 s)/\bs<y.heap.size):=Hd (fun y C=>by
   have e1:=hE.below C hE.lt;exact⟨⟨e1.cell 0,e1.cell 1,e1.lt⟩,bx y (ak.trans (C.mono ak.size)),(C.cell (p:=⟨bs,n-1,none⟩) dn).trans dq,Ba dn C.size⟩)
  have fv:=Hd cl;have HN:=Hd hn;have ba:=Hd hc;have fs:=Hd ak;have ft:=Hd hE;have gx:(0:Int)<(n:Int):=by omega
  have gy:(n:Int)<=10000:=by omega
  have h5:IntKind.i64.wrap ((n:Int)-1)=((n-1:Nat):Int):=by rw[IntKind.wrap_i64];omega
  have h6:((n-1:Nat):Int)<(n:Int):=by omega
  have bb:=Hd ((AG w2 (.cells #[.int .i64 0,.int .i64 0] 106)).drew);have HX:=Hd (ct _ (ak.trans (bb.mono ak.size)));have f3:=Hd (ct _ ak.drew);have e9:=Hd dp;clear b3 c8 hE ak e4 cd dk hn cl dq hc dp;go_upto_region 1 with fail
  go_cut [5] (fun av wx=>∃a5,av=.pointer (some ⟨a5,0,none⟩)/\w2.heap.size<=a5/\Hid (Ah wx a5 106 #[.int .i64 (AZ pz AQ Bs s t).1,.int .i64 (AZ pz AQ Bs s t).2])/\Hid (Below w2 w2 wx))
  case first=>
   go_region_held3 (fun y=>(y.cell? (j,0)=some (.pointer (tb,0))/\y.cell? (j,1)=some (.slice (bs,0) n cs)/\j<y.heap.size)/\(y.cell? (tb,4)=some (.slice Ar (nr+1) cr)/\y.cell? (tb,5)=some (.int .i64 nt)/\y.cell? (tb,6)=some (.int .i64 nn)/\y.cell? (tb,7)=some (.slice Aa na ca)/\y.cell? (tb,8)=some (.slice Ag ng cg)/\tb<y.heap.size)/\y.cell? (bs,n-1)=some (.int .i64 s)/\bs<y.heap.size)
    (first|exact az _ (Below.refl _ _).drew|exact az _ bb|exact az _ a8|exact az _ (a8.alloc a8.size _)|exact az _ ((a8.setCell (p:=⟨w2.heap.size,0,none⟩) (AF _) _).setCell (p:=⟨w2.heap.size,1,none⟩) (AF _) _))
    (first|(go_at_call 73;refine f3.mono ?_;rintro e w3 ⟨rfl,au⟩;have a8:=Hd (((Below.refl _ w2).drew).trans au);clear au)|(go_at_call 73;refine HX.mono ?_;rintro e w3 ⟨rfl,au⟩;have a8:=Hd (bb.trans (au.mono bb.size));have al:=Hd ((Ah.new w2 106 #[.int .i64 0,.int .i64 0]).drew.below au (by simp));have y0:=Ah.cell al 0;have y1:=Ah.cell al 1;have f0:=Ah.frozen al 0;have f1:=Ah.frozen al 1;have yl:=al.lt;simp at y0 y1;clear au))
   all_goals go_wp2_with fail
   all_goals go_meet
   all_goals first
    | exact⟨_,rfl,by omega,Hd (by simpa using(al.Be 0 (.int .i64 (AZ pz AQ Bs s t).1)).Be 1 (.int .i64 (AZ pz AQ Bs s t).2)),Hd ((a8.setCell (p:=⟨w2.heap.size,0,none⟩) (AF _) _).setCell (p:=⟨w2.heap.size,1,none⟩) (AF _) _)⟩
    | exact⟨_,rfl,a8.size,Hd (Ah.new w3 106 _),Hd (a8.alloc a8.size _)⟩
  case rest=>
   obtain⟨a5,rfl,ha5,a4,aw⟩:=hcut;rename World=>w3
   have a0:=Hd (HE.later aw);have ab:=Hd ((ax.Ap cq (.inr (by decide))).below aw (Ba cq.lt ax.size));have ef:=Hd (((AI.AJ (B:=l.heap.size) (T:=[72,155,102]) bo).trans ax).trans (AI.AJ aw));rcases en.out with⟨gv,ho⟩|⟨T,hk,u,r,q,hd,hq,ck⟩
   ·subst ho
    have gw:¬(((AZ pz AQ Bs s t).1:Int)=2):=by omega
    generalize ds:AZ pz AQ Bs s t=a at *;have ed:=Hd ds;clear ds;have y0:=Ah.cell ab 0;have y1:=Ah.cell ab 1;have f0:=Ah.frozen ab 0;have f1:=Ah.frozen ab 1;have yl:=ab.lt;have z0:=Ah.cell a4 0;have z1:=Ah.cell a4 1;have zl:=a4.lt;simp at y0 y1 z0 z1;go_wp2_with fail
    have dr:Ah ((w3.setCell (w,0) a.1).setCell (w,1) a.2) w.heap.size 106 #[a.1,a.2]:=by simpa using(ab.Be 0 a.1).Be 1 a.2
    have k0:=Ah.cell dr 0;have k1:=Ah.cell dr 1;simp only[List.getElem?_toArray,List.getElem?_cons_zero,List.getElem?_cons_succ]at k0 k1;refine bodyPost_ret (v:=.agg #[a.1,a.2]) (by simp[results,Tryz.f52,go_sem,k0,k1]) rfl ?_;have bh:AI l [106] w3 ((w3.setCell (w,0) a.1).setCell (w,1) a.2):=((AI.refl _ _ w3).EH ab hw (by simp) 0 _).EH (ab.Be 0 _) hw (by simp) 1 _;exact⟨by rw[ed.out],a2,steps,_,b5,a0.keeps bh (by decide) (by decide) (by decide) (by decide),HT,by have:=be.out;omega,(ef.TC (p:=⟨w.heap.size,0,none⟩) (AF _) _).TC (p:=⟨w.heap.size,1,none⟩) (AF _) _,d6⟩
   ·obtain⟨c9,dw,ch,ff,fp,bl⟩:=hk
    obtain⟨I,cb⟩:∃k,(AZ pz AQ Bs s t).2=k:=⟨_,rfl⟩
    rw[cb]at c9 ch bl hd hq ck;rw[T,cb]at a4;have e7:u<AQ.length:=HC.2 u (by rw[ba.out];exact List.mem_of_mem_drop (by rw[hd];simp));have cz:=Hd (fun(y:World) (C:Below l l y)=>HG y C u I q c9 hq e7);obtain⟨b,off,Av,cv,rfl,e0⟩:=eu I c9;have bu:=Hd e0;obtain⟨p,cj⟩:∃k,(pz.right I).length=k:=⟨_,rfl⟩
    rw[cj]at ch bl hd bu;have et:=Hd ck;have d4:=Hd cj;obtain⟨lf,cc⟩:∃k,(pz.Bo I).1=k:=⟨_,rfl⟩
    have em:=Hd cc;rw[cc]at cz bu;have HD:=Hd hd;have er:=Hd bl;have es:=Hd (Qt hq);obtain⟨a1,b4⟩:∃k,c.ns.length=k:=⟨_,rfl⟩
    rw[b4]at ch ff;have a9:=Hd b4;have fb:=HE.B7.2.1;rw[b4]at fb;have bk:=a0.nodes;rw[b4]at bk;obtain⟨bn,cn,fg,gd,g0⟩:∃b c',b5=.slice (some ⟨b,0,none⟩) a1 c'/\a1<=c'/\b<w3.heap.size:=by
     rcases Bi bk with⟨-,h0⟩|⟨b',c',e,-,J,h3,-⟩
     ·omega
     ·exact⟨b',c',e,h3,J⟩
    subst fg;have d5:=Hd bk;have gu:n=a1+1:=by rw[<-HN.out,HC.1,a9.out]
    have dc:Hid (a2.length<=90000):=Hd (by have:=congrArg List.length HT;rw[lM]at this;omega);have gm:(I:Int)<(nr:Int):=by omega
    have gp:(I:Int)<(nr:Int)+1:=by omega
    have fr:IntKind.i64.wrap ((a1:Int)-(p:Int))=((a1-p:Nat):Int):=by rw[IntKind.wrap_i64];omega
    have el:Hid (n<=9000):=Hd (by rw[<-HN.out,ba.out];exact dw);clear cj cc hd hq ck e7 e0 T cb bl b4 bk fp dw;have af:=a0.box;have d9:Hid (∀y,Below w3 w3 y->(y.cell? (j,0)=some (.pointer (tb,0))/\j<y.heap.size)/\(y.cell? (tb,4)=some (.slice (some ⟨b,off,none⟩) (nr+1) cr)/\tb<y.heap.size)/\(y.cell? ⟨a5,1,none⟩=some (.int .i64 I)/\a5<y.heap.size)/\b<y.heap.size/\y.cell? ⟨b,off+I*2,none⟩=some (.int .i64 lf)/\y.cell? ⟨b,off+I*2+1,none⟩=some (.slice Av p cv)):=Hd (fun y C=>by have J:Below l l y:=a0.base.trans (C.mono a0.base.size);obtain⟨r1,r2,r3⟩:=bu y J;have e1:=af.below C af.lt;have e2:=a4.below C a4.lt;obtain⟨q4,-,-,-,-,q9⟩:=bx y J;exact⟨⟨e1.cell 0,e1.lt⟩,⟨q4,q9⟩,⟨e2.cell 1,e2.lt⟩,r1,r2,r3⟩)
    have z0:=Ah.cell a4 0;have zl:=a4.lt;simp at z0;go_upto_region 4 with fail
    clear z0 zl
    go_region_held3 (fun y=>(y.cell? (j,0)=some (.pointer (tb,0))/\j<y.heap.size)/\(y.cell? (tb,4)=some (.slice (some ⟨b,off,none⟩) (nr+1) cr)/\tb<y.heap.size)/\(y.cell? ⟨a5,1,none⟩=some (.int .i64 I)/\a5<y.heap.size)/\b<y.heap.size/\y.cell? ⟨b,off+I*2,none⟩=some (.int .i64 lf)/\y.cell? ⟨b,off+I*2+1,none⟩=some (.slice Av p cv))
     (first|exact d9 _ (Below.refl _ _).drew|exact d9 _ (((Below.refl _ _).drew).alloc (AF _) _))
     (fail)
    have ay:Hid (Ah (w3.alloc (.cells #[lf,.slice Av p cv] 119)).drew w3.heap.size 119 #[lf,.slice Av p cv]):=Hd (Ah.new w3 119 _).drew;have ao:Hid (Below w3 w3 (w3.alloc (.cells #[lf,.slice Av p cv] 119)).drew):=Hd (AG w3 _).drew;generalize (w3.alloc (.cells #[lf,.slice Av p cv] 119)).drew=w4 at *;generalize dz:w3.heap.size=r6 at ay ⊢;have fu:=Hd dz;clear dz;have bv:Hid (∀y,Below w4 w4 y->∀U,AI l [155,102] y U->(U.cell? (j,2)=some (.slice (bn,0) a1 cn)/\U.cell? (j,3)=some (.pointer (rb,0))/\j<U.heap.size)/\(U.cell? (r6,0)=some (.int .i64 lf)/\U.cell? (r6,1)=some (.slice Av p cv)/\r6<U.heap.size)/\(U.cell? ⟨a5,1,none⟩=some (.int .i64 I)/\a5<U.heap.size)):=Hd (fun y C U hk=>by
     have e1:=hk.Ap ((af.below ao af.lt).below C (Ba af.lt ao.size)) (.inr (by decide));have e2:=hk.Ap (ay.below C ay.lt) (.inr (by decide));have e3:=hk.Ap ((a4.below ao a4.lt).below C (Ba a4.lt ao.size)) (.inr (by decide));exact⟨⟨e1.cell 2,e1.cell 3,e1.lt⟩,⟨e2.cell 0,e2.cell 1,e2.lt⟩,e3.cell 1,e3.lt⟩)
    obtain⟨⟨x2,x3,xl⟩,⟨r0,r1,rl⟩,k1,kl⟩:=bv w4 (Below.refl _ _) w4 (AI.refl _ _ _);go_upto_region 5 with fail
    go_quiet (fail)
    obtain⟨i,fc⟩:∃k,a1-p=k:=⟨_,rfl⟩
    rw[fc]at fr ⊢;have gl:i+p=a1:=by omega
    have bc:Hid (Below w4 w4 (w4.drewN nq)):=Hd ⟨rfl,rfl,rfl,AF _,fun _ _=>rfl⟩;generalize w4.drewN nq=w5 at *;have bq:=Hd (ao.trans (bc.mono ao.size));obtain⟨o5,gz,fh⟩:∃o5,(if cn=i then(some ⟨bn,0,none⟩:Option Addr) else some ⟨bn,i,none⟩)=some ⟨bn,o5,none⟩/\(o5=a1-p\/cn=a1-p):=by
     by_cases h:cn=i
     ·exact⟨0,by rw[if_pos h],.inr (by omega)⟩
     ·exact⟨i,by rw[if_neg h],.inl (by omega)⟩
    have du:c.ns.reverse.drop (a1-p)=(c.ns.take p).reverse:=by rw[List.reverse_take,a9.out]
    have ei:=Hd du;have HJ:Hid (∀y,Below w5 w5 y->() 74 #[(rb,0),lf,I,.slice (some ⟨bn,o5,none⟩) (a1-i) (cn-i)] y (OM l y rb lf I a2 (c.ns.take p).reverse)):=Hd (fun y C=>by
     rw[show a1-i=p by omega];have J:=er.out;unfold L6 at J;simp only[Bool.and_eq_true,decide_eq_true_eq,List.all_eq_true,beq_iff_eq]at J;have P:=bq.trans (C.mono bq.size);refine fF (a0.tree.later P) (AW a0.base.size P.size) (fun U hk=>?_) (by rw[List.length_reverse,List.length_take,a9.out];omega) J.1 (fun k hk=>?_) (by have:=dc.out;omega) (by omega)
     ·have T:=fT (Ce (AS d5 P) hk (by decide)) (m:=p) (by rw[List.length_reverse,a9.out]) (by omega) fh (by omega)
      rw[ei.out,show a1-p=i by omega]at T;exact T
     ·have T:=J.2 k hk
      rw[<-HT.out,pG]at T;cases hx:a2[k]? with
      | none=>rw[hx]at T;cases T
      | some a3=>rw[hx]at T;exact⟨a3,rfl,by simpa using T⟩)
    have gg:(i:Int)<=(a1:Int):=by omega
    have gh:(i:Int)<=(cn:Int):=by omega
    have gi:(a1:Int)<=(cn:Int):=by omega
    clear x2 x3 xl r0 r1 rl k1 kl du;go_upto_region 6 with fail
    have ee:=Hd (HJ w5.drew (Below.refl _ _).drew)
    go_region_held3 (fun U=>(U.cell? (j,2)=some (.slice (bn,0) a1 cn)/\U.cell? (j,3)=some (.pointer (rb,0))/\j<U.heap.size)/\(U.cell? (r6,0)=some (.int .i64 lf)/\U.cell? (r6,1)=some (.slice Av p cv)/\r6<U.heap.size)/\(U.cell? ⟨a5,1,none⟩=some (.int .i64 I)/\a5<U.heap.size))
     (first|exact bv _ (bc.drew) _ (AI.refl _ _ _)|exact bv _ (bc.drew) _ ad)
     (first|(go_at_call 74;refine ee.mono ?_;rintro e w6 ⟨rfl,kv,dj,de,dv⟩;have db:=Hd dj;have ad:=Hd de;have ej:=Hd dv;clear dj de dv))
    have ah:=Hd (bq.drew);have b0:=ad.Ap (af.below ah af.lt) (.inr (by decide));have aq:=Hd b0;have eo:=Hd (Ce (AS d5 ah) ad (by decide));have ev:=Hd (Ce (AS a0.G5 ah) ad (by decide));have d7:=Hd (ad.Ap (ay.below bc.drew ay.lt) (.inr (by decide)));have bp:Hid (Below l l w6):=Hd ((a0.base.trans (ah.mono a0.base.size)).trans (ad.below (AW a0.base.size ah.size)));obtain⟨L7,bz⟩:∃L,c.ns.reverse.take i=L:=⟨_,rfl⟩
    have dh:L7.length=i:=by rw[<-bz,List.length_take,List.length_reverse,a9.out];omega
    have d1:=Hd bz;have d2:=Hd dh;have ea:Hid (Ha w6 (.slice (bn,0) i i) L7):=Hd (by have h:=Ed.cut (Ed.own eo (by rw[List.length_reverse,a9.out])) (m:=i) (by rw[List.length_reverse,a9.out];omega);rwa [d1.out]at h)
    obtain⟨TL,c6⟩:∃k,a2.length=k:=⟨_,rfl⟩
    have ey:=Hd c6;have f8:=dc.out;rw[c6]at f8 ⊢;have x0:=Ah.cell b0 0;have x2:=Ah.cell b0 2;have xl:=b0.lt;simp at x0 x2;clear bz dh c6 af b0;go_upto_region 8 with(at_builtin;refine iI (x:=TL) (g:=w6.heap.size) (c:=1) (.tmp 77) (.tmp 79) rfl rfl rfl rfl (ea.later (AG w6 (.cells #[TL] 3))) (by simp[AV]) (by have:=d2.out;omega) ?_;intro c7 w7 r1 r2;have bt:Hid (w7.ownsRow (w6.heap.size+1) 3 1 (.slice (w6.heap.size+1,0) (L7.length+1) c7) (L7.length+1) ((L7++[TL]).map AV)):=Hd (by simpa only[World.size_alloc] using r1);have a7:=Hd ((AG w6 (.cells #[TL] 3)).trans (r2.mono (by simp)));rw[d2.out]at bt ⊢;have a6:=aq.below a7 aq.lt;have y2:=Ah.cell a6 2;have f2:=Ah.frozen a6 2;have yl:=a6.lt;simp at y2;clear r1 r2 a6)
    have f4:Hid (w6.heap.size<w6.heap.size+1/\w6.heap.size+1<w7.heap.size):=Hd ⟨Nat.lt_succ_self _,by
     rcases Bi bt.out with⟨e,-⟩|⟨b',c',e,-,J,-⟩
     ·cases e
     ·cases e;exact J⟩
    generalize f9:w6.heap.size+1=b7 at *;clear f9;have a6:Ah (w7.setCell (j,2) (.slice (b7,0) (i+1) c7)) j 72 #[(tb,0),.slice (bs,0) n cs,.slice (b7,0) (i+1) c7,(rb,0),.bool ov,steps]:=by simpa using(aq.below a7 aq.lt).Be 2 (.slice (b7,0) (i+1) c7)
    have df:AI l [72] w7 (w7.setCell (j,2) (.slice (b7,0) (i+1) c7)):=(AI.refl _ _ w7).EH (aq.below a7 aq.lt) a0.lo (by simp) 2 _;generalize w7.setCell (j,2) (.slice (b7,0) (i+1) c7)=W7 at *;have cx:=Hd a6;have eg:=Hd df;have x1:=Ah.cell a6 1;have x0:=Ah.cell a6 0;have f1:=Ah.frozen a6 1;have xl:=a6.lt;simp at x0 x1;have gf:=e9.out;have ga:(i:Int)+1<=(cs:Int):=by omega
    have gb:(i:Int)<=9999:=by omega
    have h2:((i:Int)+1).toNat=i+1:=by omega
    clear a6 df;go_upto_region 9 with fail
    have dd:Ah (W7.setCell (j,1) (.slice (bs,0) (i+1) (i+1))) j 72 #[(tb,0),.slice (bs,0) (i+1) (i+1),.slice (b7,0) (i+1) c7,(rb,0),.bool ov,steps]:=by simpa using cx.Be 1 (.slice (bs,0) (i+1) (i+1))
    have dg:AI l [72] w7 (W7.setCell (j,1) (.slice (bs,0) (i+1) (i+1))):=eg.EH cx a0.lo (by simp) 1 _;generalize W7.setCell (j,1) (.slice (bs,0) (i+1) (i+1))=W8 at *;have bd:=Hd dd;have ai:=Hd dg;have an:Hid (Below l l W8):=Hd ((bp.trans (a7.mono bp.size)).trans (ai.below (AW bp.size a7.size)));have bw:Hid (W8.ownsRow l 3 1 (.slice (bs,0) n cs) n (c.st.reverse.map AV)):=Hd (by have h:=Ce (AS ev a7) ai (by decide);rwa [HN.out]at h)
    have ez:Hid (c.st.reverse[i]?=some u):=Hd (by rw[List.getElem?_reverse (by rw[HN.out];omega),HN.out,show n-1-i=p+0 by omega,<-List.getElem?_drop,ba.out,HD.out];rfl)
    obtain⟨L8,bi⟩:∃L,c.st.reverse.take (i+1)=L:=⟨_,rfl⟩
    have d3:Hid (L8.length=i+1):=Hd (by rw[<-bi,List.length_take,List.length_reverse,HN.out];omega);have eb:Hid (Ha W8 (.slice (bs,0) (i+1) (i+1)) L8):=Hd (by have h:=Ed.cut (Ed.own bw (by rw[List.length_reverse,HN.out])) (m:=i+1) (by rw[List.length_reverse,HN.out];omega);rwa [bi]at h)
    have ek:=Hd bi;have d8:=Hd (ai.Ap (d7.below a7 d7.lt) (.inr (by decide)));have bf:Hid (∀y,Below W8 W8 y->(fun y:World=>(y.cell? (j,0)=some (.pointer (tb,0))/\y.cell? (j,1)=some (.slice (bs,0) (i+1) (i+1))/\j<y.heap.size)/\(y.cell? (tb,4)=some (.slice (some ⟨b,off,none⟩) (nr+1) cr)/\y.cell? (tb,5)=some (.int .i64 nt)/\y.cell? (tb,6)=some (.int .i64 nn)/\y.cell? (tb,7)=some (.slice Aa na ca)/\y.cell? (tb,8)=some (.slice Ag ng cg)/\tb<y.heap.size)/\(y.cell? (bs,i)=some (.int .i64 u)/\bs<y.heap.size)/\y.cell? (r6,0)=some (.int .i64 lf)/\r6<y.heap.size) y):=Hd (fun y C=>by
     have e1:=bd.below C bd.lt;have e2:=d8.below C d8.lt;have J:Below l l y:=an.trans (C.mono an.size);obtain⟨T,h3⟩:bs<W8.heap.size/\W8.cell? (bs,i)=some (.int .i64 u):=by
      rcases Bi bw.out with⟨e,-⟩|⟨b',c',e,-,T,-⟩
      ·cases e
      ·cases e
       refine⟨T,?_⟩;rw[Bh bw.out i (by omega),pG,ez.out];rfl
     exact⟨⟨e1.cell 0,e1.cell 1,e1.lt⟩,bx y J,⟨(C.cell (p:=⟨bs,i,none⟩) T).trans h3,Ba T C.size⟩,e2.cell 0,e2.lt⟩)
    have ec:=Hd (cz W8.drew an.drew);have gj:(i:Int)<(i:Int)+1:=by omega
    clear dd dg bi x0 x1 f1 xl;refine DU 26 (fun y:World=>(y.cell? (j,0)=some (.pointer (tb,0))/\y.cell? (j,1)=some (.slice (bs,0) (i+1) (i+1))/\j<y.heap.size)/\(y.cell? (tb,4)=some (.slice (some ⟨b,off,none⟩) (nr+1) cr)/\y.cell? (tb,5)=some (.int .i64 nt)/\y.cell? (tb,6)=some (.int .i64 nn)/\y.cell? (tb,7)=some (.slice Aa na ca)/\y.cell? (tb,8)=some (.slice Ag ng cg)/\tb<y.heap.size)/\(y.cell? (bs,i)=some (.int .i64 u)/\bs<y.heap.size)/\y.cell? (r6,0)=some (.int .i64 lf)/\r6<y.heap.size) (by kernel_rfl) ?_;have R:(fun y:World=>(y.cell? (j,0)=some (.pointer (tb,0))/\y.cell? (j,1)=some (.slice (bs,0) (i+1) (i+1))/\j<y.heap.size)/\(y.cell? (tb,4)=some (.slice (some ⟨b,off,none⟩) (nr+1) cr)/\y.cell? (tb,5)=some (.int .i64 nt)/\y.cell? (tb,6)=some (.int .i64 nn)/\y.cell? (tb,7)=some (.slice Aa na ca)/\y.cell? (tb,8)=some (.slice Ag ng cg)/\tb<y.heap.size)/\(y.cell? (bs,i)=some (.int .i64 u)/\bs<y.heap.size)/\y.cell? (r6,0)=some (.int .i64 lf)/\r6<y.heap.size) W8.drew:=bf _ (Below.refl _ _).drew
    refine AA 0 R ?_;simp only[Aw,Ay];refine AA 1 R ?_;simp only[Aw,Ay];refine AA 2 R ?_;simp only[Aw,Ay];refine AA 3 R ?_;simp only[Aw,Ay];refine AA 4 R ?_;simp only[Aw,Ay];refine AA 5 R ?_;simp only[Aw,Ay];refine AA 6 R ?_;simp only[Aw,Ay];refine AA 7 R ?_;simp only[Aw,Ay];refine AA 8 R ?_;simp only[Aw,Ay];refine AA 9 R ?_;simp only[Aw,Ay];refine AA 10 R ?_;simp only[Aw,Ay];refine AA 11 R ?_;simp only[Aw,Ay];refine AA 12 R ?_;simp only[Aw,Ay];refine AA 13 R ?_
    simp only[Aw,Ay];refine AA 14 R ?_;simp only[Aw,Ay];refine AA 15 R ?_;simp only[Aw,Ay];refine AA 16 R ?_;simp only[Aw,Ay];refine AA 17 R ?_;simp only[Aw,Ay];refine AA 18 R ?_;simp only[Aw,Ay];refine AA 19 R ?_;simp only[Aw,Ay];refine AA 20 R ?_;simp only[Aw,Ay];refine Bk 21 (by kernel_rfl) rfl rfl (fun K hK=>?_);go_simp;refine ec.mono ?_;rintro e w9 ⟨rfl,dm⟩;have b9:Hid (Below W8 W8 w9):=Hd (((Below.refl _ W8).drew).trans dm);clear dm R;refine hK _ _ (fun _=>bf w9 b9) ?_
    clear hK K;refine Bk 22 (by kernel_rfl) rfl rfl (fun K hK=>?_);go_simp;have b8:=Hd (b9.alloc b9.size (.cells #[q] 3));refine hK _ _ (fun _=>bf _ b8) ?_;clear hK K;refine FX 23 (by kernel_rfl) rfl rfl rfl (fun K hK=>?_);refine wp_cut (x:=q) (g:=w9.heap.size) (c:=1) (.tmp 99) (.tmp 117) rfl rfl rfl (eb.later b8) (by simp[AV]) (by have:=d3.out;omega) ?_;intro ae aa r1 r2;have br:Hid (aa.ownsRow (w9.heap.size+1) 3 1 (.slice (w9.heap.size+1,0) (L8.length+1) ae) (L8.length+1) ((L8++[q]).map AV)):=Hd (by simpa only[World.size_alloc] using r1)
    have ag:=Hd (b8.trans (r2.mono b8.size));rw[d3.out]at br ⊢;clear r1 r2;have bj:=bf aa ag;refine hK _ _ (fun _=>bj) ?_;clear hK K;simp only[Aw,Ay];refine Bk 24 (by kernel_rfl) rfl rfl (fun K hK=>?_);go_simp;refine hK _ _ (fun _=>bj) ?_;clear hK K;refine Bk 25 (by kernel_rfl) rfl rfl (fun K hK=>?_);go_simp;refine hK _ _ (fun _=>bj) ?_;clear hK K;have ar:=bd.below ag bd.lt;have x1:=Ah.cell ar 1;have f1:=Ah.frozen ar 1;have xl:=ar.lt;simp at x1;refine Bk 26 (by kernel_rfl) rfl rfl (fun K hK=>?_);go_simp
    refine hK _ _ (fun h=>absurd rfl h) ?_;clear hK K;refine Dy (by kernel_rfl) ?_ _;have e6:w9.heap.size+1<aa.heap.size:=by
     rcases Bi br.out with⟨e,-⟩|⟨b',c',e,-,J,-⟩
     ·cases e
     ·cases e;exact J
    have ew:=Hd e6;generalize hb10:w9.heap.size+1=aj at *;have e8:=Hd hb10;have b1:Ah (aa.setCell (j,1) (.slice (aj,0) (i+1+1) ae)) j 72 #[(tb,0),.slice (aj,0) (i+1+1) ae,.slice (b7,0) (i+1) c7,(rb,0),.bool ov,steps]:=by simpa using ar.Be 1 (.slice (aj,0) (i+1+1) ae)
    have bh:AI l [72] aa (aa.setCell (j,1) (.slice (aj,0) (i+1+1) ae)):=(AI.refl _ _ aa).EH ar a0.lo (by simp) 1 _;generalize aa.setCell (j,1) (.slice (aj,0) (i+1+1) ae)=WA at *;have cy:=Hd b1;have eh:=Hd bh;clear x1 f1 xl ar bj e6 hb10;have x5:=Ah.cell b1 5;have f5:=Ah.frozen b1 5;have xl:=b1.lt;simp at x5;have h1:(steps:Int)<=900000:=by have:=be.out;omega
    clear b1 bh;go_wp2_with fail
    go_roundg (gk-1)
    case measure=>have:=HK.out;omega
    case rel=>
     have f6:Ah (WA.setCell (j,5) (.int .i64 ((steps:Int)+1))) j 72 #[(tb,0),.slice (aj,0) (i+1+1) ae,.slice (b7,0) (i+1) c7,(rb,0),.bool ov,.int .i64 ((steps:Int)+1)]:=by simpa using cy.Be 5 (.int .i64 ((steps:Int)+1))
     have b2:AI l [72] aa (WA.setCell (j,5) (.int .i64 ((steps:Int)+1))):=eh.EH cy a0.lo (by simp) 5 _;generalize WA.setCell (j,5) (.int .i64 ((steps:Int)+1))=WF at *;have g1:=bo.size;have g2:=ax.size;have g3:=aw.size;have g4:=ah.size;have g5:=ad.size;have g6:=a7.size;have g7:=ai.size;have g8:=b9.size;have g9:=f4.out;have fw:=ew.out;have fx:=e8.out;have fy:=an.size;have fz:b7<w7.heap.size:=g9.2;have f7:Ee l WF rb (Er a2 (c.ns.take p).reverse++[(⟨lf,-1,I,(c.ns.take p).reverse,false,false⟩,kv)]):=(((db.later a7).keeps ai (by decide) (by decide) (by decide)).later ag).keeps b2 (by decide) (by decide) (by decide)
     have cp:u::r=c.st.drop p:=by rw[ba.out,HD.out]
     have fq:(u::r).length=i+1:=by rw[cp,List.length_drop,HN.out];omega
     have dt:∀a3∈Er a2 (c.ns.take p).reverse++[(⟨lf,-1,I,(c.ns.take p).reverse,false,false⟩,kv)],∀b,a3.2.ownBlock=some b->b<w6.heap.size:=fun a3 hp b P=>(BY (db.kids a3 hp) b P).1
     have fk:(u::r).reverse=L8:=by rw[cp,List.reverse_drop,HN.out,show n-p=i+1 by omega,ek.out]
     have fj:(c.ns.drop p).reverse=L7:=by rw[List.reverse_drop,a9.out,show a1-p=i by omega,d1.out]
     have fo:c.tr.length=TL:=by rw[<-HT.out,lM,ey.out]
     have dy:(c.red pz I u q r).ns=TL::c.ns.drop p:=by show c.tr.length::c.ns.drop (pz.right I).length=_;rw[d4.out,fo]
     have cm:(c.red pz I u q r).st=q::u::r:=rfl;have fl:(c.red pz I u q r).st.length=i+1+1:=by rw[cm,List.length_cons,fq]
     have fe:(c.red pz I u q r).ns.length=i+1:=by rw[dy,List.length_cons,List.length_drop,a9.out];omega
     refine⟨c.red pz I u q r,Er a2 (c.ns.take p).reverse++[(⟨lf,-1,I,(c.ns.take p).reverse,false,false⟩,kv)],steps+1,.slice (aj,0) (i+1+1) ae,.slice (b7,0) (i+1) c7,Hd ⟨by rw[show ((steps+1:Nat):Int)=(steps:Int)+1 by omega];exact f6,f7,?_,?_,fun a3 hp b P e=>?_,fun a3 hp b P e=>?_,fun b P e=>?_,a0.lo,a0.GL,(an.trans (ag.mono an.size)).trans (b2.below (by have:=ag.size;omega)),a0.lt,?_⟩,Hd ?_,Hd ⟨?_,fun x hx=>?_⟩,Hd ?_,Hd ?_,Hd ?_,Hd ⟨fun b P=>.inr ?_,fun b P=>.inr ?_,fun a3 hp b P=>?_⟩⟩
     ·have h:=Ce (EP br (base':=l.heap.size) (by omega)) b2 (by decide)
      rw[fl,cm,List.reverse_cons,fk];exact h
     ·have h:=Ce (AS (Ce (EP bt (base':=l.heap.size) (by omega)) ai (by decide)) ag) b2 (by decide)
      rw[fe,dy,List.reverse_cons,fj];exact h
     ·have h:=dt a3 hp b P
      simp only[Value.ownBlock,Option.some.injEq]at e;omega
     ·have h:=dt a3 hp b P
      simp only[Value.ownBlock,Option.some.injEq]at e;omega
     ·simp only[Value.ownBlock,Option.some.injEq]at e P
      omega
     ·have J:=el.out
      have T:=be.out;exact⟨by omega,by omega,by omega⟩
     ·rw[By,YI,HT.out,List.map_singleton]
      show _=GH c.tr (c.ns.take (pz.right I).length).reverse++[⟨(pz.Bo I).1,-1,I,(c.ns.take (pz.right I).length).reverse,false,false⟩]
      rw[d4.out,em.out]
     ·omega
     ·rw[cm]at hx
      rcases List.mem_cons.1 hx with hx|hx
      ·rw[hx];exact es
      ·rw[cp]at hx
       exact HC.2 x (List.mem_of_mem_drop hx)
     ·rw[HK.out,Nat.add_sub_cancel];exact et
     ·have T:=be.out;have h3:=HK.out;omega
     ·have m1:∀{a b:World},Below a a b->AI l [72,155,102] a b:=fun h=>AI.AJ h
      exact(((((ax.trans (m1 aw)).trans (m1 ah)).trans (ad.mono (AF _) (by simp))).trans (m1 a7)).trans (ai.mono (AF _) (by simp))).trans ((m1 ag).trans (b2.mono (AF _) (by simp)))
     ·simp only[Value.ownBlock,Option.some.injEq]at P
      omega
     ·simp only[Value.ownBlock,Option.some.injEq]at P
      omega
     ·rcases mA.1 hp with hp|hp
      ·obtain⟨p2,fi,e1,-⟩:=Q6 hp
       exact d6.2.2 p2 fi b (by rw[<-e1];exact P)
      ·rw[mS.1 hp]at P
       have J:=ej b P;exact .inr (by omega)
end Go.Proofs.YtlogpnoioimhjaaGreatDoor
