/- . -/
import Derived.Test.YtendpobbjjaopaaGreatDoorXbf
set_option linter.all false
set_option maxRecDepth 100000
set_option maxHeartbeats 16000000
namespace Go.Proofs.YtendpobbjjaopaaGreatDoor
open Go.RowKit
open Value renaming slice→oG,int→oH,pointer→oI
open Option renaming some→oM,none→oN
open IntKind renaming i64→oO
open Obj renaming cells→oP
open Ending renaming returned→oQ
open World renaming cell?→oT
open Go renaming World→oU,Value→oV
variable{w w':oU}{f rb steps t tb:Nat}{nv v:oV}{l r:List Nat}{E:List (List It)}{T:List (Nd×oV)}{ov:Bool}{L:List TypeId}
def Gu.use(h:Gu w tb):∃U nT cT R nN cN T nR cR gs i p J j C ca l I o,Ah w tb 83 #[oG U nT cT,oG R nN cN,oG T nR cR,oH oO gs,oG i (pz.R.length+1) p,oH oO (pz.nt:Nat),oH oO J,oG j C ca,oG l I o] /\
  (∀y,Below w w y->∀s t:Nat,s<AS.length->t<=pz.nt->() 70 #[.agg #[oG i (pz.R.length+1) p,oH oO (pz.nt:Nat),oH oO J,oG j C ca,oG l I o],oH oO s,oH oO t] y fun e w'=>e=oQ (.agg #[oH oO (AZ pz AS Bv s t).1,oH oO (AZ pz AS Bv s t).2])/\Below y y w') /\
  (∀y,Below w w y->∀u k q:Nat,k<pz.R.length->FG AS u (pz.Br k).1=oM q->u<AS.length->() 72 #[.agg #[oG i (pz.R.length+1) p,oH oO (pz.nt:Nat),oH oO J,oG j C ca,oG l I o],oH oO u,oH oO (pz.Br k).1] y fun e w'=>e=oQ (oH oO q)/\Below y y w') /\
  (∀k,k<pz.R.length->∃b off Av c,i=oM ⟨b,off,oN⟩/\b<w.heap.size/\oT w ⟨b,off+k*2,oN⟩=oM (oH oO ((pz.Br k).1:Nat))/\oT w ⟨b,off+k*2+1,oN⟩=oM (oG Av (pz.right k).length c)):=by
 obtain⟨U,nT,cT,R,nN,cN,T,nR,cR,gs,i,nr,p,nt,J,j,C,ca,l,I,o,h1,h2,h3⟩:=h;obtain⟨a4,a7,a2,a5,a3,a6,e,hr,-,-⟩:=h3.open_;have e2:=Value.agg.inj e;simp only[Array.mk.injEq,List.cons.injEq,Value.slice.injEq,Value.int.injEq,and_true,true_and]at e2;obtain⟨⟨rfl,rfl,rfl⟩,rfl,-⟩:=e2;have a0:=h2.gn.fit;refine⟨U,nT,cT,R,nN,cN,T,nR,cR,gs,i,p,J,j,C,ca,l,I,o,h1,fun y hy s t hs ht=>Zx (h3.Ng hy) hs ht,fun y hy u k q hk P hu=>?_,fun k hk=>?_⟩
 ·have hl:=a0.left (pz.Br k) (by
   unfold Gz.Br;rw[if_neg nX,dG,eG hk];exact List.getElem_mem hk)
  refine(gK (h3.Ng hy) hu hl.1 hl.2 (by have:=a0.nt;omega) (by have:=a0.nn;omega)).mono ?_;rintro e w' ⟨rfl,hb⟩;unfold FG at P;split at P
  ·rename_i hh
   cases P
   exact⟨by rw[Int.toNat_of_nonneg hh.1],hb⟩
  ·cases P
 ·obtain⟨b,off,rv,e,a1,-,c0,c1,hn,-⟩:=hr k nX
  obtain⟨⟨A,c,rfl,-⟩,-,-⟩:=hn;exact⟨b,off,A,c,e,a1,c0,c1⟩
def D1(w:oU)(v:oV)(l:List Nat):Prop:=(v=oG oN 0 0/\l=[])\/∃b c,v=oG (oM ⟨b,0,oN⟩) l.length c/\l.length<=c/\b<w.heap.size/\∀k x,l[k]?=oM x->oT w ⟨b,k,oN⟩=oM (AY x)
def D1.later(h:D1 w v l)(j:Below w w w'):D1 w' v l:=by
 rcases h with h|⟨b,c,rfl,o,i,p⟩
 ·exact .inl h
 ·exact .inr ⟨b,c,rfl,o,A0 i j.size,fun k x t=>(j.cell (p:=⟨b,k,oN⟩) i).trans (p k x t)⟩
def Hs.later(h:Hs w v l)(j:Below w w w'):Hs w' v l:=by
 rcases h with h|⟨b,rfl,i,o⟩
 ·exact .inl h
 ·exact .inr ⟨b,rfl,A0 i j.size,fun k x p=>(j.cell (p:=⟨b,k,oN⟩) i).trans (o k x p)⟩
def D1.own{B n:Nat}(h:w.ownsRow B 3 1 v n (l.map AY))(p:l.length=n):D1 w v l:=by
 subst p;rcases Bj h with⟨rfl,h0⟩|⟨b,c,rfl,t,j,o,_⟩
 ·exact .inl ⟨rfl,List.eq_nil_of_length_eq_zero h0⟩
 ·refine .inr ⟨b,c,rfl,o,j,fun k x i=>?_⟩
  have C:=(sG.1 i).1;rw[Bh h k nX,pG,i];rfl
def D1.cut{b n c:Nat}(h:D1 w (oG (b,0) n c) l){m:Nat}(J:m<=l.length):Hs w (oG (b,0) m m) (l.take m):=by
 rcases h with⟨e,-⟩|⟨t,C,e,I,j,o⟩
 ·cases e
 ·cases e
  have p:(l.take m).length=m:=by rw[List.length_take];omega
  refine .inr ⟨b,by rw[p],j,fun k x i=>?_⟩;rw[List.getElem?_take]at i;split at i
  ·exact o k x i
  ·cases i
def Uh{s:Nat}(h:l.reverse=s::r):0<l.length/\l[l.length-1]?=oM s:=by
 have j:=congrArg List.length h;rw[List.length_reverse,List.length_cons]at j;refine⟨nX,?_⟩;have i:l.reverse[0]?=oM s:=by rw[h];rfl
 rw[List.getElem?_reverse nX]at i;rw[show l.length-1=l.length-1-0 by omega];exact i
def Wk{g:Gz}{K:List (List (Nat×Nat))}{s:Nat}{a:It}(h:Fh g E K t (f+1) (s::r)=oM a) :
  ((AZ g E K s t).1≠2/\AZ g E K s t=a)\/((AZ g E K s t).1=2/\(AZ g E K s t).2<g.R.length/\(s::r).length<=10000/\∃u i q,(s::r).drop (g.right (AZ g E K s t).2).length=u::i/\FG E u (g.Br (AZ g E K s t).2).1=oM q/\Fh g E K t f (q::u::i)=oM a):=by
 unfold Fh at h;split at h
 ·rename_i j
  right;split at h
  ·rename_i o
   refine⟨j,o.1,o.2,?_⟩;cases p:(s::r).drop (g.right (AZ g E K s t).2).length with
   | nil=>rw[p]at h;cases h
   | cons u i=>
    rw[p]at h;simp only at h;cases l:FG E u (g.Br (AZ g E K s t).2).1 with
    | none=>rw[l]at h;cases h
    | some q=>rw[l]at h;exact⟨u,i,q,rfl,l,h⟩
  ·cases h
 ·rename_i j
  exact .inl ⟨j,Option.some.inj h⟩
def Q7{u A q:Nat}(h:FG E u A=oM q):q<E.length:=by
 unfold FG at h;split at h
 ·rename_i i
  cases h
  omega
 ·cases h
def Xn{w0:oU}{eb:Nat}{st ns:List Nat}{sv:oV}(h:CF w0 w eb tb rb st ns T ov steps sv nv)(h0:0<st.length){a:It}(ht:t<=pz.nt)(hl:Fh pz AS Bv t f st=oM a)(bq:∀s∈st,s<AS.length) :
  () 69 #[(eb,0),t] w fun e w'=>e=oQ (.agg #[a.1,a.2])/\Below w w w':=by
 have ck:=h.Cm.1;have hS:D1 w sv st.reverse:=D1.own h.Hx oA;obtain⟨bs,cs,cv,cj,aw,bp⟩:∃b c,sv=oG (oM ⟨b,0,oN⟩) st.length c/\st.length<=c/\b<w.heap.size/\∀k x,st.reverse[k]?=oM x->oT w ⟨b,k,oN⟩=oM (AY x):=by
  rcases hS with⟨-,i⟩|⟨b,c,i,j,U,h4⟩
  ·have:=congrArg List.length i
   rw[List.length_reverse,List.length_nil]at this;omega
  ·rw[List.length_reverse]at i j
   exact⟨b,c,i,j,U,h4⟩
 subst cv;obtain⟨AT,nT,cT,AN,nN,cN,AR,nR,cR,gs,Ar,cr,nn,Aa,na,ca,Ag,ng,cg,hT,hA,hG,hR⟩:=(h.GO.later h.base).use;have hE:=h.box;have aa:Hid (∀y,Below w w y->(oT y (eb,0)=oM (oI (tb,0))/\oT y (eb,1)=oM (oG (bs,0) st.length cs)/\eb<y.heap.size)/\(oT y (tb,4)=oM (oG Ar (pz.R.length+1) cr)/\oT y (tb,5)=oM (oH oO (pz.nt:Nat))/\oT y (tb,6)=oM (oH oO nn)/\oT y (tb,7)=oM (oG Aa na ca)/\oT y (tb,8)=oM (oG Ag ng cg)/\tb<y.heap.size)):=Hd (fun y o=>by have e1:=hE.below o hE.lt;have e2:=hT.below o hT.lt;exact⟨⟨e1.cell 0,e1.cell 1,e1.lt⟩,e2.cell 4,e2.cell 5,e2.cell 6,e2.cell 7,e2.cell 8,e2.lt⟩)
 have bd:Hid (∀y,Below w w y->∀k x:Nat,st.reverse[k]?=oM x->oT y ⟨bs,k,oN⟩=oM (oH oO x)/\bs<y.heap.size):=Hd (fun y o k x hx=>⟨(o.cell (p:=⟨bs,k,oN⟩) aw).trans (bp k x hx),A0 aw o.size⟩);have cf:Hid (∀k,k<pz.R.length->∃b off Av c,Ar=oM ⟨b,off,oN⟩/\∀y,Below w w y->b<y.heap.size/\oT y ⟨b,off+k*2,oN⟩=oM (oH oO ((pz.Br k).1:Nat))/\oT y ⟨b,off+k*2+1,oN⟩=oM (oG Av (pz.right k).length c)):=Hd (fun k hk=>by obtain⟨b,off,Av,c,e,b1,c0,c1⟩:=hR k hk;exact⟨b,off,Av,c,e,fun y o=>⟨A0 b1 o.size,(o.cell (p:=⟨b,off+k*2,oN⟩) b1).trans c0,(o.cell (p:=⟨b,off+k*2+1,oN⟩) b1).trans c1⟩⟩)
 have HA:=Hd hA;have HG:=Hd hG;have ak:=Hd (AG w (oP #[oH oO 0,oH oO 0] 95));have b8:=Hd (Ah.new w 95 #[oH oO 0,oH oO 0]);have be:=Hd bq;have c6:=Hd hl;obtain⟨n,hn⟩:∃n,st.length=n:=⟨_,rfl⟩
 rw[hn]at aa cj h0 ck;have HN:=Hd hn;clear h hS aw bp hT hA hG hR hE bq hl hn;generalize pz.nt=nt at *;generalize bm:pz.R.length=nr at *;have c8:=Hd bm;clear bm;go_enter Tryz.func69,Tryz.ntmps69
 obtain⟨⟨e0,e1,el⟩,t4,t5,t6,t7,t8,tl⟩:=aa _ ak;go_wp2_with fail
 clear e0 e1 el t4 t5 t6 t7 t8 tl;generalize w.alloc (oP #[oH oO 0,oH oO 0] 95)=W1 at *;go_loopg [5,6] f (fun k bv uv wr=>∃(m:Nat) (up:List Nat),bv=oH oO m/\Hid (0<m/\m<=n)/\Hid (D1 wr uv up)/\Hid (Below W1 W1 wr)/\Hid (Fh pz AS Bv t k (up.reverse++st.drop (n-m))=oM a)/\Hid ((∀s∈up,s<AS.length)/\up.length<=20000))
 case atStart=>exact⟨n,[],rfl,Hd ⟨h0,Ay _⟩,Hd (.inl ⟨rfl,rfl⟩),Hd (Below.refl _ _),by simpa using c6,Hd ⟨oA,nY⟩⟩
 case round=>
  obtain⟨m,up,rfl,HM,HU,HB,HL,HP⟩:=hrel;rename oU=>w2
  have a6:=HL.out;obtain⟨k',ay⟩:∃k',gk=k'+1:=by
   cases gk with
   | zero=>unfold Fh at a6;cases a6
   | succ k'=>exact⟨k',rfl⟩
  rw[ay]at a6;have HK:=Hd ay;have ae:Below w w w2:=ak.trans (HB.mono ak.size);obtain⟨⟨e0,e1,el⟩,t4,t5,t6,t7,t8,tl⟩:=aa w2 ae;have hm:=HM.out;have dd:=hm.2;have d7:=hm.1;obtain⟨s,V,hV⟩:∃s V,up.reverse++st.drop (n-m)=s::V:=by
   cases hc:up.reverse++st.drop (n-m) with
   | nil=>have i:=congrArg List.length hc;rw[Cb,List.length_drop,HN.out,List.length_nil]at i;omega
   | cons s V=>exact⟨s,V,rfl⟩
  rw[hV]at a6;have HV:=Hd hV;have b0:=Wk a6;rw[c8.out]at b0;have c7:=Hd b0;clear b0;have b4:s<AS.length:=by
   have i:s∈up.reverse++st.drop (n-m):=by rw[hV];simp
   rcases mA.1 i with i|i
   ·exact HP.1 s (by simpa using i)
   ·exact be s (List.mem_of_mem_drop i)
  have d0:=Hd b4;have ba:=Hd (fun(y:oU) (o:Below w2 w2 y)=>HA y (ae.trans (o.mono ae.size)) s t b4 ht);have a9:=Hd ae;obtain⟨ul,af⟩:∃k,up.length=k:=⟨_,rfl⟩
  have a1:=Hd af;obtain⟨Au,cu,cz⟩:∃A c,u6=oG A ul c:=by
   rcases HU.out with⟨i,j⟩|⟨b,c,i,-⟩
   ·subst j;subst af;exact⟨oN,0,i⟩
   ·exact⟨_,c,by rw[i,af]⟩
  subst cz;have cy:=HP.2;rw[af]at cy;have d8:(0:Int)<(m:Int):=by omega
  have db:(m:Int)<=(n:Int):=by omega
  clear ay hV a6 b4 ae af hm
  go_upto_if 19 with fail
  go_cut [7] (fun v wx=>v=oH oO s/\wx=w2)
  case first=>
   cases p:up.reverse with
   | nil=>
    have i:up=[]:=by simpa using p
    have j:ul=0:=by rw[<-a1.out,i];rfl
    subst j;have U:st.reverse[m-1]?=oM s:=by have J:=HV.out;rw[p,List.nil_append]at J;rw[List.getElem?_reverse (by rw[HN.out];omega),HN.out,show n-1-(m-1)=n-m+0 by omega,<-List.getElem?_drop,J];rfl
    obtain⟨c0,cl⟩:=bd w2 a9 (m-1) s U;have dc:((m-1:Nat):Int)=(m:Int)-1:=by omega
    have cq:((m:Int)-1).toNat=m-1:=by omega
    clear p i U;go_wp2_with fail
    go_meet
    exact⟨rfl,rfl⟩
   | cons s' r=>
    have J:=HV.out;rw[p]at J;obtain⟨rfl,-⟩:=List.cons.inj J;obtain⟨i,j⟩:=Uh p;rw[a1.out]at i j;obtain⟨b,c,e,U,h4,h5⟩:∃b c,Value.slice Au ul cu=oG (oM ⟨b,0,oN⟩) up.length c/\up.length<=c/\b<w2.heap.size/\∀k x,up[k]?=oM x->oT w2 ⟨b,k,oN⟩=oM (AY x):=by
     rcases HU.out with⟨-,i⟩|h
     ·rw[i]at p;cases p
     ·exact h
    simp only[Value.slice.injEq]at e;obtain⟨rfl,-,rfl⟩:=e;have c0:oT w2 ⟨b,ul-1,oN⟩=oM (oH oO s'):=h5 _ _ j;have cx:(0:Int)<(ul:Int):=by omega
    have bt:((ul:Int)-1).toNat=ul-1:=by omega
    clear p J j U h5;go_wp2_with fail
    go_meet
    exact⟨rfl,rfl⟩
  case rest=>
   obtain⟨rfl,rfl⟩:=hcut;have aj:=b8.below HB b8.lt;have b9:=Hd (fun(y:oU) (o:Below wc wc y)=>aj.below o aj.lt);rcases c7.out with⟨ct,ax⟩|⟨j,hk,d6,u,r2,q,hd,hq,bo⟩
   ·have HX:Hid (() 70 #[.agg #[oG Ar (nr+1) cr,nt,nn,oG Aa na ca,oG Ag ng cg],oH oO s,t] wc fun e w'=>e=oQ (.agg #[a.1,a.2])/\Below wc wc w'):=Hd (by have h:=ba wc (Below.refl _ _);rwa [ax]at h)
    rw[ax]at ct;have de:¬((a.1:Int)=2):=by omega
    clear ax aj;go_wp2_with (
           go_at_call 70;refine HX.mono ?_;rintro e w3 ⟨rfl,a3⟩
           have a7:=Hd a3;have a2:=b9 w3 a3;have y0:=Ah.cell a2 0;have y1:=Ah.cell a2 1;have f0:=Ah.frozen a2 0;have f1:=Ah.frozen a2 1;have yl:=a2.lt;simp at y0 y1;clear a3 a2)
    have bk:Ah (((w3.setCell (w,0) a.1).setCell (w,1) a.2).alloc (oP #[a.1,a.2] 95)) w.heap.size 95 #[a.1,a.2]:=by have h:=(((b9 w3 a7).Ba 0 a.1).Ba 1 a.2).alloc (oP #[a.1,a.2] 95);simpa using h
    have z0:=Ah.cell bk 0;have z1:=Ah.cell bk 1;simp only[List.getElem?_toArray,List.getElem?_cons_zero,List.getElem?_cons_succ]at z0 z1;refine bodyPost_ret (v:=.agg #[a.1,a.2]) (by simp[results,Tryz.f69,go_sem,z0,z1]) rfl ?_;refine⟨rfl,?_⟩;have i:Below w w w3:=a9.trans (a7.mono a9.size);exact((i.setCell (p:=⟨w.heap.size,0,oN⟩) (Ay _) _).setCell (p:=⟨w.heap.size,1,oN⟩) (Ay _) _).alloc (by simpa [World.setCell] using i.size) _
   ·obtain⟨I,az⟩:∃k,(AZ pz AS Bv s t).2=k:=⟨_,rfl⟩
    rw[az]at hk hd hq;have HX:Hid (() 70 #[.agg #[oG Ar (nr+1) cr,nt,nn,oG Aa na ca,oG Ag ng cg],oH oO s,t] wc fun e w'=>e=oQ (.agg #[oH oO 2,I])/\Below wc wc w'):=Hd (by have h:=ba wc (Below.refl _ _);rw[j,az]at h;exact h);have br:u<AS.length:=by
     have i:u∈s::V:=List.mem_of_mem_drop (by rw[hd];simp);rw[<-HV.out]at i;rcases mA.1 i with i|i
     ·exact HP.1 u (by simpa using i)
     ·exact be u (List.mem_of_mem_drop i)
    have bx:=Hd (fun(y:oU) (o:Below w w y)=>HG y o u I q hk hq br);obtain⟨b,off,Av,c,rfl,bn⟩:=cf I hk;have bc:=Hd bn;obtain⟨l,bl⟩:∃k,(pz.right I).length=k:=⟨_,rfl⟩
    rw[bl]at hd bc;generalize (pz.Br I).1=lf at *;have HD:=Hd hd;have cb:=Hd (Q7 hq);have cd:=Hd bo;have d3:(I:Int)<(nr:Int):=by omega
    have d4:(I:Int)<(nr:Int)+1:=by omega
    clear bl hd hq bo br bn j az aj;go_upto_region 10 with(go_at_call 70;refine HX.mono ?_;rintro e w3 ⟨rfl,a3⟩;have a7:=Hd a3;clear a3)
    have b7:=Hd (Ah.new w3 95 #[oH oO 2,I]);have ag:=Hd (a7.alloc a7.size (oP #[oH oO 2,I] 95));generalize w3.alloc (oP #[oH oO 2,I] 95)=R at *;generalize w3.heap.size=a4 at *;clear e0 e1 el t4 t5 t6 t7 t8 tl;have ai:=Hd (a9.trans (ag.mono a9.size));have bf:Hid (∀y,Below R R y->(oT y (eb,0)=oM (oI (tb,0))/\eb<y.heap.size)/\(oT y (tb,4)=oM (oG (oM ⟨b,off,oN⟩) (nr+1) cr)/\tb<y.heap.size)/\(oT y (a4,1)=oM (oH oO I)/\a4<y.heap.size)/\b<y.heap.size/\oT y ⟨b,off+I*2,oN⟩=oM (oH oO lf)/\oT y ⟨b,off+I*2+1,oN⟩=oM (oG Av l c)):=Hd (fun y o=>by
     have i:Below w w y:=ai.trans (o.mono ai.size);obtain⟨⟨q1,q2,q3⟩,q4,q5,q6,q7,q8,q9⟩:=aa y i;obtain⟨r1,r2,r3⟩:=bc y i;have j:=b7.below o b7.lt;exact⟨⟨q1,q3⟩,⟨q4,q9⟩,⟨j.cell 1,j.lt⟩,r1,r2,r3⟩)
    go_region_held3 (fun y=>(oT y (eb,0)=oM (oI (tb,0))/\eb<y.heap.size)/\(oT y (tb,4)=oM (oG (oM ⟨b,off,oN⟩) (nr+1) cr)/\tb<y.heap.size)/\(oT y (a4,1)=oM (oH oO I)/\a4<y.heap.size)/\b<y.heap.size/\oT y ⟨b,off+I*2,oN⟩=oM (oH oO lf)/\oT y ⟨b,off+I*2+1,oN⟩=oM (oG Av l c))
     (first|exact bf _ (Below.refl _ _).drew|exact bf _ (((Below.refl _ _).drew).alloc (Ay _) _))
     (fail)
    have ad:Hid (Ah (R.alloc (oP #[lf,oG Av l c] 113)).drew R.heap.size 113 #[lf,oG Av l c]):=Hd (Ah.new R 113 _).drew;have ah:Hid (Below R R (R.alloc (oP #[lf,oG Av l c] 113)).drew):=Hd (AG R _).drew;generalize (R.alloc (oP #[lf,oG Av l c] 113)).drew=W5 at *;generalize R.heap.size=r5 at ad ⊢;have x1:=Ah.cell ad 1;have xl:=ad.lt;simp at x1;have au:=Hd (ai.trans (ah.mono ai.size));have bh:Hid (D1 W5 (oG Au ul cu) up):=Hd ((HU.later ag).later ah)
    have an:Hid ((up.reverse++st.drop (n-m)).drop l=u::r2):=Hd (by rw[HV.out];exact HD)
    go_upto_if 66 with fail
    go_cut [5,6] (fun bv uv wx=>∃(C:Nat) (P:List Nat),bv=oH oO C/\Hid (0<C/\C<=n)/\Hid (Hs wx uv P)/\Hid (P.reverse++st.drop (n-C)=u::r2)/\Hid ((∀s∈P,s<AS.length)/\P.length<=20000)/\wx=W5)
    case first=>
     by_cases d5:l<=ul
     ·have cn:(l:Int)<=(ul:Int):=by omega
      have a0:=an.out;rw[List.drop_append,List.length_reverse,a1.out,show l-ul=0 by omega,List.drop_zero]at a0;rcases bh.out with⟨i,j⟩|⟨b2,c2,e,U,h4,h5⟩
      ·simp only[Value.slice.injEq]at i
       obtain⟨rfl,rfl,rfl⟩:=i;obtain rfl:l=0:=by omega
       clear a0;go_wp2_with fail
       go_meet
       refine⟨m,[],rfl,HM,Hd (.inl ⟨rfl,rfl⟩),Hd ?_,Hd ⟨oA,nY⟩,rfl⟩;have h:=an.out;rw[j]at h;exact h
      ·have e0:=e
       simp only[Value.slice.injEq]at e;obtain⟨rfl,-,rfl⟩:=e;rw[a1.out]at U;have d1:(ul:Int)<=(cu:Int):=by omega
       have hcut:=D1.cut bh (m:=ul-l) (by rw[a1.out];omega);have bw:=Hd hcut;have ao:=Hd a0;have bt:((ul:Int)-l).toNat=ul-l:=by omega
       have df:(ul:Int)-l<=cu:=by omega
       have dg:0<=(ul:Int)-l:=by omega
       clear a0 h5 hcut e0;go_wp2_with fail
       go_meet
       refine⟨m,up.take (ul-l),rfl,HM,bw,Hd ?_,Hd ⟨fun s hs=>HP.1 s (List.mem_of_mem_take hs),by rw[List.length_take];omega⟩,rfl⟩;rw[List.reverse_take,a1.out,show ul-(ul-l)=l by omega];exact ao
     ·have cn:¬((l:Int)<=(ul:Int)):=by omega
      have a0:=an.out;rw[List.drop_append,List.length_reverse,a1.out,List.drop_of_length_le (by rw[List.length_reverse,a1.out];omega),List.nil_append,List.drop_drop]at a0;have cm:=congrArg List.length a0;rw[List.length_drop,HN.out,List.length_cons]at cm;have ao:=Hd a0;clear a0;go_wp2_with fail
      go_meet
      refine⟨m-(l-ul),[],by congr 1;omega,Hd nX,Hd (.inl ⟨rfl,rfl⟩),Hd ?_,Hd ⟨oA,nY⟩,rfl⟩;rw[List.reverse_nil,List.nil_append,show n-(m-(l-ul))=n-m+(l-ul) by omega];exact ao
    case rest=>
     obtain⟨C,P,rfl,bb,al,ar,c9,rfl⟩:=hcut;generalize wc=W6 at *;have b5:P.length<=10000:=by have i:=congrArg List.length ar;have j:=congrArg List.length HD;rw[Cb,List.length_reverse]at i;rw[List.length_drop]at j;omega
     have bi:=Hd b5;have cp:=bb.out;obtain⟨x0,R0,b6⟩:∃x av,st.drop (n-C)=x::av:=by
      cases hc:st.drop (n-C) with
      | nil=>have i:=congrArg List.length hc;rw[List.length_drop,HN.out,List.length_nil]at i;omega
      | cons x av=>exact⟨x,av,rfl⟩
     have U:st.reverse[C-1]?=oM x0:=by rw[List.getElem?_reverse (by rw[HN.out];omega),HN.out,show n-1-(C-1)=n-C+0 by omega,<-List.getElem?_drop,b6];rfl
     obtain⟨c0,cl⟩:=bd W6 au (C-1) x0 U;obtain⟨⟨e0,e1,el⟩,t4,t5,t6,t7,t8,tl⟩:=aa W6 au;have d9:(0:Int)<(C:Int):=by omega
     have da:(C:Int)<=(n:Int):=by omega
     have cq:((C:Int)-1).toNat=C-1:=by omega
     have ch:=Hd b6;obtain⟨k2,a5⟩:∃k,P.length=k:=⟨_,rfl⟩
     have ab:=Hd a5;obtain⟨A6,cw⟩:∃A,u6=oG A k2 k2:=by
      rcases al.out with⟨i,j⟩|⟨b3,i,-⟩
      ·rw[j]at a5;subst a5;exact⟨oN,i⟩
      ·rw[a5]at i;exact⟨_,i⟩
     subst cw;have d2:k2<=10000:=by rw[<-a5];exact b5
     clear b6 U b5 cp a5
     go_upto_if 93 with fail
     clear c0 cl
     go_cut [11] (fun v wx=>v=oH oO u/\wx=W6)
     case first=>
      have J:=ar.out;rw[ch.out]at J;cases p:P.reverse with
      | nil=>
       have i:P=[]:=by simpa using p
       have j:k2=0:=by rw[<-ab.out,i];rfl
       rw[p]at J;obtain⟨rfl,-⟩:=List.cons.inj J;subst j;clear J p i;go_wp2_with fail
       go_meet
       exact⟨rfl,rfl⟩
      | cons s' r=>
       rw[p]at J;obtain⟨rfl,-⟩:=List.cons.inj J;obtain⟨i,j⟩:=Uh p;rw[ab.out]at i j;rcases al.out with⟨-,h6⟩|⟨b3,e,h4,h5⟩
       ·rw[h6]at p;cases p
       ·simp only[Value.slice.injEq]at e
        obtain⟨rfl,-⟩:=e;have c0:oT W6 (b3,k2-1)=oM (oH oO s'):=h5 _ _ j;have cx:(0:Int)<(k2:Int):=by omega
        have bt:((k2:Int)-1).toNat=k2-1:=by omega
        clear p J j h5;go_wp2_with fail
        go_meet
        exact⟨rfl,rfl⟩
     case rest=>
      obtain⟨rfl,rfl⟩:=hcut;generalize wc=W6 at *;have z0:=Ah.cell ad 0;have zl:=ad.lt;simp at z0;have bz:=Hd (bx W6.drew (au.drew));go_upto_region 19 with fail
      go_region_law (first
       | (go_simp;go_at_call 72;refine bz.mono ?_;rintro e w7 ⟨rfl,bj⟩;have a8:=Hd (((Below.refl _ W6).drew).trans bj);clear bj)
       | (refine cS (x:=q) (g:=w7.heap.size) (c:=1) (.tmp 100) (.tmp 112) rfl rfl rfl rfl (al.later (a8.alloc a8.size (oP #[q] 3))) (by simp[AY]) (by have:=bi.out;omega) ?_;intro c' w8 r1 r2;have cc:=Hd r1;have bu:=Hd ((a8.alloc a8.size (oP #[q] 3)).trans (r2.mono (by have:=a8.size;simp;omega)));clear r1 r2))
      all_goals
       have aq:Hid (Fh pz AS Bv t (gk-1) ((P++[q]).reverse++st.drop (n-C))=oM a/\D1 w8 (oG (oM ⟨(w7.alloc (oP #[q] 3)).heap.size,0,oN⟩) (k2+1) c') (P++[q])/\Below W1 W1 w8):=Hd ⟨by rw[HK.out,Nat.add_sub_cancel,List.reverse_append,List.reverse_singleton,List.singleton_append,List.cons_append,ar.out];exact cd,D1.own (by rw[<-ab.out];exact cc) (by simp[ab.out]),HB.trans ((ag.trans ((ah.trans (bu.mono ah.size)).mono ag.size)).mono HB.size)⟩;go_wp2
       go_roundg (gk-1)
       case measure=>have:=HK.out;omega
       case rel=>
        refine⟨C,P++[q],rfl,bb,Hd ?_,Hd aq.2.2,Hd aq.1,Hd ⟨fun s hs=>?_,by have:=bi.out;simp;omega⟩⟩
        ·rw[ab.out];simpa using aq.2.1
        ·rcases mA.1 hs with hs|hs
         ·exact c9.1 s hs
         ·rw[mS.1 hs];exact cb
def GX(i:List Nd)(j:List Nat):List Nd:=j.foldl (fun i k=>i.modify k fun x=>{x with below:=true}) i
theorem kY(T:List (Nd×oV))(j:List Nat):(Ee T j).map (·.1)=GX (T.map (·.1)) j:=by
 induction j generalizing T with
 | nil=>rfl
 | cons k j l=>
  rw[Ee,List.foldl_cons];refine(l _).trans ?_;rw[GX,GX,List.foldl_cons];congr 1;apply List.ext_getElem?;intro i;simp only[pG,List.getElem?_modify];cases T[i]? with
  | none=>rfl
  | some p=>simp only[Option.map_some,Option.map_eq_map];split<;>rfl
def LO(j:List Nd)(i:List Nat):Bool:=decide i.Nodup&&i.all fun k=>(j[k]?.map Nd.below)==oM false
structure Ce where
 st:List Nat
 ns:List Nat
 tr:List Nd
variable{st:List Nat}{o:It×Ce}
section
variable (g:Gz) (E:List (List It)) (K:List (List (Nat×Nat)))
def Ce.red(c:Ce)(k u q:Nat)(r:List Nat):Ce:=⟨q::u::r,c.tr.length::c.ns.drop (g.right k).length,GX c.tr (c.ns.take (g.right k).length).reverse++[⟨(g.Br k).1,-1,k,(c.ns.take (g.right k).length).reverse,false,false⟩]⟩
def Hg(t:Nat):Nat->Ce->Option (It×Ce)
 | 0,_=>oN
 | f+1,c=>match c.st with
  | []=>oN
  | s::i=>if (AZ g E K s t).1=2 then(if (AZ g E K s t).2<g.R.length/\(s::i).length<=9000/\(g.right (AZ g E K s t).2).length<=c.ns.length/\0<c.ns.length/\c.tr.length<=90000/\LO c.tr (c.ns.take (g.right (AZ g E K s t).2).length).reverse=true then match (s::i).drop (g.right (AZ g E K s t).2).length with
   | []=>oN
   | u::r=>match FG E u (g.Br (AZ g E K s t).2).1 with
    | none=>oN
    | some q=>Hg t f (c.red g (AZ g E K s t).2 u q r)
   else oN) else oM (AZ g E K s t,c)
variable {g E K}
def eO{c:Ce}{s:Nat}(C:c.st=s::st)(h:Hg g E K t (f+1) c=oM o) :
  ((AZ g E K s t).1≠2/\o=(AZ g E K s t,c))\/((AZ g E K s t).1=2/\((AZ g E K s t).2<g.R.length/\(s::st).length<=9000/\(g.right (AZ g E K s t).2).length<=c.ns.length/\0<c.ns.length/\c.tr.length<=90000/\LO c.tr (c.ns.take (g.right (AZ g E K s t).2).length).reverse=true)/\∃u r q,(s::st).drop (g.right (AZ g E K s t).2).length=u::r/\FG E u (g.Br (AZ g E K s t).2).1=oM q/\Hg g E K t f (c.red g (AZ g E K s t).2 u q r)=oM o):=by
 unfold Hg at h;rw[C]at h;simp only at h;split at h
 ·rename_i i
  right;split at h
  ·rename_i p
   refine⟨i,p,?_⟩;cases l:(s::st).drop (g.right (AZ g E K s t).2).length with
   | nil=>rw[l]at h;cases h
   | cons u r=>
    rw[l]at h;simp only at h;cases j:FG E u (g.Br (AZ g E K s t).2).1 with
    | none=>rw[j]at h;cases h
    | some q=>rw[j]at h;exact⟨u,r,q,rfl,j,h⟩
  ·cases h
 ·rename_i i
  exact .inl ⟨i,(Option.some.inj h).symm⟩
end
def Eh.keeps{j:oU}{B:Nat}(h:Eh j w rb T)(i:AI B L w w')(C:143 ∉ L)(I:153 ∉ L)(J:3 ∉ L):Eh j w' rb T:=by obtain⟨l,o,t⟩:=h.box;exact⟨⟨l,i.Aj o (.inr C),Ch t i I⟩,fun p P=>Ch (h.kids p P) i J,h.lo,h.Cm⟩
def CF.keeps{l:oU}{o:Nat}{p:List Nat}{t:Bool}{C:oV}(h:CF l w o tb rb st p T t steps C nv)(i:AI l L w w')(h0:91 ∉ L)(I:143 ∉ L)(J:153 ∉ L)(j:3 ∉ L):CF l w' o tb rb st p T t steps C nv:=
 ⟨i.Aj h.box (.inr h0),h.tree.keeps i I J j,Ch h.Hx i j,Ch h.nodes i j,h.JZ,h.JR,h.ap,h.lo,h.GO,h.base.trans (i.below h.base.size),h.lt,h.Cm⟩
def GB(w:oU)(v v':oV):Prop:=∀b,v'.ownBlock=oM b->v.ownBlock=oM b\/w.heap.size<=b
def NG(w:oU)(T T':List (Nd×oV)):Prop:=∀p∈T',∀b,p.2.ownBlock=oM b->(∃q∈T,q.2.ownBlock=oM b)\/w.heap.size<=b
def PN(t w:oU)(C tb rb:Nat)(T:List (Nd×oV))(J:Bool)(I:Nat)(P nv:oV)(o:It×Ce)(e:Ending)(w':oU):Prop:=
 e=oQ (.agg #[o.1.1,o.1.2])/\∃i l p j,CF t w' C tb rb o.2.st o.2.ns i J l p j/\i.map (·.1)=o.2.tr/\l<=I/\AI t [91,153,143] w w'/\GB w P p/\GB w nv j/\NG w T i
def Yt{B b n c m o:Nat}(h:w.ownsRow B 3 1 (oG (b,0) n c) n (l.map AY))(P:l.length=n)(hm:m<=n)(i:o=n-m\/c=n-m)(hn:n<=10000):BF w (oG (b,o) m (c-(n-m))) (l.drop (n-m)):=by
 obtain⟨a0,R⟩:n<=c/\b<w.heap.size:=by
  rcases Bj h with⟨e,-⟩|⟨U,t,e,-,C,I,-⟩
  ·cases e
  ·cases e;exact⟨I,C⟩
 have p:(l.drop (n-m)).length=m:=by rw[List.length_drop,P];omega
 refine⟨⟨_,_,by rw[p],fun k x j=>?_⟩,nX,fun T n' t e=>?_⟩
 ·have J:=(sG.1 j).1
  rw[p]at J;obtain rfl:o=n-m:=by rcases i with i|i<;>omega
  refine⟨b,n-m,rfl,R,?_⟩;rw[List.getElem?_drop]at j;rw[Bh h _ nX,pG,j];rfl
 ·cases e
  exact⟨nX,fun e=>by cases e⟩
def mM{l:oU}{j:Nat}{c:Ce}{T0:List (Nd×oV)}{sv:oV}(h:CF l w j tb rb c.st c.ns T0 ov steps sv nv)(hT:T0.map (·.1)=c.tr)(hw:l.heap.size<=w.heap.size)(J:c.st.length=c.ns.length+1){bm:Nat}(ht:t<=pz.nt)(hl:Hg pz AS Bv t f c=oM o)(e6:∀s∈c.st,s<AS.length)(fe:steps+f<=bm)(gr:bm<=900000) :
  () 43 #[(j,0),t] w (PN l w j tb rb T0 ov bm sv nv o):=by
 obtain⟨AT,nT,cT,AN,nN,cN,AR,nR,cR,gs,Ar,cr,nn,Aa,na,ca,Ag,ng,cg,dj,hA,hG,hR⟩:=h.GO.use;have bx:Hid (∀y,Below l l y->oT y (tb,4)=oM (oG Ar (pz.R.length+1) cr)/\oT y (tb,5)=oM (oH oO (pz.nt:Nat))/\oT y (tb,6)=oM (oH oO nn)/\oT y (tb,7)=oM (oG Aa na ca)/\oT y (tb,8)=oM (oG Ag ng cg)/\tb<y.heap.size):=Hd (fun y C=>by have e2:=dj.below C h.lt;exact⟨e2.cell 4,e2.cell 5,e2.cell 6,e2.cell 7,e2.cell 8,e2.lt⟩)
 have ev:Hid (∀k,k<pz.R.length->∃b off Av c,Ar=oM ⟨b,off,oN⟩/\∀y,Below l l y->b<y.heap.size/\oT y ⟨b,off+k*2,oN⟩=oM (oH oO ((pz.Br k).1:Nat))/\oT y ⟨b,off+k*2+1,oN⟩=oM (oG Av (pz.right k).length c)):=Hd (fun k hk=>by obtain⟨b,off,Av,c,e,cf,c0,c1⟩:=hR k hk;exact⟨b,off,Av,c,e,fun y C=>⟨A0 cf C.size,(C.cell (p:=⟨b,off+k*2,oN⟩) cf).trans c0,(C.cell (p:=⟨b,off+k*2+1,oN⟩) cf).trans c1⟩⟩)
 have HA:=Hd hA;have HG:=Hd hG;have cq:=Hd (Ah.new w 95 #[oH oO 0,oH oO 0]);have bo:=Hd (AG w (oP #[oH oO 0,oH oO 0] 95));have cw:=Hd (h.later bo);have d0:=Hd hl;have da:=Hd hT;have cu:=Hd (And.intro J e6);clear h hT J hl e6 dj hA hG hR;unfold PN;generalize pz.nt=nt at *;generalize dy:pz.R.length=nr at *;have er:=Hd dy;clear dy;go_enter Tryz.func43,Tryz.ntmps43
 go_wp2_with fail
 generalize w.alloc (oP #[oH oO 0,oH oO 0] 95)=W1 at *;go_loopg [7] f (fun k _ wr=>∃(c:Ce) (a2:List (Nd×oV)) (steps:Nat) (b6 b5:oV),Hid (CF l wr j tb rb c.st c.ns a2 ov steps b6 b5)/\Hid (a2.map (·.1)=c.tr)/\Hid (c.st.length=c.ns.length+1/\∀s∈c.st,s<AS.length)/\Hid (Hg pz AS Bv t k c=oM o)/\Hid (steps+k<=bm)/\Hid (AI l [91,153,143] W1 wr)/\Hid (GB w sv b6/\GB w nv b5/\NG w T0 a2))
 case atStart=>exact⟨c,T0,steps,sv,nv,cw,da,cu,d0,Hd fe,Hd (AI.refl _ _ _),Hd ⟨fun b P=>.inl P,fun b P=>.inl P,fun a3 hp b P=>.inl ⟨a3,hp,P⟩⟩⟩
 case round=>
  clear cw da cu d0;obtain⟨c,a2,steps,b6,b5,HE,HT,HC,HL,be,ax,d6⟩:=hrel;rename oU=>w2
  have b3:=HL.out;obtain⟨k',c8⟩:∃k',gk=k'+1:=by
   cases gk with
   | zero=>unfold Hg at b3;cases b3
   | succ k'=>exact⟨k',rfl⟩
  rw[c8]at b3;have HK:=Hd c8;have hE:=HE.box;have ak:=HE.base;obtain⟨s,st,hc⟩:∃s st,c.st=s::st:=by
   cases hc:c.st with
   | nil=>have J:=HC.1;rw[hc]at J;simp at J
   | cons s st=>exact⟨s,st,rfl⟩
  have e5:s<AS.length:=HC.2 s (by rw[hc];simp);have cd:=eO hc b3;rw[er.out]at cd;have eo:=Hd cd;have dm:D1 w2 b6 c.st.reverse:=D1.own HE.Hx oA;have fb:=HE.Cm.1;obtain⟨n,hn⟩:∃n,c.st.length=n:=⟨_,rfl⟩
  have gu:0<n:=by rw[<-hn,hc];simp
  rw[hn]at fb;obtain⟨bs,cs,fo,dq,dp,cl⟩:∃b c',b6=oG (oM ⟨b,0,oN⟩) n c'/\n<=c'/\b<w2.heap.size/\∀k x,c.st.reverse[k]?=oM x->oT w2 ⟨b,k,oN⟩=oM (AY x):=by
   rcases dm with⟨-,J⟩|⟨b,c',J,R,h3,h4⟩
   ·have:=congrArg List.length J
    rw[List.length_reverse,List.length_nil]at this;omega
   ·rw[List.length_reverse,hn]at J R
    exact⟨b,c',J,R,h3,h4⟩
  subst fo;have dr:oT w2 (bs,n-1)=oM (oH oO s):=cl (n-1) s (by rw[List.getElem?_reverse nX,hn,show n-1-(n-1)=0 by omega,hc];rfl);have ct:=Hd (fun(y:oU) (C:Below l l y)=>HA y C s t e5 ht);have az:Hid (∀y,Below w2 w2 y->(oT y (j,0)=oM (oI (tb,0))/\oT y (j,1)=oM (oG (bs,0) n cs)/\j<y.heap.size)/\(oT y (tb,4)=oM (oG Ar (nr+1) cr)/\oT y (tb,5)=oM (oH oO nt)/\oT y (tb,6)=oM (oH oO nn)/\oT y (tb,7)=oM (oG Aa na ca)/\oT y (tb,8)=oM (oG Ag ng cg)/\tb<y.heap.size)/\oT y (bs,n-1)=oM (oH oO s)/\bs<y.heap.size):=Hd (fun y C=>by
   have e1:=hE.below C hE.lt;exact⟨⟨e1.cell 0,e1.cell 1,e1.lt⟩,bx y (ak.trans (C.mono ak.size)),(C.cell (p:=⟨bs,n-1,oN⟩) dp).trans dr,A0 dp C.size⟩)
  have fw:=Hd cl;have HN:=Hd hn;have ba:=Hd hc;have ft:=Hd ak;have fu:=Hd hE;have gy:(0:Int)<(n:Int):=by omega
  have gz:(n:Int)<=10000:=by omega
  have h6:IntKind.i64.wrap ((n:Int)-1)=((n-1:Nat):Int):=by rw[IntKind.wrap_i64];omega
  have h7:((n-1:Nat):Int)<(n:Int):=by omega
  have bb:=Hd ((AG w2 (oP #[oH oO 0,oH oO 0] 95)).drew);have HX:=Hd (ct _ (ak.trans (bb.mono ak.size)));have f4:=Hd (ct _ ak.drew);have ea:=Hd dq;clear b3 c8 hE ak e5 cd dm hn cl dr hc dq;go_upto_region 1 with fail
  go_cut [5] (fun av wx=>∃a5,av=oI (oM ⟨a5,0,oN⟩)/\w2.heap.size<=a5/\Hid (Ah wx a5 95 #[oH oO (AZ pz AS Bv s t).1,oH oO (AZ pz AS Bv s t).2])/\Hid (Below w2 w2 wx))
  case first=>
   go_region_held3 (fun y=>(oT y (j,0)=oM (oI (tb,0))/\oT y (j,1)=oM (oG (bs,0) n cs)/\j<y.heap.size)/\(oT y (tb,4)=oM (oG Ar (nr+1) cr)/\oT y (tb,5)=oM (oH oO nt)/\oT y (tb,6)=oM (oH oO nn)/\oT y (tb,7)=oM (oG Aa na ca)/\oT y (tb,8)=oM (oG Ag ng cg)/\tb<y.heap.size)/\oT y (bs,n-1)=oM (oH oO s)/\bs<y.heap.size)
    (first|exact az _ (Below.refl _ _).drew|exact az _ bb|exact az _ a9|exact az _ (a9.alloc a9.size _)|exact az _ ((a9.setCell (p:=⟨w2.heap.size,0,oN⟩) (Ay _) _).setCell (p:=⟨w2.heap.size,1,oN⟩) (Ay _) _))
    (first|(go_at_call 70;refine f4.mono ?_;rintro e U ⟨rfl,au⟩;have a9:=Hd (((Below.refl _ w2).drew).trans au);clear au)|(go_at_call 70;refine HX.mono ?_;rintro e U ⟨rfl,au⟩;have a9:=Hd (bb.trans (au.mono bb.size));have al:=Hd ((Ah.new w2 95 #[oH oO 0,oH oO 0]).drew.below au oA);have y0:=Ah.cell al 0;have y1:=Ah.cell al 1;have f0:=Ah.frozen al 0;have f1:=Ah.frozen al 1;have yl:=al.lt;simp at y0 y1;clear au))
   all_goals go_wp2_with fail
   all_goals go_meet
   all_goals first
    | exact⟨_,rfl,nX,Hd (by simpa using(al.Ba 0 (oH oO (AZ pz AS Bv s t).1)).Ba 1 (oH oO (AZ pz AS Bv s t).2)),Hd ((a9.setCell (p:=⟨w2.heap.size,0,oN⟩) (Ay _) _).setCell (p:=⟨w2.heap.size,1,oN⟩) (Ay _) _)⟩
    | exact⟨_,rfl,a9.size,Hd (Ah.new U 95 _),Hd (a9.alloc a9.size _)⟩
  case rest=>
   obtain⟨a5,rfl,ha5,a4,aw⟩:=hcut;rename oU=>U
   have a0:=Hd (HE.later aw);have ab:=Hd ((ax.Aj cq (.inr nY)).below aw (A0 cq.lt ax.size));have eg:=Hd (((AI.AJ (B:=l.heap.size) (T:=[91,153,143]) bo).trans ax).trans (AI.AJ aw));rcases eo.out with⟨gw,ho⟩|⟨R,hk,u,r,q,hd,hq,ck⟩
   ·subst ho
    have gx:¬(((AZ pz AS Bv s t).1:Int)=2):=by omega
    generalize dt:AZ pz AS Bv s t=a at *;have ee:=Hd dt;clear dt;have y0:=Ah.cell ab 0;have y1:=Ah.cell ab 1;have f0:=Ah.frozen ab 0;have f1:=Ah.frozen ab 1;have yl:=ab.lt;have z0:=Ah.cell a4 0;have z1:=Ah.cell a4 1;have zl:=a4.lt;simp at y0 y1 z0 z1;go_wp2_with fail
    have ds:Ah ((U.setCell (w,0) a.1).setCell (w,1) a.2) w.heap.size 95 #[a.1,a.2]:=by simpa using(ab.Ba 0 a.1).Ba 1 a.2
    have k0:=Ah.cell ds 0;have k1:=Ah.cell ds 1;simp only[List.getElem?_toArray,List.getElem?_cons_zero,List.getElem?_cons_succ]at k0 k1;refine bodyPost_ret (v:=.agg #[a.1,a.2]) (by simp[results,Tryz.f43,go_sem,k0,k1]) rfl ?_;have bh:AI l [95] U ((U.setCell (w,0) a.1).setCell (w,1) a.2):=((AI.refl _ _ U).EH ab hw oA 0 _).EH (ab.Ba 0 _) hw oA 1 _;exact⟨by rw[ee.out],a2,steps,_,b5,a0.keeps bh nY nY nY nY,HT,by have:=be.out;omega,(eg.Ul (p:=⟨w.heap.size,0,oN⟩) (Ay _) _).Ul (p:=⟨w.heap.size,1,oN⟩) (Ay _) _,d6⟩
   ·obtain⟨c9,dx,ch,fg,fq,bl⟩:=hk
    obtain⟨I,cb⟩:∃k,(AZ pz AS Bv s t).2=k:=⟨_,rfl⟩
    rw[cb]at c9 ch bl hd hq ck;rw[R,cb]at a4;have e8:u<AS.length:=HC.2 u (by rw[ba.out];exact List.mem_of_mem_drop (by rw[hd];simp));have cz:=Hd (fun(y:oU) (C:Below l l y)=>HG y C u I q c9 hq e8);obtain⟨b,off,Av,cv,rfl,e4⟩:=ev I c9;have bu:=Hd e4;obtain⟨p,cj⟩:∃k,(pz.right I).length=k:=⟨_,rfl⟩
    rw[cj]at ch bl hd bu;have eu:=Hd ck;have d4:=Hd cj;obtain⟨lf,cc⟩:∃k,(pz.Br I).1=k:=⟨_,rfl⟩
    have en:=Hd cc;rw[cc]at cz bu;have HD:=Hd hd;have es:=Hd bl;have et:=Hd (Q7 hq);obtain⟨a1,b4⟩:∃k,c.ns.length=k:=⟨_,rfl⟩
    rw[b4]at ch fg;have a8:=Hd b4;have fc:=HE.Cm.2.1;rw[b4]at fc;have bk:=a0.nodes;rw[b4]at bk;obtain⟨bn,cn,fh,gf,ga⟩:∃b c',b5=oG (oM ⟨b,0,oN⟩) a1 c'/\a1<=c'/\b<U.heap.size:=by
     rcases Bj bk with⟨-,h0⟩|⟨b',c',e,-,J,h3,-⟩
     ·omega
     ·exact⟨b',c',e,h3,J⟩
    subst fh;have d5:=Hd bk;have gv:n=a1+1:=by rw[<-HN.out,HC.1,a8.out]
    have dc:Hid (a2.length<=90000):=Hd (by have:=congrArg List.length HT;rw[lM]at this;omega);have gp:(I:Int)<(nr:Int):=by omega
    have gq:(I:Int)<(nr:Int)+1:=by omega
    have fs:IntKind.i64.wrap ((a1:Int)-(p:Int))=((a1-p:Nat):Int):=by rw[IntKind.wrap_i64];omega
    have em:Hid (n<=9000):=Hd (by rw[<-HN.out,ba.out];exact dx);clear cj cc hd hq ck e8 e4 R cb bl b4 bk fq dx;have af:=a0.box;have d9:Hid (∀y,Below U U y->(oT y (j,0)=oM (oI (tb,0))/\j<y.heap.size)/\(oT y (tb,4)=oM (oG (oM ⟨b,off,oN⟩) (nr+1) cr)/\tb<y.heap.size)/\(oT y ⟨a5,1,oN⟩=oM (oH oO I)/\a5<y.heap.size)/\b<y.heap.size/\oT y ⟨b,off+I*2,oN⟩=oM (oH oO lf)/\oT y ⟨b,off+I*2+1,oN⟩=oM (oG Av p cv)):=Hd (fun y C=>by have J:Below l l y:=a0.base.trans (C.mono a0.base.size);obtain⟨r1,r2,r3⟩:=bu y J;have e1:=af.below C af.lt;have e2:=a4.below C a4.lt;obtain⟨q4,-,-,-,-,q9⟩:=bx y J;exact⟨⟨e1.cell 0,e1.lt⟩,⟨q4,q9⟩,⟨e2.cell 1,e2.lt⟩,r1,r2,r3⟩)
    have z0:=Ah.cell a4 0;have zl:=a4.lt;simp at z0;go_upto_region 4 with fail
    clear z0 zl
    go_region_held3 (fun y=>(oT y (j,0)=oM (oI (tb,0))/\j<y.heap.size)/\(oT y (tb,4)=oM (oG (oM ⟨b,off,oN⟩) (nr+1) cr)/\tb<y.heap.size)/\(oT y ⟨a5,1,oN⟩=oM (oH oO I)/\a5<y.heap.size)/\b<y.heap.size/\oT y ⟨b,off+I*2,oN⟩=oM (oH oO lf)/\oT y ⟨b,off+I*2+1,oN⟩=oM (oG Av p cv))
     (first|exact d9 _ (Below.refl _ _).drew|exact d9 _ (((Below.refl _ _).drew).alloc (Ay _) _))
     (fail)
    have ay:Hid (Ah (U.alloc (oP #[lf,oG Av p cv] 113)).drew U.heap.size 113 #[lf,oG Av p cv]):=Hd (Ah.new U 113 _).drew;have ao:Hid (Below U U (U.alloc (oP #[lf,oG Av p cv] 113)).drew):=Hd (AG U _).drew;generalize (U.alloc (oP #[lf,oG Av p cv] 113)).drew=w4 at *;generalize e0:U.heap.size=r6 at ay ⊢;have fv:=Hd e0;clear e0;have bv:Hid (∀y,Below w4 w4 y->∀T,AI l [153,143] y T->(oT T (j,2)=oM (oG (bn,0) a1 cn)/\oT T (j,3)=oM (oI (rb,0))/\j<T.heap.size)/\(oT T (r6,0)=oM (oH oO lf)/\oT T (r6,1)=oM (oG Av p cv)/\r6<T.heap.size)/\(oT T ⟨a5,1,oN⟩=oM (oH oO I)/\a5<T.heap.size)):=Hd (fun y C T hk=>by
     have e1:=hk.Aj ((af.below ao af.lt).below C (A0 af.lt ao.size)) (.inr nY);have e2:=hk.Aj (ay.below C ay.lt) (.inr nY);have e3:=hk.Aj ((a4.below ao a4.lt).below C (A0 a4.lt ao.size)) (.inr nY);exact⟨⟨e1.cell 2,e1.cell 3,e1.lt⟩,⟨e2.cell 0,e2.cell 1,e2.lt⟩,e3.cell 1,e3.lt⟩)
    obtain⟨⟨x2,x3,xl⟩,⟨r0,r1,rl⟩,k1,kl⟩:=bv w4 (Below.refl _ _) w4 (AI.refl _ _ _);go_upto_region 5 with fail
    go_quiet (fail)
    obtain⟨i,fd⟩:∃k,a1-p=k:=⟨_,rfl⟩
    rw[fd]at fs ⊢;have gm:i+p=a1:=by omega
    have bc:Hid (Below w4 w4 (w4.drewN nq)):=Hd ⟨rfl,rfl,rfl,Ay _,fun _ _=>rfl⟩;generalize w4.drewN nq=w5 at *;have bq:=Hd (ao.trans (bc.mono ao.size));obtain⟨o5,h1,fi⟩:∃o5,(if cn=i then(oM ⟨bn,0,oN⟩:Option Addr) else oM ⟨bn,i,oN⟩)=oM ⟨bn,o5,oN⟩/\(o5=a1-p\/cn=a1-p):=by
     by_cases h:cn=i
     ·exact⟨0,by rw[if_pos h],.inr nX⟩
     ·exact⟨i,by rw[if_neg h],.inl nX⟩
    have dv:c.ns.reverse.drop (a1-p)=(c.ns.take p).reverse:=by rw[List.reverse_take,a8.out]
    have ej:=Hd dv;have HJ:Hid (∀y,Below w5 w5 y->() 71 #[(rb,0),lf,I,oG (oM ⟨bn,o5,oN⟩) (a1-i) (cn-i)] y (N3 l y rb lf I a2 (c.ns.take p).reverse)):=Hd (fun y C=>by
     rw[show a1-i=p by omega];have J:=es.out;unfold LO at J;simp only[Bool.and_eq_true,decide_eq_true_eq,List.all_eq_true,beq_iff_eq]at J;have P:=bq.trans (C.mono bq.size);refine bP (a0.tree.later P) (AW a0.base.size P.size) (fun T hk=>?_) (LW.some (by rw[List.length_reverse,List.length_take,a8.out];omega)) (by rw[List.length_reverse,List.length_take,a8.out];omega) J.1 (fun k hk=>?_) (by have:=dc.out;omega) nX
     ·have R:=Yt (Ch (AU d5 P) hk nY) (m:=p) (by rw[List.length_reverse,a8.out]) nX fi nX
      rw[ej.out,show a1-p=i by omega]at R;exact R
     ·have R:=J.2 k hk
      rw[<-HT.out,pG]at R;cases hx:a2[k]? with
      | none=>rw[hx]at R;cases R
      | some a3=>rw[hx]at R;exact⟨a3,rfl,by simpa using R⟩)
    have gh:(i:Int)<=(a1:Int):=by omega
    have gi:(i:Int)<=(cn:Int):=by omega
    have gj:(a1:Int)<=(cn:Int):=by omega
    clear x2 x3 xl r0 r1 rl k1 kl dv;go_upto_region 6 with fail
    have ef:=Hd (HJ w5.drew (Below.refl _ _).drew)
    go_region_held3 (fun T=>(oT T (j,2)=oM (oG (bn,0) a1 cn)/\oT T (j,3)=oM (oI (rb,0))/\j<T.heap.size)/\(oT T (r6,0)=oM (oH oO lf)/\oT T (r6,1)=oM (oG Av p cv)/\r6<T.heap.size)/\(oT T ⟨a5,1,oN⟩=oM (oH oO I)/\a5<T.heap.size))
     (first|exact bv _ (bc.drew) _ (AI.refl _ _ _)|exact bv _ (bc.drew) _ ad)
     (first|(go_at_call 71;refine ef.mono ?_;rintro e w6 ⟨rfl,kv,dk,df,dw⟩;have db:=Hd dk;have ad:=Hd df;have ek:=Hd dw;clear dk df dw))
    have ah:=Hd (bq.drew);have b0:=ad.Aj (af.below ah af.lt) (.inr nY);have aq:=Hd b0;have ep:=Hd (Ch (AU d5 ah) ad nY);have ew:=Hd (Ch (AU a0.Hx ah) ad nY);have d7:=Hd (ad.Aj (ay.below bc.drew ay.lt) (.inr nY));have bp:Hid (Below l l w6):=Hd ((a0.base.trans (ah.mono a0.base.size)).trans (ad.below (AW a0.base.size ah.size)));obtain⟨L7,bz⟩:∃L,c.ns.reverse.take i=L:=⟨_,rfl⟩
    have di:L7.length=i:=by rw[<-bz,List.length_take,List.length_reverse,a8.out];omega
    have d1:=Hd bz;have d2:=Hd di;have eb:Hid (Hs w6 (oG (bn,0) i i) L7):=Hd (by have h:=D1.cut (D1.own ep (by rw[List.length_reverse,a8.out])) (m:=i) (by rw[List.length_reverse,a8.out];omega);rwa [d1.out]at h)
    obtain⟨TL,c6⟩:∃k,a2.length=k:=⟨_,rfl⟩
    have ez:=Hd c6;have f9:=dc.out;rw[c6]at f9 ⊢;have x0:=Ah.cell b0 0;have x2:=Ah.cell b0 2;have xl:=b0.lt;simp at x0 x2;clear bz di c6 af b0;go_upto_region 8 with(at_builtin;refine WC (x:=TL) (g:=w6.heap.size) (c:=1) (.tmp 77) (.tmp 79) rfl rfl rfl rfl (eb.later (AG w6 (oP #[TL] 3))) (by simp[AY]) (by have:=d2.out;omega) ?_;intro c7 w7 r1 r2;have bt:Hid (w7.ownsRow (w6.heap.size+1) 3 1 (oG (w6.heap.size+1,0) (L7.length+1) c7) (L7.length+1) ((L7++[TL]).map AY)):=Hd (by simpa only[World.size_alloc] using r1);have a7:=Hd ((AG w6 (oP #[TL] 3)).trans (r2.mono oA));rw[d2.out]at bt ⊢;have a6:=aq.below a7 aq.lt;have y2:=Ah.cell a6 2;have f2:=Ah.frozen a6 2;have yl:=a6.lt;simp at y2;clear r1 r2 a6)
    have f6:Hid (w6.heap.size<w6.heap.size+1/\w6.heap.size+1<w7.heap.size):=Hd ⟨Nat.lt_succ_self _,by
     rcases Bj bt.out with⟨e,-⟩|⟨b',c',e,-,J,-⟩
     ·cases e
     ·cases e;exact J⟩
    generalize fa:w6.heap.size+1=b7 at *;clear fa;have a6:Ah (w7.setCell (j,2) (oG (b7,0) (i+1) c7)) j 91 #[(tb,0),oG (bs,0) n cs,oG (b7,0) (i+1) c7,(rb,0),.bool ov,steps]:=by simpa using(aq.below a7 aq.lt).Ba 2 (oG (b7,0) (i+1) c7)
    have dg:AI l [91] w7 (w7.setCell (j,2) (oG (b7,0) (i+1) c7)):=(AI.refl _ _ w7).EH (aq.below a7 aq.lt) a0.lo oA 2 _;generalize w7.setCell (j,2) (oG (b7,0) (i+1) c7)=W7 at *;have cx:=Hd a6;have eh:=Hd dg;have x1:=Ah.cell a6 1;have x0:=Ah.cell a6 0;have f1:=Ah.frozen a6 1;have xl:=a6.lt;simp at x0 x1;have gg:=ea.out;have gb:(i:Int)+1<=(cs:Int):=by omega
    have gd:(i:Int)<=9999:=by omega
    have h5:((i:Int)+1).toNat=i+1:=by omega
    clear a6 dg;go_upto_region 9 with fail
    have dd:Ah (W7.setCell (j,1) (oG (bs,0) (i+1) (i+1))) j 91 #[(tb,0),oG (bs,0) (i+1) (i+1),oG (b7,0) (i+1) c7,(rb,0),.bool ov,steps]:=by simpa using cx.Ba 1 (oG (bs,0) (i+1) (i+1))
    have dh:AI l [91] w7 (W7.setCell (j,1) (oG (bs,0) (i+1) (i+1))):=eh.EH cx a0.lo oA 1 _;generalize W7.setCell (j,1) (oG (bs,0) (i+1) (i+1))=W8 at *;have bd:=Hd dd;have ai:=Hd dh;have an:Hid (Below l l W8):=Hd ((bp.trans (a7.mono bp.size)).trans (ai.below (AW bp.size a7.size)));have bw:Hid (W8.ownsRow l 3 1 (oG (bs,0) n cs) n (c.st.reverse.map AY)):=Hd (by have h:=Ch (AU ew a7) ai nY;rwa [HN.out]at h)
    have f3:Hid (c.st.reverse[i]?=oM u):=Hd (by rw[List.getElem?_reverse (by rw[HN.out];omega),HN.out,show n-1-i=p+0 by omega,<-List.getElem?_drop,ba.out,HD.out];rfl)
    obtain⟨L8,bi⟩:∃L,c.st.reverse.take (i+1)=L:=⟨_,rfl⟩
    have d3:Hid (L8.length=i+1):=Hd (by rw[<-bi,List.length_take,List.length_reverse,HN.out];omega);have ec:Hid (Hs W8 (oG (bs,0) (i+1) (i+1)) L8):=Hd (by have h:=D1.cut (D1.own bw (by rw[List.length_reverse,HN.out])) (m:=i+1) (by rw[List.length_reverse,HN.out];omega);rwa [bi]at h)
    have el:=Hd bi;have d8:=Hd (ai.Aj (d7.below a7 d7.lt) (.inr nY));have bf:Hid (∀y,Below W8 W8 y->(fun y:oU=>(oT y (j,0)=oM (oI (tb,0))/\oT y (j,1)=oM (oG (bs,0) (i+1) (i+1))/\j<y.heap.size)/\(oT y (tb,4)=oM (oG (oM ⟨b,off,oN⟩) (nr+1) cr)/\oT y (tb,5)=oM (oH oO nt)/\oT y (tb,6)=oM (oH oO nn)/\oT y (tb,7)=oM (oG Aa na ca)/\oT y (tb,8)=oM (oG Ag ng cg)/\tb<y.heap.size)/\(oT y (bs,i)=oM (oH oO u)/\bs<y.heap.size)/\oT y (r6,0)=oM (oH oO lf)/\r6<y.heap.size) y):=Hd (fun y C=>by
     have e1:=bd.below C bd.lt;have e2:=d8.below C d8.lt;have J:Below l l y:=an.trans (C.mono an.size);obtain⟨R,h3⟩:bs<W8.heap.size/\oT W8 (bs,i)=oM (oH oO u):=by
      rcases Bj bw.out with⟨e,-⟩|⟨b',c',e,-,R,-⟩
      ·cases e
      ·cases e
       refine⟨R,?_⟩;rw[Bh bw.out i nX,pG,f3.out];rfl
     exact⟨⟨e1.cell 0,e1.cell 1,e1.lt⟩,bx y J,⟨(C.cell (p:=⟨bs,i,oN⟩) R).trans h3,A0 R C.size⟩,e2.cell 0,e2.lt⟩)
    have ed:=Hd (cz W8.drew an.drew);have gl:(i:Int)<(i:Int)+1:=by omega
    clear dd dh bi x0 x1 f1 xl;refine DY 26 (fun y:oU=>(oT y (j,0)=oM (oI (tb,0))/\oT y (j,1)=oM (oG (bs,0) (i+1) (i+1))/\j<y.heap.size)/\(oT y (tb,4)=oM (oG (oM ⟨b,off,oN⟩) (nr+1) cr)/\oT y (tb,5)=oM (oH oO nt)/\oT y (tb,6)=oM (oH oO nn)/\oT y (tb,7)=oM (oG Aa na ca)/\oT y (tb,8)=oM (oG Ag ng cg)/\tb<y.heap.size)/\(oT y (bs,i)=oM (oH oO u)/\bs<y.heap.size)/\oT y (r6,0)=oM (oH oO lf)/\r6<y.heap.size) nZ ?_;have de:(fun y:oU=>(oT y (j,0)=oM (oI (tb,0))/\oT y (j,1)=oM (oG (bs,0) (i+1) (i+1))/\j<y.heap.size)/\(oT y (tb,4)=oM (oG (oM ⟨b,off,oN⟩) (nr+1) cr)/\oT y (tb,5)=oM (oH oO nt)/\oT y (tb,6)=oM (oH oO nn)/\oT y (tb,7)=oM (oG Aa na ca)/\oT y (tb,8)=oM (oG Ag ng cg)/\tb<y.heap.size)/\(oT y (bs,i)=oM (oH oO u)/\bs<y.heap.size)/\oT y (r6,0)=oM (oH oO lf)/\r6<y.heap.size) W8.drew:=bf _ (Below.refl _ _).drew
    refine Mi [0,1,2,3,4,5,6,7,8,9,10,11,12,13,14,15,16,17,18,19,20] de ?_;refine Bm 21 nZ rfl rfl (fun K hK=>?_);go_simp;refine ed.mono ?_;rintro e w9 ⟨rfl,dn⟩;have b9:Hid (Below W8 W8 w9):=Hd (((Below.refl _ W8).drew).trans dn);clear dn de;refine hK _ _ (fun _=>bf w9 b9) ?_;clear hK K;refine Bm 22 nZ rfl rfl (fun K hK=>?_);go_simp;have b8:=Hd (b9.alloc b9.size (oP #[q] 3));refine hK _ _ (fun _=>bf _ b8) ?_;clear hK K;refine Hn 23 nZ rfl rfl rfl (fun K hK=>?_)
    refine wp_cut (x:=q) (g:=w9.heap.size) (c:=1) (.tmp 99) (.tmp 117) rfl rfl rfl (ec.later b8) (by simp[AY]) (by have:=d3.out;omega) ?_;intro ae aa r1 r2;have br:Hid (aa.ownsRow (w9.heap.size+1) 3 1 (oG (w9.heap.size+1,0) (L8.length+1) ae) (L8.length+1) ((L8++[q]).map AY)):=Hd (by simpa only[World.size_alloc] using r1);have ag:=Hd (b8.trans (r2.mono b8.size));rw[d3.out]at br ⊢;clear r1 r2;have bj:=bf aa ag;refine hK _ _ (fun _=>bj) ?_;clear hK K;simp only[AD,AE];refine Bm 24 nZ rfl rfl (fun K hK=>?_)
    go_simp;refine hK _ _ (fun _=>bj) ?_;clear hK K;refine Bm 25 nZ rfl rfl (fun K hK=>?_);go_simp;refine hK _ _ (fun _=>bj) ?_;clear hK K;have ar:=bd.below ag bd.lt;have x1:=Ah.cell ar 1;have f1:=Ah.frozen ar 1;have xl:=ar.lt;simp at x1;refine Bm 26 nZ rfl rfl (fun K hK=>?_);go_simp;refine hK _ _ (fun h=>absurd rfl h) ?_;clear hK K;refine D0 nZ ?_ _;have e7:w9.heap.size+1<aa.heap.size:=by
     rcases Bj br.out with⟨e,-⟩|⟨b',c',e,-,J,-⟩
     ·cases e
     ·cases e;exact J
    have ey:=Hd e7;generalize hb10:w9.heap.size+1=aj at *;have e9:=Hd hb10;have b1:Ah (aa.setCell (j,1) (oG (aj,0) (i+1+1) ae)) j 91 #[(tb,0),oG (aj,0) (i+1+1) ae,oG (b7,0) (i+1) c7,(rb,0),.bool ov,steps]:=by simpa using ar.Ba 1 (oG (aj,0) (i+1+1) ae)
    have bh:AI l [91] aa (aa.setCell (j,1) (oG (aj,0) (i+1+1) ae)):=(AI.refl _ _ aa).EH ar a0.lo oA 1 _;generalize aa.setCell (j,1) (oG (aj,0) (i+1+1) ae)=WA at *;have cy:=Hd b1;have ei:=Hd bh;clear x1 f1 xl ar bj e7 hb10;have x5:=Ah.cell b1 5;have f5:=Ah.frozen b1 5;have xl:=b1.lt;simp at x5;have h2:(steps:Int)<=900000:=by have:=be.out;omega
    clear b1 bh;go_wp2_with fail
    go_roundg (gk-1)
    case measure=>have:=HK.out;omega
    case rel=>
     have f7:Ah (WA.setCell (j,5) (oH oO ((steps:Int)+1))) j 91 #[(tb,0),oG (aj,0) (i+1+1) ae,oG (b7,0) (i+1) c7,(rb,0),.bool ov,oH oO ((steps:Int)+1)]:=by simpa using cy.Ba 5 (oH oO ((steps:Int)+1))
     have b2:AI l [91] aa (WA.setCell (j,5) (oH oO ((steps:Int)+1))):=ei.EH cy a0.lo oA 5 _;generalize WA.setCell (j,5) (oH oO ((steps:Int)+1))=WF at *;have g1:=bo.size;have g2:=ax.size;have g3:=aw.size;have g4:=ah.size;have g5:=ad.size;have g6:=a7.size;have g7:=ai.size;have g8:=b9.size;have g9:=f6.out;have fx:=ey.out;have fy:=e9.out;have fz:=an.size;have g0:b7<w7.heap.size:=g9.2;have f8:Eh l WF rb (Ee a2 (c.ns.take p).reverse++[(⟨lf,-1,I,(c.ns.take p).reverse,false,false⟩,kv)]):=(((db.later a7).keeps ai nY nY nY).later ag).keeps b2 nY nY nY
     have cp:u::r=c.st.drop p:=by rw[ba.out,HD.out]
     have fr:(u::r).length=i+1:=by rw[cp,List.length_drop,HN.out];omega
     have du:∀a3∈Ee a2 (c.ns.take p).reverse++[(⟨lf,-1,I,(c.ns.take p).reverse,false,false⟩,kv)],∀b,a3.2.ownBlock=oM b->b<w6.heap.size:=fun a3 hp b P=>(B6 (db.kids a3 hp) b P).1
     have fl:(u::r).reverse=L8:=by rw[cp,List.reverse_drop,HN.out,show n-p=i+1 by omega,el.out]
     have fk:(c.ns.drop p).reverse=L7:=by rw[List.reverse_drop,a8.out,show a1-p=i by omega,d1.out]
     have fp:c.tr.length=TL:=by rw[<-HT.out,lM,ez.out]
     have dz:(c.red pz I u q r).ns=TL::c.ns.drop p:=by show c.tr.length::c.ns.drop (pz.right I).length=_;rw[d4.out,fp]
     have cm:(c.red pz I u q r).st=q::u::r:=rfl;have fm:(c.red pz I u q r).st.length=i+1+1:=by rw[cm,List.length_cons,fr]
     have ff:(c.red pz I u q r).ns.length=i+1:=by rw[dz,List.length_cons,List.length_drop,a8.out];omega
     refine⟨c.red pz I u q r,Ee a2 (c.ns.take p).reverse++[(⟨lf,-1,I,(c.ns.take p).reverse,false,false⟩,kv)],steps+1,oG (aj,0) (i+1+1) ae,oG (b7,0) (i+1) c7,Hd ⟨by rw[show ((steps+1:Nat):Int)=(steps:Int)+1 by omega];exact f7,f8,?_,?_,fun a3 hp b P e=>?_,fun a3 hp b P e=>?_,fun b P e=>?_,a0.lo,a0.GO,(an.trans (ag.mono an.size)).trans (b2.below (by have:=ag.size;omega)),a0.lt,?_⟩,Hd ?_,Hd ⟨?_,fun x hx=>?_⟩,Hd ?_,Hd ?_,Hd ?_,Hd ⟨fun b P=>.inr ?_,fun b P=>.inr ?_,fun a3 hp b P=>?_⟩⟩
     ·have h:=Ch (EN br (base':=l.heap.size) nX) b2 nY
      rw[fm,cm,List.reverse_cons,fl];exact h
     ·have h:=Ch (AU (Ch (EN bt (base':=l.heap.size) nX) ai nY) ag) b2 nY
      rw[ff,dz,List.reverse_cons,fk];exact h
     ·have h:=du a3 hp b P
      simp only[Value.ownBlock,Option.some.injEq]at e;omega
     ·have h:=du a3 hp b P
      simp only[Value.ownBlock,Option.some.injEq]at e;omega
     ·simp only[Value.ownBlock,Option.some.injEq]at e P
      omega
     ·have J:=em.out
      have R:=be.out;exact⟨nX,nX,nX⟩
     ·rw[BB,kY,HT.out,List.map_singleton]
      show _=GX c.tr (c.ns.take (pz.right I).length).reverse++[⟨(pz.Br I).1,-1,I,(c.ns.take (pz.right I).length).reverse,false,false⟩]
      rw[d4.out,en.out]
     ·omega
     ·rw[cm]at hx
      rcases List.mem_cons.1 hx with hx|hx
      ·rw[hx];exact et
      ·rw[cp]at hx
       exact HC.2 x (List.mem_of_mem_drop hx)
     ·rw[HK.out,Nat.add_sub_cancel];exact eu
     ·have R:=be.out;have h3:=HK.out;omega
     ·have m1:∀{a b:oU},Below a a b->AI l [91,153,143] a b:=fun h=>AI.AJ h
      exact(((((ax.trans (m1 aw)).trans (m1 ah)).trans (ad.mono (Ay _) oA)).trans (m1 a7)).trans (ai.mono (Ay _) oA)).trans ((m1 ag).trans (b2.mono (Ay _) oA))
     ·simp only[Value.ownBlock,Option.some.injEq]at P
      omega
     ·simp only[Value.ownBlock,Option.some.injEq]at P
      omega
     ·rcases mA.1 hp with hp|hp
      ·obtain⟨p2,fj,e1,-⟩:=Vn hp
       exact d6.2.2 p2 fj b (by rw[<-e1];exact P)
      ·rw[mS.1 hp]at P
       have J:=ek b P;exact .inr nX
