/- Whether a node is. -/
import Derived.Test.YthaacmablcpdfaaGreatDoorXbj
set_option linter.all false
set_option maxRecDepth 100000
set_option maxHeartbeats 0
namespace Go.Proofs.YthaacmablcpdfaaGreatDoor
open Go.RowKit
variable{w:World}{v:Value}{A:Nat->Prop}{T:List (Nd×Value)}
def I9(tr:List Nd)(x:Nd):Prop:=(x.DI=true/\1<=x.sym/\x.sym<=pz.nt)\/(x.DI=false/\∃k r,x.Bb=(k:Nat)/\pz.R[k]?=some r/\r.1=x.sym/\r.2.length=x.kids.length/\∀j s i:Nat,r.2[j]?=some s->x.kids[j]?=some i->∃y:Nd,tr[i]?=some y/\y.sym=s)
def WC{rb k:Nat}{l r:Int}{J:Value}{b:Bool}(h:GN w v pz)(h1:1<=k)(h2:k<=pz.nt){A:Option Addr}{n c:Nat}(a0:J=.slice A n c) :
  () 56 #[(rb,0),v,.agg #[k,l,r,J,.bool true,.bool b]] w fun e w'=>e=.returned (.bool true)/\Below w w w':=by
 subst a0;obtain⟨p,j,g2,o⟩:=h.E4;have I:p.term k=true:=by
  have e:pz.nt=p.T.length:=by rw[o];rfl
  unfold Gm.term;simp;omega
 have HT:Hid (∀y,Below w w y->() 70 #[v,k] y fun e w'=>e=.returned (.bool true)/\Below y y w'):=Hd (fun y hy=>by have h:=NT (j.later hy) k;unfold Br at h;rwa [I]at h);obtain⟨T,cT,P,cN,R,cR,rfl,-,-⟩:=h.open_;clear j g2 o I h;generalize pz.nt=nt at *;generalize pz.nn=nn at *;generalize pz.R.length=nr at *;generalize pz.s=gs at *;have C:Below w w (((w.alloc (.cells #[(rb,0)] 51)).alloc (.cells #[.slice T nt cT,.slice P nn cN,.slice R nr cR,gs] 32)).alloc (.cells #[k,l,r,.slice A n c,.bool true,.bool b] 112)):=((AH w _).alloc (by simp) _).alloc (by simp;omega) _
 have i:=Hd C;clear C;go_enter Tryz.func56,Tryz.ntmps56
 go_wp2_with (go_at_call 70;refine(HT _ i).mono ?_;rintro e w1 ⟨rfl,t⟩;have U:=Hd (i.trans (t.mono i.size));clear t)
 go_ret;exact⟨rfl,U⟩
def gH{rb k:Nat}{x:Nd}{kv:Value}{r:Nat×List Nat}(h:GN w v pz)(ht:Gb A w rb T)(hx:x.DI=false)(ad:x.Bb=(k:Nat))(hr:pz.R[k]?=some r)(hs:r.1=x.sym)(hl:r.2.length=x.kids.length)(hn:x.kids.length<=100000)(a6:BF w kv x.kids)(hk:∀j s i:Nat,r.2[j]?=some s->x.kids[j]?=some i->∃y:Nd,(T.map (·.1))[i]?=some y/\y.sym=s) :
  () 56 #[(rb,0),v,.agg #[x.sym,x.leaf,x.Bb,kv,.bool x.DI,.bool x.below]] w fun e w'=>e=.returned (.bool true)/\Below w w w':=by
 obtain⟨AT,cT,AN,cN,AR,J,rfl,hR,-⟩:=h.open_;obtain⟨b,off,rv,rfl,ab,d0,d1,a8⟩:=hR k r hr;obtain⟨⟨U,cv,rfl,-⟩,-,-⟩:=id a8;obtain⟨⟨p,t,rfl,-⟩,-,-⟩:=id a6;obtain⟨nb,cn,n1,-,n3,n4⟩:=ht.row;have a7:=ht.r.2;have an:=(sG.1 hr).1;rw[hs]at d0;have hE:Hid (∀y,Below w w y->(y.cell? (w,0)=some (.pointer (rb,0))/\w.heap.size<y.heap.size)->() 105 #[.slice U r.2.length cv,.slice p x.kids.length t,.func (.func 106) #[] #[(w,0)]] y fun e w'=>e=.returned (.bool true)/\w'=y):=Hd (fun y o hb=>by
  refine XX (a8.later o) (a6.later o) hl hn (fun j s i h1 h2=>?_);obtain⟨z,hz,rfl⟩:=hk j s i h1 h2;rw[pG]at hz;obtain⟨ah,hp,rfl⟩:=Option.map_eq_some_iff.1 hz;exact dK hb.1 hb.2 ((o.cell (p:=⟨rb,0,none⟩) a7).trans n1) (AW a7 o.size) ((o.cell (p:=⟨nb,_,none⟩) n3).trans (n4 i ah hp 0 (by decide))) (AW n3 o.size) (sG.1 hp).1)
 rw[hl]at d1 hE;rw[hx,ad];obtain⟨l,P⟩:∃l,((w.alloc (.cells #[(rb,0)] 51)).alloc (.cells #[.slice AT pz.nt cT,.slice AN pz.nn cN,.slice (b,off) pz.R.length J,pz.s] 32)).alloc (.cells #[x.sym,x.leaf,.int .i64 (k:Nat),.slice p x.kids.length t,.bool false,.bool x.below] 112)=l:=⟨_,rfl⟩
 have a0:Below w w l:=by rw[<-P];exact((AH w _).alloc (by simp) _).alloc (by simp;omega) _
 have k1:Ah l w.heap.size 51 #[(rb,0)]:=by rw[<-P];exact((Ah.new w _ _).alloc _).alloc _
 have k2:Ah l (w.heap.size+1) 32 #[.slice AT pz.nt cT,.slice AN pz.nn cN,.slice (b,off) pz.R.length J,pz.s]:=by rw[<-P];exact(Ah.newAt (by simp)).alloc _
 have R:Ah l (w.heap.size+1+1) 112 #[x.sym,x.leaf,.int .i64 (k:Nat),.slice p x.kids.length t,.bool false,.bool x.below]:=by rw[<-P];exact Ah.newAt (by simp)
 have ag:=R.cell 4;have ao:=R.lt;simp at ag;generalize x.sym=I at *;generalize x.kids.length=kl at *;generalize pz.R.length=C at *;have a5:Hid (∀y,Below l l y->(fun y:World=>(y.cell? (w,0)=some (.pointer (rb,0))/\w.heap.size<y.heap.size)/\(y.cell? (w.heap.size+1,2)=some (.slice (b,off) C J)/\w.heap.size+1<y.heap.size)/\(y.cell? (w.heap.size+1+1,0)=some (.int .i64 I)/\y.cell? (w.heap.size+1+1,2)=some (.int .i64 k)/\y.cell? (w.heap.size+1+1,3)=some (.slice p kl t)/\w.heap.size+1+1<y.heap.size)/\b<y.heap.size/\y.cell? (b,off+k*2)=some (.int .i64 I)/\y.cell? (b,off+k*2+1)=some (.slice U kl cv)) y):=Hd (fun y o=>by
  have a1:=k1.below o k1.lt;have a2:=k2.below o k2.lt;have a3:=R.below o R.lt;have a4:Below w w y:=a0.trans (o.mono a0.size);have aa:b<w.heap.size:=ab;exact⟨⟨a1.cell 0,a1.lt⟩,⟨a2.cell 2,a2.lt⟩,⟨a3.cell 0,a3.cell 2,a3.cell 3,a3.lt⟩,by have:=a1.lt;omega,(a4.cell (p:=⟨b,_,none⟩) aa).trans d0,(a4.cell (p:=⟨b,_,none⟩) aa).trans d1⟩)
 have a9:=Hd a0;have ai:=Hd P;have aj:(k:Int)<(C:Int):=by omega
 have af:¬((C:Int)<=(k:Int)):=by omega
 have ak:decide ((C:Int)<=(k:Int))=false:=decide_eq_false af;have al:¬((k:Int)<0):=by omega
 clear h hR ab d0 d1 a8 a6 n1 n3 n4 a7 ht hr hs hl hn hk hx ad a0 k1 k2 R;go_enter Tryz.func56,Tryz.ntmps56
 go_upto_region 3 with fail
 go_region_held3 (fun y:World=>(y.cell? (w,0)=some (.pointer (rb,0))/\w.heap.size<y.heap.size)/\(y.cell? (w.heap.size+1,2)=some (.slice (b,off) C J)/\w.heap.size+1<y.heap.size)/\(y.cell? (w.heap.size+1+1,0)=some (.int .i64 I)/\y.cell? (w.heap.size+1+1,2)=some (.int .i64 k)/\y.cell? (w.heap.size+1+1,3)=some (.slice p kl t)/\w.heap.size+1+1<y.heap.size)/\b<y.heap.size/\y.cell? (b,off+k*2)=some (.int .i64 I)/\y.cell? (b,off+k*2+1)=some (.slice U kl cv))
  (exact a5 _ (Below.refl _ _).drew) (fail)
 go_wp2_with fail
 have HD:Hid (Below l l l.drew.drew):=Hd (Below.refl _ l).drew.drew;have ae:=Hd (hE l.drew.drew a9.drew.drew (a5 _ HD).1);clear hE
 go_region_held3 (fun y:World=>(y.cell? (w,0)=some (.pointer (rb,0))/\w.heap.size<y.heap.size)/\(y.cell? (w.heap.size+1,2)=some (.slice (b,off) C J)/\w.heap.size+1<y.heap.size)/\(y.cell? (w.heap.size+1+1,0)=some (.int .i64 I)/\y.cell? (w.heap.size+1+1,2)=some (.int .i64 k)/\y.cell? (w.heap.size+1+1,3)=some (.slice p kl t)/\w.heap.size+1+1<y.heap.size)/\b<y.heap.size/\y.cell? (b,off+k*2)=some (.int .i64 I)/\y.cell? (b,off+k*2+1)=some (.slice U kl cv))
  (exact a5 _ HD) (first|(go_at_call 105;refine ae.mono ?_;rintro e w1 ⟨rfl,rfl⟩))
 go_wp2_with fail
 go_ret;exact⟨rfl,a9.drew.drew⟩
section
attribute [local go_sem] Oper.semAt_some
section
variable {P:Program} {ops:Array Oper} {Q:Exit->Act->World->Prop} {md:Region.Mode} {S:World->Prop}
def Is(i:Nat){j:Oper}{d f:Nat}{listed:Array Bool}{l:List Value}{o:List Deferred}(t:S w)(h:Dy P md ops Q S (fun _=>false) f (listed.setIfInBounds i true) {tmps:=(l.set d v).toArray,defers:=o} w)
  (R:ops[i]?=some j:=by rfl) (U:Region.noSelect ops=true:=by kernel_rfl) (J:Region.free md ops listed i=true:=by kernel_rfl) (T:(Region.ready md ops listed).contains i=true:=by kernel_rfl)
  (p:∀c a w,Q (.panic c) (a.put j.dst v) w->Q (.panic c) a w:=by exact fun _ _ _ h=>h) (hy:YieldsIf P ops S j v {tmps:=l.toArray,defers:=o}:=by(refine Or.inl ⟨by rfl,?_⟩;intro w C;(try dsimp only at C);go_simp;try with_reducible rfl)) (I:j.dst=some d:=by rfl):Dy P md ops Q S (fun _=>false) (f+1) listed {tmps:=l.toArray,defers:=o} w:=
 KN i R U J T (by simp) p hy t I h
end
def VM{rb k:Nat}{p:Nd×Value}(h:GN w v pz)(t:Gb A w rb T)(hp:T[k]?=some p)(R:I9 (T.map (·.1)) p.1)(hn:p.1.kids.length<=100000) :
  () 56 #[(rb,0),v,.agg #[p.1.sym,p.1.leaf,p.1.Bb,p.2,.bool p.1.DI,.bool p.1.below]] w fun e w'=>e=.returned (.bool true)/\Below w w w':=by
 have o:=t.kids p (mG hp);obtain⟨Ak,ck,U⟩:=o.shape;rcases R with⟨i,j,l⟩|⟨i,a0,r,j,l,C,I,J⟩
 ·rw[i]
  exact WC h j l U
 ·exact gH h t i j l C I hn o.1 J
def Ya{rb i f:Nat}{xs:List Nat}(hg:GN w v pz)(ht:Gb (fun b=>b<w.heap.size) w rb T)(hv:BV (T.map (·.1)) f [i]=some xs)(hf:f<=100000)(hk:∀p∈T,p.1.kids.length<=100000)(hi:i<T.length)(b8:∀p∈T,I9 (T.map (·.1)) p.1) :
  Calls Tryz.prog 21 #[.pointer (some ⟨rb,0,none⟩),v,.int .i64 i] w fun e w'=>e=.returned (.bool true)/\Below w.heap.size w w':=by
 obtain⟨gm,g1,g2,-⟩:=hg.E4;have HG:=Hd hg;have aw:Hid (∀y,Below w.heap.size w y->Calls Tryz.prog 35 #[v] y fun e w'=>e=.returned (.int .i64 0)/\Below y.heap.size y w'):=Hd (fun y J=>by have h:=Qn (g1.later J);unfold Ends at h;rwa [g2]at h);obtain⟨AT,cT,AN,cN,AR,cR,rfl,-,-⟩:=hg.open_;obtain⟨j,cn,n1,-,n3,n4⟩:=ht.row;have a7:=ht.r.2;have b2:Hid (∀y,Below w.heap.size w y->Calls Tryz.prog 54 #[.pointer (some ⟨rb,0,none⟩),.int .i64 i] y fun e w'=>e=.returned (.bool true)/\w'=y):=Hd (fun y J=>TS ((J.cell (p:=⟨rb,0,none⟩) a7).trans n1) (AW a7 J.size) hi)
 generalize pz.nt=nt at *;generalize pz.nn=nn at *;generalize pz.R.length=nr at *;generalize pz.s=gs at *;obtain⟨l,a8⟩:∃l,((w.alloc (.cells #[.pointer (some ⟨rb,0,none⟩)] 51)).alloc (.cells #[.slice AT nt cT,.slice AN nn cN,.slice AR nr cR,.int .i64 gs] 32)).alloc (.cells #[.bool false] 4)=l:=⟨_,rfl⟩
 have aa:Below w.heap.size w l:=by rw[<-a8];exact((AH w _).alloc (by simp) _).alloc (by simp;omega) _
 have k1:Ah l w.heap.size 51 #[.pointer (some ⟨rb,0,none⟩)]:=by rw[<-a8];exact((Ah.new w _ _).alloc _).alloc _
 have k2:Ah l (w.heap.size+1) 32 #[.slice AT nt cT,.slice AN nn cN,.slice AR nr cR,.int .i64 gs]:=by rw[<-a8];exact(Ah.newAt (by simp)).alloc _
 have k3:Ah l (w.heap.size+1+1) 4 #[.bool false]:=by rw[<-a8];exact Ah.newAt (by simp)
 have af:Hid (∀y,Below l.heap.size l y->(y.cell? ⟨w.heap.size,0,none⟩=some (.pointer (some ⟨rb,0,none⟩))/\w.heap.size<y.heap.size)/\(y.cell? ⟨w.heap.size+1,0,none⟩=some (.slice AT nt cT)/\y.cell? ⟨w.heap.size+1,1,none⟩=some (.slice AN nn cN)/\y.cell? ⟨w.heap.size+1,2,none⟩=some (.slice AR nr cR)/\y.cell? ⟨w.heap.size+1,3,none⟩=some (.int .i64 gs)/\w.heap.size+1<y.heap.size)):=Hd (fun y J=>by have a1:=k1.below J k1.lt;have a2:=k2.below J k2.lt;exact⟨⟨a1.cell 0,a1.lt⟩,a2.cell 0,a2.cell 1,a2.cell 2,a2.cell 3,a2.lt⟩)
 obtain⟨⟨x0,xl⟩,y0,y1,y2,y3,yl⟩:=af l (Below.refl _ _);have R:=Hd aa;have az:=Hd k3;have HT:=Hd ht;have HV:=Hd hv;have HF:=Hd hf;have HK:=Hd hk;have HI:=Hd hi;have bj:=Hd b8;have bi:=Hd (aw l aa);have bk:=Hd (b2 l aa);clear hg g1 g2 ht hv hf hk hi b8 aa k1 k2 k3 n1 n3 n4 a7 b2 aw;refine(callsIn_wide (n:=0)).1 ?_;refine callsIn_of_wp_marks Tryz.func21 rfl trivial ?_ rfl;simp only[Tryz.ntmps21,List.size_toArray,List.length_cons,List.length_nil,Nat.reduceAdd,Nat.reduceSub,Array.replicate_succ,Array.replicate_zero,List.push_toArray,List.append_toArray,List.nil_append,List.cons_append]
 refine wpIn_wide.2 ?_;go_wp2_with (first
  | (go_at_call 54;refine bk.mono ?_;rintro e w1 ⟨rfl,aq⟩;have aq:=aq.symm;subst aq)
  | (go_at_call 35;refine bi.mono ?_;rintro e I ⟨rfl,ag⟩;have ad:=Hd ag;obtain⟨⟨z0,zl⟩,-⟩:=af I ag;clear ag)
  | (go_at_call 55;refine T7.mono ?_;rintro e w4 ⟨rfl,a6⟩;have b3:=Hd a6;clear a6))
 have a6:=b3.out;have b6:Below I.heap.size I w4:=by rw[a6];exact(AH I _).alloc (by simp) _
 have bq:w4.heap.size=I.heap.size+2:=by rw[a6];simp
 have be:Ah w4 I.heap.size 51 #[.pointer (some ⟨rb,0,none⟩)]:=by rw[a6];exact(Ah.new I _ _).alloc _
 have b9:Ah w4 (I.heap.size+1) 3 #[.int .i64 i]:=by rw[a6];exact Ah.newAt (by simp)
 have ai:Below l.heap.size l w4:=ad.trans (b6.mono ad.size);have aj:Below w.heap.size w w4:=R.trans (ai.mono R.size);have bp:=ad.size;have bo:=R.size;have hA:∀b,(b<w.heap.size\/(I.heap.size<=b/\b<w4.heap.size))->b<w4.heap.size:=fun b o=>by omega
 have b5:Gb (fun b=>b<w.heap.size\/(I.heap.size<=b/\b<w4.heap.size)) w4 rb T:=by have h:=HT.BB aj.size (fun b o=>aj.block b o);exact⟨⟨.inl HT.r.2,h.r.2⟩,by obtain⟨j,c,h1,h2,C⟩:=h.row;exact⟨j,c,h1,.inl h2,C⟩,fun p t=>(h.kids p t).mono fun b o=>.inl o⟩
 have bd:=SK (ib:=I.heap.size+1) (tx:=I.heap.size) hA b5 (.inr (by omega)) (.inr (by omega)) b9 be HV HF HK HI;have b1:=Hd bd;have ar:=Hd hA;have a9:=Hd ai;have b4:Hid (∀k∈xs,k<T.length):=Hd (fun k hk=>by have:=Lm HV k hk;rwa [lM]at this);clear a6 b3 bq b6 be b9 ai aj hA b5 bd a8 x0 xl y0 y1 y2 y3 yl z0 zl bp bo;refine(wpIn_wide (n:=0)).1 ?_;refine LH (encs:=KC) (gf:=103) (lb:=#[.pointer (some ⟨I.heap.size+1,0,none⟩),.pointer (some ⟨I.heap.size,0,none⟩)]) rfl (fun _ _=>by kernel_rfl) b1 ar (fun _=>rfl)
  (fun _ _ W'=>Below l.heap.size l W') (fun c A' W'=>False) ?hI ?hIx ?h0 ?hround ?hdone ?hstop
 case hI=>exact fun s A1 A2 bn U' h hc br=>h.trans (hc.below h.size (fun bf hj h=>by have:=a9.size;omega))
 case hIx=>exact fun c s A1 A2 bn U' h _ _=>h
 case h0=>exact a9
 case hstop=>exact fun D c A' W' _ _ _ _ h _=>h.elim
 case hdone=>
  rintro D A5 W5 hD bt ao ab hj hK;have o:=az.below hj az.lt;have z0:=Ah.cell o 0;have f0:=Ah.frozen o 0;have zl:=o.lt;simp at z0;have al:D≠w.heap.size+1+1:=fun e=>by unfold Ah at o;rw[e,o]at hK;cases hK
  have bl:=Hd hK;have HJ:=Hd hj;have bh:=Hd o;clear hK hj o ao ab;go_wp2;refine⟨by simp,.inl ⟨_,_,rfl,run_takeDeferred ((Below.heap_setCell _ _ _ _ al).trans bl),?_⟩⟩;have an:=bh.Be 0 (.bool true);simp at an;have hc:Aj (fun b=>b=D\/b=w.heap.size+1+1) W5 ((W5.setCell ⟨w.heap.size+1+1,0,none⟩ (.bool true)).putObj D (.deferred none)):=((Aj.refl _ W5).set (p:=⟨w.heap.size+1+1,0,none⟩) (.inr (.inr rfl)) _).put (.inr (.inl rfl)) _;have h5:Below w.heap.size w W5:=R.trans (HJ.mono R.size);have h9:Below w.heap.size w ((W5.setCell ⟨w.heap.size+1+1,0,none⟩ (.bool true)).putObj D (.deferred none)):=h5.trans (hc.below h5.size (fun bf hj h=>by have:=a9.size;have:=R.size;omega))
  have z9:((W5.setCell ⟨w.heap.size+1+1,0,none⟩ (.bool true)).putObj D (.deferred none)).cell? ⟨w.heap.size+1+1,0,none⟩=some (.bool true):=(World.cell?_of_block (World.putObj_heap_other al.symm)).trans (an.cell 0);have l9:w.heap.size+1+1<((W5.setCell ⟨w.heap.size+1+1,0,none⟩ (.bool true)).putObj D (.deferred none)).heap.size:=AW zl hc.size;generalize (W5.setCell ⟨w.heap.size+1+1,0,none⟩ (.bool true)).putObj D (.deferred none)=w9 at *;refine⟨.bool true,?_,rfl,h9⟩;clear hc h5 h9 an al;simp[results,Tryz.f21,go_sem];go_simp
 case hround=>
  rintro l1 pre k A5 W5 bc bw bx bu ao ab hj;have ba:=b4 k (bc.subset (by simp));obtain⟨p,t⟩:∃p,T[k]?=some p:=⟨_,eG ba⟩
  have HJ:=Hd hj;have HP:=Hd t;have bm:=Hd ab;simp only[KC];clear hj ab bc ao t b4 b1 ar HF HI HV;simp
  gi_wp2
  refine⟨AG _,Bp.refl _ _,fun W7 b7 bz r hr=>?_⟩;have ak:Below l.heap.size l W7:=HJ.trans (b7.below HJ.size (fun bf hj h=>by have:=a9.size;omega));obtain⟨j,cn,n1,-,n3,n4⟩:=HT.row;have a7:=HT.r.2;have t:=HP.out;have a0:=n4 k p t 0 (by decide);have a1:=n4 k p t 1 (by decide);have a2:=n4 k p t 2 (by decide);have a3:=n4 k p t 3 (by decide);have a4:=n4 k p t 4 (by decide);have a5:=n4 k p t 5 (by decide);obtain⟨Ak,ck,bb⟩:=(HT.kids p (mG t)).shape;have ay:Hid (∀y,Below l.heap.size l y->Calls Tryz.prog 56 #[.pointer (some ⟨rb,0,none⟩),.agg #[.slice AT nt cT,.slice AN nn cN,.slice AR nr cR,.int .i64 gs],.agg #[.int .i64 p.1.sym,.int .i64 p.1.leaf,.int .i64 p.1.Bb,p.2,.bool p.1.DI,.bool p.1.below]] y fun e w'=>e=.returned (.bool true)/\Below y.heap.size y w'):=Hd (fun y J=>by
   have C:Below w.heap.size w y:=R.trans (J.mono R.size);exact VM (HG.later C) (HT.BB C.size (fun b o=>C.block b o)) t (bj p (mG t)) (HK p (mG t)))
  obtain⟨x,kv⟩:=p;simp only at bb;subst bb;generalize x.kids.length=kl at *;have b0:Hid (∀y,Below l.heap.size l y->(fun y:World=>((y.cell? ⟨w.heap.size,0,none⟩=some (.pointer (some ⟨rb,0,none⟩))/\w.heap.size<y.heap.size)/\(y.cell? ⟨w.heap.size+1,0,none⟩=some (.slice AT nt cT)/\y.cell? ⟨w.heap.size+1,1,none⟩=some (.slice AN nn cN)/\y.cell? ⟨w.heap.size+1,2,none⟩=some (.slice AR nr cR)/\y.cell? ⟨w.heap.size+1,3,none⟩=some (.int .i64 gs)/\w.heap.size+1<y.heap.size))/\(y.cell? ⟨rb,0,none⟩=some (.slice (some ⟨j,0,none⟩) T.length cn)/\rb<y.heap.size)/\j<y.heap.size/\y.cell? ⟨j,k*6,none⟩=some (.int .i64 x.sym)/\y.cell? ⟨j,k*6+1,none⟩=some (.int .i64 x.leaf)/\y.cell? ⟨j,k*6+2,none⟩=some (.int .i64 x.Bb)/\y.cell? ⟨j,k*6+3,none⟩=some (.slice Ak kl ck)/\y.cell? ⟨j,k*6+4,none⟩=some (.bool x.DI)/\y.cell? ⟨j,k*6+5,none⟩=some (.bool x.below)) y):=Hd (fun y J=>by
   have C:Below w.heap.size w y:=R.trans (J.mono R.size);exact⟨af y J,⟨(C.cell (p:=⟨rb,0,none⟩) a7).trans n1,AW a7 C.size⟩,AW n3 C.size,(C.cell (p:=⟨j,_,none⟩) n3).trans a0,(C.cell (p:=⟨j,_,none⟩) n3).trans a1,(C.cell (p:=⟨j,_,none⟩) n3).trans a2,(C.cell (p:=⟨j,_,none⟩) n3).trans a3,(C.cell (p:=⟨j,_,none⟩) n3).trans a4,(C.cell (p:=⟨j,_,none⟩) n3).trans a5⟩)
  have ae:=Hd ak;have bv:(k:Int)<(T.length:Int):=by omega
  have ax:=Hd (ay W7.drew ak.drew);generalize T.length=tl at *;simp only at ax;clear a0 a1 a2 a3 a4 a5 n1 n3 n4 a7 t ak hr b7 HP HJ HT ba ay
  gi_wp2
  have U:=b0 _ ae.drew;refine Sg (by kernel_rfl) (by rintro⟨a,w',h⟩;exact h) (by kernel_rfl) (Pe (Z:=fun _=>false) (S:=(fun y:World=>((y.cell? ⟨w.heap.size,0,none⟩=some (.pointer (some ⟨rb,0,none⟩))/\w.heap.size<y.heap.size)/\(y.cell? ⟨w.heap.size+1,0,none⟩=some (.slice AT nt cT)/\y.cell? ⟨w.heap.size+1,1,none⟩=some (.slice AN nn cN)/\y.cell? ⟨w.heap.size+1,2,none⟩=some (.slice AR nr cR)/\y.cell? ⟨w.heap.size+1,3,none⟩=some (.int .i64 gs)/\w.heap.size+1<y.heap.size))/\(y.cell? ⟨rb,0,none⟩=some (.slice (some ⟨j,0,none⟩) tl cn)/\rb<y.heap.size)/\j<y.heap.size/\y.cell? ⟨j,k*6,none⟩=some (.int .i64 x.sym)/\y.cell? ⟨j,k*6+1,none⟩=some (.int .i64 x.leaf)/\y.cell? ⟨j,k*6+2,none⟩=some (.int .i64 x.Bb)/\y.cell? ⟨j,k*6+3,none⟩=some (.slice Ak kl ck)/\y.cell? ⟨j,k*6+4,none⟩=some (.bool x.DI)/\y.cell? ⟨j,k*6+5,none⟩=some (.bool x.below))) _ _ _ _ ?_)
  refine Is 0 U ?_;simp only[AD,AA];refine Is 1 U ?_;simp only[AD,AA];refine Is 2 U ?_;simp only[AD,AA];refine Is 3 U ?_;simp only[AD,AA];refine Is 4 U ?_;simp only[AD,AA];refine Is 5 U ?_;simp only[AD,AA];refine Is 6 U ?_;simp only[AD,AA];refine Is 7 U ?_;simp only[AD,AA];refine Is 8 U ?_;simp only[AD,AA];clear U;refine GI 9 (by kernel_rfl) rfl rfl (fun K hK=>?_);go_simp;refine ax.mono ?_;rintro e w8 ⟨rfl,ah⟩;have au:Hid (Below l.heap.size l w8):=Hd (ae.drew.trans (ah.mono ae.size))
  have av:Hid (Below W7.heap.size W7 w8):=Hd (((Below.refl _ W7).drew).trans ah);clear ah;refine hK _ _ (fun _ _=>b0 _ au) ?_;clear hK K;refine GI 10 (by kernel_rfl) rfl rfl (fun K hK=>?_);go_simp;refine hK _ _ (fun _ h=>h) ?_;clear hK K;refine Na (by kernel_rfl) ?_ _
  gi_wp2
  exact⟨av.size,fun b o=>av.block b (by have:=bm b o;omega),au⟩
end
def Rf{B n:Nat}{l:List Nat}(h:w.ownsRow B 3 1 v n (l.map AO))(t:l.length=n)(J:n<=1000000):Bv BP w v (l.map Int.ofNat):=by
 subst t;rcases Bk h with⟨rfl,h0⟩|⟨b,c,rfl,-,o,p,-⟩
 ·obtain rfl:l=[]:=List.eq_nil_of_length_eq_zero h0
  exact⟨⟨none,0,rfl,fun k x i=>by cases i⟩,by simp,fun A n c e=>by cases e;exact⟨AG _,fun _=>rfl⟩⟩
 ·refine⟨⟨some ⟨b,0,none⟩,c,by simp,fun k x i=>?_⟩,by rw[lM];omega,fun A n C e=>by cases e;exact⟨p,fun e=>by cases e⟩⟩
  obtain⟨y,j,rfl⟩:=Option.map_eq_some_iff.1 (by rwa [pG]at i);have I:=(sG.1 j).1;refine⟨b,0,rfl,o,?_⟩;rw[Nat.zero_add,Bg h k (by omega),pG,j];rfl
def iO{B n p o:Nat}{u:Value}{a:List Nat}(i:w.ownsRow B 3 1 u n (a.map AO))(j:w.ownsRow p 3 1 v o (a.map AO))(I:a.length=n)(J:a.length=o)(P:n<=1000000):() 22 #[u,v] w fun e w'=>e=.returned (.bool true)/\Below w w w':=by
 have h:=TN (Rf i I P) (Rf j J (by omega));unfold Br at h;rw[beq_self_eq_true]at h;have C:=Hd h;obtain⟨A,c,rfl⟩:=CG i;obtain⟨R,T,rfl⟩:=CG j;clear h i j;go_enter Tryz.func22,Tryz.ntmps22
 go_wp2_with (go_at_call 57;refine C.mono ?_;rintro e U ⟨rfl,l⟩;have t:=Hd l;clear l)
 go_ret;exact⟨rfl,t⟩
end Go.Proofs.YthaacmablcpdfaaGreatDoor
