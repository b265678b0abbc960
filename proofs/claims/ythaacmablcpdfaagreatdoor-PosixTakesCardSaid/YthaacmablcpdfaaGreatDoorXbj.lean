/- A region that draws. -/
import Derived.Test.YthaacmablcpdfaaGreatDoorXbi
set_option linter.all false
set_option maxRecDepth 100000
set_option maxHeartbeats 0
namespace Go.Proofs.YthaacmablcpdfaaGreatDoor
open Go.RowKit Go.Proofs.Tryz
variable{w:World}{rb:Nat}{T:List (Nd×Value)}{xs:List Nat}
section
variable {P:Program} {ops:Array Oper} {Q:Exit->Act->World->Prop} {md:Region.Mode} {l:Nat}
def OA(ops:Array Oper):Bool:=ops.all fun o=>match o.op with | .defer _=>false|_=>true
theorem Xt{o:Oper}{a:Act}{K:Act->World->Prop}(p:∀c,o.op ≠ .defer c)(h:o.wp P a w K Q):o.wpIn (Fence.wide.inRound l) 0 P a w K Q:=by
 unfold Oper.wpIn;refine⟨fun _ _=>trivial,?_⟩;rw[Oper.semAt_eq _ _ _ p];unfold Oper.wp at h;generalize (execOp a.eval o).run P w=r at *;cases r with
 | ok x i=>
  cases x<;>simp only[Oper.upon,Oper.uponIn]at h ⊢ <;>
   first
    | exact h
    | exact⟨fun h=>(by cases h),CallsIn.inRound l (callsIn_wide.2 h)⟩
    | exact⟨fun h=>(by cases h),trivial,fun c j _=>let ⟨v,i,r,s⟩:=h c j;⟨v,i,r,stepsIn_wide.2 s⟩⟩
    | exact⟨fun h=>(by cases h),fun c j _=>let ⟨v,i,r,s⟩:=h c j;⟨v,i,r,stepsIn_wide.2 s⟩⟩
 | halt x i=>cases x<;>simp only[Oper.upon,Oper.uponIn]at h ⊢<;>exact h
theorem Mx(p:OA ops=true)(t:¬LetsOut Q):∀(f:Nat) (listed:Array Bool) (a:Act) (w:World),wpAny P md ops Q f listed a w->wpAnyIn (Fence.wide.inRound l) 0 P md ops Q f listed a w
 | 0,_,_,_,h=>h
 | f+1,listed,a,w,h=>⟨h.1,fun i R=>by
  have j:=h.2 i R;unfold wpOp at j;unfold wpOpIn;cases C:ops[i]? with
  | none=>rw[C]at j;exact Mx p t f _ _ _ j
  | some o=>
   rw[C]at j;simp only at j ⊢;have T:∀c,o.op ≠ .defer c:=fun c e=>by unfold OA at p;have J:=Array.all_eq_true'.1 p o (Array.mem_of_getElem? C);rw[e]at J;cases J
   split
   ·rename_i I
    rw[if_pos I]at j;exact Xt T (Oper.wp_mono (fun a w h=>Mx p t f _ a w h) (j.resolve_right fun h=>t h.2))
   ·rename_i I
    rw[if_neg I]at j;exact⟨fun _ _=>trivial,Mx p t f _ _ _ j⟩⟩
def Sg{id:Nat}{a:Act}(i:OA ops=true)(o:¬LetsOut Q)(j:P.follows .mixedOrders=true)(h:wpAny P .any ops Q ops.size (Array.replicate ops.size false) a w.drew):(Code.region id ops true).wpIn (Fence.wide.inRound l) 0 P Q a w:=
 wpIn_region_any j (Mx i o _ _ _ _ h)
end
section
attribute [local go_sem] Oper.semAt_some
def T7{i:Nat}:() 55 #[(rb,0),i] w fun e w'=>e=.returned (.func (.func 103) #[] #[(w.heap.size+1,0),(w,0)])/\w'=(w.alloc (.cells #[(rb,0)] 51)).alloc (.cells #[i] 3):=by
 go_enter func55,ntmps55
 go_wp2;go_ret;exact⟨rfl,rfl⟩
def YX{s l r:Int}{A:Option Addr}{n c:Nat}:() 59 #[.agg #[s,l,r,.slice A n c]] w fun e w'=>e=.returned s/\Below w w w':=by
 go_enter func59,ntmps59
 go_wp2;go_ret;exact⟨rfl,AH w _⟩
def D5(tr:List Nd)(l:List Nat):List Nat:=l.filterMap fun k=>(tr[k]?).bind fun x=>if x.DI then some x.sym else none
def WE{tr:List Nd}{x:Nd}{k:Nat}(h:tr[k]?=some x)(l:List Nat):D5 tr (l++[k])=D5 tr l++(if x.DI then[x.sym] else[]):=by unfold D5;rw[List.filterMap_append];cases i:x.DI<;>simp[h,i]
def fV(tr:List Nd)(l:List Nat):(D5 tr l).length<=l.length:=List.length_filterMap_le _ _
theorem Lm{tr:List Nd}:∀{f:Nat} {st xs:List Nat},BV tr f st=some xs->∀k∈xs,k<tr.length
 | f,[],xs,h,k,i=>by
  unfold BV at h;cases h
  cases i
 | f,p::st,xs,h,k,i=>by
  obtain⟨o,x,r,rfl,l,j,rfl⟩:=JR h;rcases List.mem_cons.1 i with rfl|i
  ·exact(sG.1 l).1
  ·exact Lm j k i
def L4(tr:List Nd)(w:World)(j:Nat)(W:World)(pre:List Nat)(A':Nat->Prop)(i:World):Prop:=FK 3 1 44 w j (D5 tr pre).length ((D5 tr pre).map AO) A' i/\W.heap.size<=i.heap.size
def UX{i f:Nat}(ht:Gb (fun b=>b<w.heap.size) w rb T)(hv:BV (T.map (·.1)) f [i]=some xs)(hf:f<=100000)(hk:∀p∈T,p.1.kids.length<=100000)(hi:i<T.length) :
  Calls Tryz.prog 58 #[.pointer (some ⟨rb,0,none⟩),.int .i64 i,.func (.func 59) #[] #[]] w fun e w'=>∃o,e=.returned o/\LB 3 1 w (D5 (T.map (·.1)) xs).length ((D5 (T.map (·.1)) xs).map AO) o w':=by
 obtain⟨j,ab⟩:∃j,(w.alloc (.cells #[.pointer (some ⟨rb,0,none⟩)] 51)).alloc (.cells #[.func (.func 59) #[] #[]] 117)=j:=⟨_,rfl⟩
 have bh:Below w.heap.size w j:=by rw[<-ab];exact(AH w _).alloc (by simp) _
 have aj:j.heap.size=w.heap.size+2:=by rw[<-ab];simp
 have al:Ah j w.heap.size 51 #[.pointer (some ⟨rb,0,none⟩)]:=by rw[<-ab];exact(Ah.new w _ _).alloc _
 have c6:Ah j (w.heap.size+1) 117 #[.func (.func 59) #[] #[]]:=by rw[<-ab];exact Ah.newAt (by simp)
 obtain⟨t,an⟩:∃t,j.alloc (.cells #[.slice none 0 0] 44)=t:=⟨_,rfl⟩
 have au:Below j.heap.size j t:=by rw[<-an];exact AH j _
 have ak:t.heap.size=j.heap.size+1:=by rw[<-an];simp
 have br:Ah t j.heap.size 44 #[.slice none 0 0]:=by rw[<-an];exact Ah.new j _ _
 have c0:t.cell? ⟨w.heap.size,0,none⟩=some (.pointer (some ⟨rb,0,none⟩)):=(al.below au al.lt).cell 0;have l0:w.heap.size<t.heap.size:=by omega
 have b3:=Hd au;have aq:=Hd br;have ae:=Hd ht;have HV:=Hd hv;have HF:=Hd hf;have HK:=Hd hk;have HI:=Hd hi;have a7:=Hd bh;have c8:=Hd ab;have ba:=Hd al;have bc:=Hd c6;have b8:=Hd aj;have c7:=Hd ak;clear ht hv hf hk hi bh al c6 au br aj ak;refine(callsIn_wide (n:=0)).1 ?_;refine callsIn_of_wp_marks func58 rfl trivial ?_ rfl;simp only[ntmps58,List.size_toArray,List.length_cons,List.length_nil,Nat.reduceAdd,Nat.reduceSub,Array.replicate_succ,Array.replicate_zero,List.push_toArray,List.append_toArray,List.nil_append,List.cons_append]
 refine wpIn_wide.2 ?_;go_wp2_with (go_at_call 55;refine T7.mono ?_;rintro e C ⟨rfl,a9⟩;have bb:=Hd a9;clear a9)
 have a9:=bb.out;have aj:=b8.out;have ak:=c7.out;have av:Below t.heap.size t C:=by rw[a9];exact(AH t _).alloc (by simp) _
 have cl:C.heap.size=t.heap.size+2:=by rw[a9];simp
 have bz:Ah C t.heap.size 51 #[.pointer (some ⟨rb,0,none⟩)]:=by rw[a9];exact(Ah.new t _ _).alloc _
 have bm:Ah C (t.heap.size+1) 3 #[.int .i64 i]:=by rw[a9];exact Ah.newAt (by simp)
 have a6:Below j.heap.size j C:=b3.trans (av.mono b3.size);have aw:Below w.heap.size w C:=a7.trans (a6.mono a7.size);have hA:∀b,(b<j.heap.size\/(t.heap.size<=b/\b<C.heap.size))->b<C.heap.size:=fun b P=>by omega
 have bf:Gb (fun b=>b<j.heap.size\/(t.heap.size<=b/\b<C.heap.size)) C rb T:=by have h:=ae.BB aw.size (fun b P=>aw.block b P);exact⟨⟨.inl (by have:=ae.r.2;omega),h.r.2⟩,by obtain⟨l,c,h1,h2,h3⟩:=h.row;exact⟨l,c,h1,.inl (by omega),h3⟩,fun p J=>(h.kids p J).mono fun b P=>.inl (by omega)⟩
 have bv:=SK (ib:=t.heap.size+1) (tx:=t.heap.size) hA bf (.inr (by omega)) (.inr (by omega)) bm bz HV HF HK HI;have be:L4 (T.map (·.1)) j j.heap.size C [] (fun b=>b<j.heap.size\/(t.heap.size<=b/\b<C.heap.size)) C:=
  ⟨⟨AG _,fun h=>by omega,.slice none 0 0,aq.below av aq.lt,⟨none,0,rfl,⟨by simp[D5],.inl ⟨rfl,rfl⟩⟩,a6⟩,fun b P=>by cases P⟩,AG _⟩
 have b9:=Hd bv;have b2:=Hd hA;have b4:=Hd be;have ao:=Hd a6;have ar:Hid ((∀k∈xs,k<T.length)/\xs.length<=100000):=Hd ⟨fun k hk=>by have:=Lm HV k hk;rwa [lM]at this,by have:=Oj HV;have:=HF.out;omega⟩;clear aj ak cl a9 bb av bz bm a6 aw hA bf bv be c0 ab an c8 aq HV;refine(wpIn_wide (n:=0)).1 ?_;refine LH (encs:=KC) (gf:=103) (lb:=#[.pointer (some ⟨t.heap.size+1,0,none⟩),.pointer (some ⟨t.heap.size,0,none⟩)]) rfl (fun _ _=>by kernel_rfl) b9 b2 (fun _=>rfl)
  (L4 (T.map (·.1)) j j.heap.size C) (fun c A' W'=>False) ?hI ?hIx ?h0 ?hround ?hdone ?hstop
 case hI=>exact fun s A1 A2 ca U' h hc cb=>⟨h.1.Jv (by have:=ao.size;omega) hc cb,AY h.2 hc.size⟩
 case hIx=>exact fun c s A1 A2 ca U' h _ _=>h
 case h0=>exact b4
 case hstop=>exact fun D c A' W' _ _ _ _ h _=>h.elim
 case hdone=>rintro D A5 W5 hD cc bx ay ⟨hj,-⟩ I;obtain⟨o,b0,bt⟩:=hj.SJ (D:=D) (by have:=ao.size;omega) cc (.deferred none);have HO:=Hd bt;clear bt hj;go_wp2;refine⟨by simp,.inl ⟨_,_,rfl,run_takeDeferred I,?_⟩⟩;refine⟨_,results_tmp rfl _ _ _,?_⟩;obtain⟨A',c',e,h1,h2⟩:=HO.out;exact⟨o,rfl,A',c',e,EL h1 (by have:=b8.out;omega),a7.trans (h2.mono a7.size)⟩
 case hround=>
  rintro l1 pre k A5 W5 b1 cs ct cd bx ay ⟨hj,cv⟩;have bp:k∈xs:=b1.subset (by simp);have bn:=ar.1 k bp;obtain⟨p,J⟩:∃p,T[k]?=some p:=⟨_,eG bn⟩
  have bu:=b1.length_le;rw[BO,List.length_singleton]at bu;have cj:=fV (T.map (·.1)) pre;have ch:(D5 (T.map (·.1)) pre).length<=100000:=by have:=ar.2;omega
  have bw:=WE (tr:=T.map (·.1)) (x:=p.1) (k:=k) (by rw[pG,J];rfl) pre;have ad:=Hd bw;have HJ:=Hd hj;have b5:=Hd ay;have HP:=Hd J;simp only[KC];clear hj ay b1 bp bx bu cj bw J ar b9 b2 b4 HF HK HI;simp
  gi_wp2
  refine⟨AG _,Bp.refl _ _,fun W7 bk cu r hr=>?_⟩;have cg:=HJ.Jv (B:=j.heap.size) (A':=A5) (AG _) (bk.mono (fun b P=>by subst P;exact⟨by have:=ao.size;omega,cd⟩)) (fun _=>.inl);have bq:∀b,A5 b->b<W7.heap.size:=fun b P=>by have:=b5 b P;omega
  obtain⟨bj,bd,o,ai,⟨Ao,oc,rfl,ho,a6⟩,az⟩:=cg;obtain⟨q,hq⟩:∃q,(D5 (T.map (·.1)) pre).length=q:=⟨_,rfl⟩
  rw[hq]at ai ho az ch;have HQ:=Hd hq;have cf:Below w.heap.size w W7:=a7.trans (a6.mono a7.size);obtain⟨l,cn,n1,-,n3,n4⟩:=ae.row;have ax:=ae.r.2;have J:=HP.out;have a0:=n4 k p J 0 (by decide);have a1:=n4 k p J 1 (by decide);have a2:=n4 k p J 2 (by decide);have a3:=n4 k p J 3 (by decide);have a4:=n4 k p J 4 (by decide);obtain⟨Ak,ck,bo⟩:=(ae.kids p (mG J)).shape;obtain⟨x,kv⟩:=p;simp only at bo;subst bo;generalize x.kids.length=kl at *;have aa:Hid (∀y,Below j.heap.size j y->Ah y j.heap.size 44 #[.slice Ao q oc]->(fun y:World=>(y.cell? ⟨j.heap.size,0,none⟩=some (.slice Ao q oc)/\j.heap.size<y.heap.size)/\(y.cell? ⟨w.heap.size+1,0,none⟩=some (.func (.func 59) #[] #[])/\w.heap.size+1<y.heap.size)/\(y.cell? ⟨w.heap.size,0,none⟩=some (.pointer (some ⟨rb,0,none⟩))/\w.heap.size<y.heap.size)/\(y.cell? ⟨rb,0,none⟩=some (.slice (some ⟨l,0,none⟩) T.length cn)/\rb<y.heap.size)/\l<y.heap.size/\y.cell? ⟨l,k*6,none⟩=some (.int .i64 x.sym)/\y.cell? ⟨l,k*6+1,none⟩=some (.int .i64 x.leaf)/\y.cell? ⟨l,k*6+2,none⟩=some (.int .i64 x.Bb)/\y.cell? ⟨l,k*6+3,none⟩=some (.slice Ak kl ck)/\y.cell? ⟨l,k*6+4,none⟩=some (.bool x.DI)) y):=Hd (fun y hy P=>by
   have h1:=ba.below hy ba.lt;have h2:=bc.below hy bc.lt;have h3:Below w.heap.size w y:=a7.trans (hy.mono a7.size);exact⟨⟨P.cell 0,P.lt⟩,⟨h2.cell 0,h2.lt⟩,⟨h1.cell 0,h1.lt⟩,⟨(h3.cell (p:=⟨rb,0,none⟩) ax).trans n1,AW ax h3.size⟩,AW n3 h3.size,(h3.cell (p:=⟨l,_,none⟩) n3).trans a0,(h3.cell (p:=⟨l,_,none⟩) n3).trans a1,(h3.cell (p:=⟨l,_,none⟩) n3).trans a2,(h3.cell (p:=⟨l,_,none⟩) n3).trans a3,(h3.cell (p:=⟨l,_,none⟩) n3).trans a4⟩)
  obtain⟨-,-,⟨x1,xl⟩,⟨x2,cp⟩,cq,-,-,-,-,e4⟩:=aa W7 a6 ai;have a5:=Hd ai;have HO:=Hd ho;have b7:=Hd az;have R:=Hd a6;have b6:=Hd bq;have cr:(k:Int)<(T.length:Int):=by omega
  generalize T.length=tl at *;simp only at ad;clear a0 a1 a2 a3 a4 ai ho az a6 bq n1 n3 n4 ax J cf hq hr bk HP HJ b5 bn;cases hx:x.DI with
  | false=>
   rw[hx]at e4 ad
   gi_wp2
   refine⟨AG _,Bp.refl _ _,?_⟩;unfold L4;rw[ad.out];simp only[Bool.false_eq_true,if_false,List.append_nil,HQ.out];exact⟨⟨bj,bd,_,a5,⟨Ao,oc,rfl,HO,R⟩,b7⟩,by omega⟩
  | true=>
   rw[hx]at e4 ad aa
   gi_wp2
   have U:=aa _ R.drew a5.drew;clear x1 xl x2 cp cq e4;refine Sg (by kernel_rfl) (by rintro⟨a,w',h⟩;exact h) (by kernel_rfl) (NI (z:=13) (S:=(fun y:World=>(y.cell? ⟨j.heap.size,0,none⟩=some (.slice Ao q oc)/\j.heap.size<y.heap.size)/\(y.cell? ⟨w.heap.size+1,0,none⟩=some (.func (.func 59) #[] #[])/\w.heap.size+1<y.heap.size)/\(y.cell? ⟨w.heap.size,0,none⟩=some (.pointer (some ⟨rb,0,none⟩))/\w.heap.size<y.heap.size)/\(y.cell? ⟨rb,0,none⟩=some (.slice (some ⟨l,0,none⟩) tl cn)/\rb<y.heap.size)/\l<y.heap.size/\y.cell? ⟨l,k*6,none⟩=some (.int .i64 x.sym)/\y.cell? ⟨l,k*6+1,none⟩=some (.int .i64 x.leaf)/\y.cell? ⟨l,k*6+2,none⟩=some (.int .i64 x.Bb)/\y.cell? ⟨l,k*6+3,none⟩=some (.slice Ak kl ck)/\y.cell? ⟨l,k*6+4,none⟩=some (.bool true))) _ _ _ _ ?_)
   refine AE 0 U ?_;simp only[AD,AA];refine AE 1 U ?_;simp only[AD,AA];refine AE 2 U ?_;simp only[AD,AA];refine AE 3 U ?_;simp only[AD,AA];refine AE 4 U ?_;simp only[AD,AA];refine AE 5 U ?_;simp only[AD,AA];refine AE 6 U ?_;simp only[AD,AA];refine AE 7 U ?_;simp only[AD,AA];refine AE 8 U ?_;simp only[AD,AA];refine AE 9 U ?_;simp only[AD,AA];clear U;refine Bj 10 (by kernel_rfl) rfl rfl (fun K I=>?_);go_simp;refine YX.mono ?_;rintro e w8 ⟨rfl,bi⟩;have ag:Hid (Below W7.heap.size W7 w8):=Hd (((Below.refl _ W7).drew).trans bi)
   clear bi;refine I _ _ (fun _=>aa _ (R.trans (ag.mono R.size)) (a5.below ag a5.lt)) ?_;clear I K;have a8:Hid (Below W7.heap.size W7 (w8.alloc (.cells #[.int .i64 x.sym] 3))):=Hd (ag.alloc ag.size _);refine Bj 11 (by kernel_rfl) rfl rfl (fun K I=>?_);go_simp;refine I _ _ (fun _=>aa _ (R.trans (a8.mono R.size)) (a5.below a8 a5.lt)) ?_;clear I K;refine GH 12 (by kernel_rfl) rfl rfl rfl (fun K I=>?_);refine Ep GM (.tmp 21) (.tmp 32) rfl (base:=j.heap.size) (n:=q) (m:=1) (N:=q+1) (v:=.slice Ao q oc) (src:=.slice (some ⟨w8.heap.size,0,none⟩) 1 1) (xs:=(D5 (T.map (·.1)) pre).map AO) (news:=[AO x.sym]) rfl rfl (AV HO a8) (Bf.Ap (c:=1) (Ah.new w8 3 _) rfl (by simp[AO,Value.oneCell'])) rfl (by unfold maxLen;omega) (by omega) (by have:=R.size;have:=a8.size;omega) ?_
   intro A9 c9 w9 r1 r2 r3;have af:=r2.Ap (a5.below a8 a5.lt) (.inr (by decide));have bl:=FK.put bj bd a5 b7 b6 HO R ((Aj.AK a8).mono (fun _ h=>h)) r3.1 r3.2 r1 (by decide);have cm:=aa w9 ((R.trans (a8.mono R.size)).trans (r2.below (by have:=R.size;have:=a8.size;omega))) af;have y0:=Ah.cell af 0;have y1:=Ah.frozen af 0;have yl:=af.lt;simp at y0;have ah:=Hd bl;clear r1 r2 r3 af bl;refine I _ _ (fun _=>cm) ?_;clear I K;simp only[AD,AA];refine Bj 13 (by kernel_rfl) rfl rfl (fun K I=>?_)
   go_simp;refine I _ _ (fun h=>absurd rfl h) ?_;clear I K;refine DU (by kernel_rfl) ?_ _
   gi_wp2
   refine⟨ah.2.size,PL ah.2 b6,?_⟩;unfold L4;rw[ad.out];simp only[if_true,BO,Bw,HQ.out];exact⟨ah.1,by have:=ah.2.size;omega⟩
def iX{i f:Nat}(C:Gb (fun b=>b<w.heap.size) w rb T)(I:BV (T.map (·.1)) f [i]=some xs)(j:f<=100000)(t:∀p∈T,p.1.kids.length<=100000)(l:i<T.length) :
  () 23 #[(rb,0),i] w fun e w'=>∃o,e=.returned o/\LB 3 1 w (D5 (T.map (·.1)) xs).length ((D5 (T.map (·.1)) xs).map AO) o w':=by
 have J:=Hd (UX C I j t l);clear C I j t l;go_enter func23,ntmps23
 go_wp2_with (go_at_call 58;refine J.mono ?_;rintro e w1 ⟨o,rfl,h⟩;have P:=Hd h;obtain⟨R,U,rfl,-⟩:=h)
 go_ret;exact⟨_,rfl,P⟩
end
def dK{i j n l k s:Nat}(J:w.cell? (i,0)=some (.pointer (rb,0)))(t:i<w.heap.size)(P:w.cell? (rb,0)=some (.slice (j,0) n l))(C:rb<w.heap.size)(R:w.cell? (j,k*6)=some (.int .i64 s))(I:j<w.heap.size)(o:k<n) :
  () 106 #[s,k,(i,0)] w fun e w'=>e=.returned (.bool true)/\w'=w:=by
 have p:(k:Int)<(n:Int):=by omega
 go_enter func106,ntmps106
 go_wp2;go_ret;exact⟨rfl,rfl⟩
def XX{I kv:Value}{a ks:List Nat}{J:Nat}(ha:BF w I a)(hk:BF w kv ks)(o:a.length=ks.length)(hn:ks.length<=100000)(U:∀j s k:Nat,a[j]?=some s->ks[j]?=some k->() 106 #[.int .i64 s,.int .i64 k,(J,0)] w fun e w'=>e=.returned (.bool true)/\w'=w) :
  () 105 #[I,kv,.func (.func 106) #[] #[(J,0)]] w fun e w'=>e=.returned (.bool true)/\w'=w:=by
 obtain⟨⟨Aa,ca,rfl,P⟩,-,-⟩:=ha;obtain⟨⟨Ak,ck,rfl,R⟩,-,-⟩:=hk;obtain⟨n,l⟩:∃n,ks.length=n:=⟨_,rfl⟩
 rw[l]at o hn;rw[o,l];have a1:=Hd P;have a2:=Hd R;have HS:=Hd U;have C:=Hd (And.intro o l);clear P R U o l;go_enter func105,ntmps105
 go_wp2_with fail
 go_loopw [17] (fun ii wr=>∃i:Nat,i<=n/\ii=.int .i64 i/\wr=w) (fun ii _=>n-(intOf ii).toNat)
 case atStart=>exact⟨0,AZ _,rfl,rfl⟩
 case round=>
  obtain⟨i,hi,rfl,a0⟩:=hrel;have a3:=a0.symm;subst a3;clear a0;by_cases T:i<n
  ·obtain⟨s,p⟩:∃s,a[i]?=some s:=⟨_,eG (by rw[C.1];exact T)⟩
   obtain⟨k,t⟩:∃k,ks[i]?=some k:=⟨_,eG (by rw[C.2];exact T)⟩
   obtain⟨b1,o1,rfl,l1,c1⟩:=a1 i s p;obtain⟨b2,o2,rfl,l2,c2⟩:=a2 i k t;unfold AO at c1 c2;have HC:=Hd (HS i s k p t);have a4:(i:Int)<(n:Int):=by omega
   clear p t;go_wp2_with (go_at_call 106;refine HC.mono ?_;rintro e w1 ⟨rfl,rfl⟩)
   go_roundw
   case rel=>exact⟨i+1,by omega,by go_num,trivial⟩
   case measure=>simp[intOf];omega
  ·obtain rfl:i=n:=by omega
   go_wp2_with fail
   go_ret;exact⟨rfl,rfl⟩
end Go.Proofs.YthaacmablcpdfaaGreatDoor
