/- . -/
import Derived.Test.YtiljpamcmmeflaaGreatDoorXbi
import Derived.OrdersIn
set_option linter.all false
set_option maxRecDepth 100000
set_option maxHeartbeats 16000000
namespace Go.Proofs.YtiljpamcmmeflaaGreatDoor
open Go.RowKit Go.Proofs.Tryz
open Value renaming slice→nC,int→nE,pointer→nF,bool→nI
open Option renaming some→nJ,none→nK
open IntKind renaming i64→nM
open Obj renaming cells→nO
open Ending renaming returned→nP
open World renaming cell?→nQ
open Go renaming World→nS,Value→nU
variable{w:nS}{f i rb:Nat}{A:Option Addr}{g:Nd->Int}{T:List (Nd×nU)}{xs:List Nat}{v:nU}
section
variable {P:Program} {ops:Array Oper} {Q:Exit->Act->nS->Prop} {md:Region.Mode} {l:Nat}
def Oq(ops:Array Oper):Bool:=ops.all fun o=>match o.op with | .defer _=>false|_=>true
theorem jY{o:Oper}{a:Act}{K:Act->nS->Prop}(p:∀c,o.op ≠ .defer c)(h:o.wp P a w K Q):o.wpIn (Fence.wide.inRound l) 0 P a w K Q:=by
 unfold Oper.wpIn;refine⟨fun _ _=>trivial,?_⟩;rw[Oper.semAt_eq _ _ _ p];unfold Oper.wp at h;generalize (execOp a.eval o).run P w=r at *;cases r with
 | ok x i=>
  cases x<;>simp only[Oper.upon,Oper.uponIn]at h ⊢ <;>
   first
    | exact h
    | exact⟨fun h=>(by cases h),CallsIn.inRound l (callsIn_wide.2 h)⟩
    | exact⟨fun h=>(by cases h),trivial,fun c j _=>let ⟨v,i,r,s⟩:=h c j;⟨v,i,r,stepsIn_wide.2 s⟩⟩
    | exact⟨fun h=>(by cases h),fun c j _=>let ⟨v,i,r,s⟩:=h c j;⟨v,i,r,stepsIn_wide.2 s⟩⟩
 | halt x i=>cases x<;>simp only[Oper.upon,Oper.uponIn]at h ⊢<;>exact h
theorem Mj(p:Oq ops=true)(t:¬LetsOut Q):∀(f:Nat) (listed:Array Bool) (a:Act) (w:nS),wpAny P md ops Q f listed a w->wpAnyIn (Fence.wide.inRound l) 0 P md ops Q f listed a w
 | 0,_,_,_,h=>h
 | f+1,listed,a,w,h=>⟨h.1,fun i R=>by
  have j:=h.2 i R;unfold wpOp at j;unfold wpOpIn;cases C:ops[i]? with
  | none=>rw[C]at j;exact Mj p t f _ _ _ j
  | some o=>
   rw[C]at j;simp only at j ⊢;have T:∀c,o.op ≠ .defer c:=fun c e=>by unfold Oq at p;have J:=Array.all_eq_true'.1 p o (Array.mem_of_getElem? C);rw[e]at J;cases J
   split
   ·rename_i I
    rw[if_pos I]at j;exact jY T (Oper.wp_mono (fun a w h=>Mj p t f _ a w h) (j.resolve_right fun h=>t h.2))
   ·rename_i I
    rw[if_neg I]at j;exact⟨fun _ _=>trivial,Mj p t f _ _ _ j⟩⟩
def Qr{id:Nat}{a:Act}(i:Oq ops=true)(o:¬LetsOut Q)(j:P.follows .mixedOrders=true)(h:wpAny P .any ops Q ops.size (Array.replicate ops.size false) a w.drew):(Code.region id ops true).wpIn (Fence.wide.inRound l) 0 P Q a w:=
 wpIn_region_any j (Mj i o _ _ _ _ h)
end
section
attribute [local go_sem] Oper.semAt_some
def Qq:() 69 #[(rb,0),i] w fun e w'=>e=nP (.func (.func 107) #[] #[(w.heap.size+1,0),(w,0)])/\w'=(w.alloc (nO #[(rb,0)] 35)).alloc (nO #[i] 3):=by
 go_enter func69,ntmps69
 go_wp2;go_ret;exact⟨rfl,rfl⟩
def iB{s l r:Int}{n c:Nat}:() 72 #[.agg #[s,l,r,nC A n c]] w fun e w'=>e=nP s/\Below w w w':=by
 go_enter func72,ntmps72
 go_wp2;go_ret;exact⟨rfl,AE w _⟩
def ZN{s l r:Int}{n c:Nat}:() 73 #[.agg #[s,l,r,nC A n c]] w fun e w'=>e=nP l/\Below w w w':=by
 go_enter func73,ntmps73
 go_wp2;go_ret;exact⟨rfl,AE w _⟩
def Ez(g:Nd->Int)(tr:List Nd)(l:List Nat):List nU:=l.filterMap fun k=>(tr[k]?).bind fun x=>if x.Ff then nJ (nE nM (g x)) else nK
def lq{tr:List Nd}{x:Nd}{k:Nat}(h:tr[k]?=nJ x)(l:List Nat):Ez g tr (l++[k])=Ez g tr l++(if x.Ff then[nE nM (g x)] else[]):=by unfold Ez;rw[List.filterMap_append];cases i:x.Ff<;>simp[h,i]
def kK(g:Nd->Int)(tr:List Nd)(l:List Nat):(Ez g tr l).length<=l.length:=List.length_filterMap_le _ _
theorem Ps{tr:List Nd}:∀{f:Nat} {st xs:List Nat},En tr f st=nJ xs->∀k∈xs,k<tr.length
 | f,[],xs,h,k,i=>by
  unfold En at h;cases h
  cases i
 | f,p::st,xs,h,k,i=>by
  obtain⟨o,x,r,rfl,l,j,rfl⟩:=Pj h;rcases List.mem_cons.1 i with rfl|i
  ·exact(sG.1 l).1
  ·exact Ps j k i
def MQ(g:Nd->Int)(tr:List Nd)(w:nS)(j:Nat)(W:nS)(pre:List Nat)(A':Nat->Prop)(i:nS):Prop:=Fo 3 1 34 w j (Ez g tr pre).length (Ez g tr pre) A' i/\W.heap.size<=i.heap.size
def Q5{F:Nat}(hF:∀(args:Array nU) (y:nS),(callFunc F args).run Tryz.prog y=.ok (.enter F args) y)(hg:∀(x:Nd) (A:Option Addr) (n c:Nat) (y:nS),Calls Tryz.prog F #[.agg #[nE nM x.sym,nE nM x.leaf,nE nM x.AX,nC A n c]] y fun e w'=>e=nP (nE nM (g x))/\Below y.heap.size y w')(ht:Eo (fun b=>b<w.heap.size) w rb T)(hv:En (T.map (·.1)) f [i]=nJ xs)(hf:f<=100000)(hk:∀p∈T,p.1.kids.length<=100000)(hi:i<T.length) :
  Calls Tryz.prog 71 #[nF (nJ ⟨rb,0,nK⟩),nE nM i,.func (.func F) #[] #[]] w fun e w'=>∃o,e=nP o/\Ld 3 1 w (Ez g (T.map (·.1)) xs).length (Ez g (T.map (·.1)) xs) o w':=by
 obtain⟨j,ab⟩:∃j,(w.alloc (nO #[nF (nJ ⟨rb,0,nK⟩)] 35)).alloc (nO #[.func (.func F) #[] #[]] 132)=j:=⟨_,rfl⟩
 have bi:Below w.heap.size w j:=by rw[<-ab];exact(AE w _).alloc mV _
 have aj:j.heap.size=w.heap.size+2:=by rw[<-ab];simp
 have al:Ah j w.heap.size 35 #[nF (nJ ⟨rb,0,nK⟩)]:=by rw[<-ab];exact(Ah.new w _ _).alloc _
 have c7:Ah j (w.heap.size+1) 132 #[.func (.func F) #[] #[]]:=by rw[<-ab];exact Ah.newAt mV
 obtain⟨t,an⟩:∃t,j.alloc (nO #[nC nK 0 0] 34)=t:=⟨_,rfl⟩
 have au:Below j.heap.size j t:=by rw[<-an];exact AE j _
 have ak:t.heap.size=j.heap.size+1:=by rw[<-an];simp
 have bt:Ah t j.heap.size 34 #[nC nK 0 0]:=by rw[<-an];exact Ah.new j _ _
 have c0:nQ t ⟨w.heap.size,0,nK⟩=nJ (nF (nJ ⟨rb,0,nK⟩)):=(al.below au al.lt).cell 0;have l0:w.heap.size<t.heap.size:=by omega
 have b3:=Hd au;have aq:=Hd bt;have ae:=Hd ht;have HV:=Hd hv;have HF:=Hd hf;have HK:=Hd hk;have HI:=Hd hi;have a7:=Hd bi;have ca:=Hd ab;have ba:=Hd al;have bc:=Hd c7;have b8:=Hd aj;have c8:=Hd ak;have HG:=Hd hg;clear hg ht hv hf hk hi bi al c7 au bt aj ak;refine(callsIn_wide (n:=0)).1 ?_;refine callsIn_of_wp_marks func71 rfl trivial ?_ rfl;simp only[ntmps71,List.size_toArray,List.length_cons,List.length_nil,Nat.reduceAdd,Nat.reduceSub,Array.replicate_succ,Array.replicate_zero,List.push_toArray,List.append_toArray,List.nil_append,List.cons_append]
 refine wpIn_wide.2 ?_;go_wp2_with (go_at_call 69;refine Qq.mono ?_;rintro e C ⟨rfl,a9⟩;have bb:=Hd a9;clear a9)
 have a9:=bb.out;have aj:=b8.out;have ak:=c8.out;have av:Below t.heap.size t C:=by rw[a9];exact(AE t _).alloc mV _
 have cm:C.heap.size=t.heap.size+2:=by rw[a9];simp
 have c6:Ah C t.heap.size 35 #[nF (nJ ⟨rb,0,nK⟩)]:=by rw[a9];exact(Ah.new t _ _).alloc _
 have bn:Ah C (t.heap.size+1) 3 #[nE nM i]:=by rw[a9];exact Ah.newAt mV
 have a6:Below j.heap.size j C:=b3.trans (av.mono b3.size);have aw:Below w.heap.size w C:=a7.trans (a6.mono a7.size);have hA:∀b,(b<j.heap.size\/(t.heap.size<=b/\b<C.heap.size))->b<C.heap.size:=fun b P=>by omega
 have bh:Eo (fun b=>b<j.heap.size\/(t.heap.size<=b/\b<C.heap.size)) C rb T:=by have h:=ae.Bu aw.size (fun b P=>aw.block b P);exact⟨⟨.inl (by have:=ae.r.2;omega),h.r.2⟩,by obtain⟨l,c,h1,h2,U⟩:=h.row;exact⟨l,c,h1,.inl mR,U⟩,fun p J=>(h.kids p J).mono fun b P=>.inl mR⟩
 have bw:=PO (ib:=t.heap.size+1) (tx:=t.heap.size) hA bh (.inr mR) (.inr mR) bn c6 HV HF HK HI;have bf:MQ g (T.map (·.1)) j j.heap.size C [] (fun b=>b<j.heap.size\/(t.heap.size<=b/\b<C.heap.size)) C:=
  ⟨⟨AF _,fun h=>by omega,nC nK 0 0,aq.below av aq.lt,⟨nK,0,rfl,⟨by simp[Ez],.inl ⟨rfl,rfl⟩⟩,a6⟩,fun b P=>by cases P⟩,AF _⟩
 have b9:=Hd bw;have b2:=Hd hA;have b4:=Hd bf;have ao:=Hd a6;have ar:Hid ((∀k∈xs,k<T.length)/\xs.length<=100000):=Hd ⟨fun k hk=>by have:=Ps HV k hk;rwa [lM]at this,by have:=Ng HV;have:=HF.out;omega⟩;clear aj ak cm a9 bb av c6 bn a6 aw hA bh bw bf c0 ab an ca aq HV;refine(wpIn_wide (n:=0)).1 ?_;refine Lp (encs:=Kb) (gf:=107) (lb:=#[nF (nJ ⟨t.heap.size+1,0,nK⟩),nF (nJ ⟨t.heap.size,0,nK⟩)]) rfl (fun _ _=>by kernel_rfl) b9 b2 (fun _=>rfl)
  (MQ g (T.map (·.1)) j j.heap.size C) (fun c A' W'=>False) ?hI ?hIx ?h0 ?hround ?hdone ?hstop
 case hI=>exact fun s A1 A2 cb U' h hc cc=>⟨h.1.Jz (by have:=ao.size;omega) hc cc,AY h.2 hc.size⟩
 case hIx=>exact fun c s A1 A2 cb U' h _ _=>h
 case h0=>exact b4
 case hstop=>exact fun D c A' W' _ _ _ _ h _=>h.elim
 case hdone=>rintro D A5 W5 hD cd bz ay ⟨hj,-⟩ I;obtain⟨o,b0,bu⟩:=hj.R9 (D:=D) (by have:=ao.size;omega) cd (.deferred nK);have HO:=Hd bu;clear bu hj;go_wp2;refine⟨mV,.inl ⟨_,_,rfl,run_takeDeferred I,?_⟩⟩;refine⟨_,results_tmp rfl _ _ _,?_⟩;obtain⟨A',c',e,h1,h2⟩:=HO.out;exact⟨o,rfl,A',c',e,DW h1 (by have:=b8.out;omega),a7.trans (h2.mono a7.size)⟩
 case hround=>
  rintro l1 pre k A5 W5 b1 ct cu cf bz ay ⟨hj,cw⟩;have bq:k∈xs:=b1.subset mV;have bo:=ar.1 k bq;obtain⟨p,J⟩:∃p,T[k]?=nJ p:=⟨_,eG bo⟩
  have bv:=b1.length_le;rw[BS,List.length_singleton]at bv;have cl:=kK g (T.map (·.1)) pre;have cj:(Ez g (T.map (·.1)) pre).length<=100000:=by have:=ar.2;omega
  have bx:=lq (g:=g) (tr:=T.map (·.1)) (x:=p.1) (k:=k) (by rw[pG,J];rfl) pre;have ad:=Hd bx;have HJ:=Hd hj;have b5:=Hd ay;have HP:=Hd J;simp only[Kb];clear hj ay b1 bq bz bv cl bx J ar b9 b2 b4 HF HK HI;simp
  gi_wp2
  refine⟨AF _,Bm.refl _ _,fun W7 bl cv r hr=>?_⟩;have ch:=HJ.Jz (B:=j.heap.size) (A':=A5) (AF _) (bl.mono (fun b P=>by subst P;exact⟨by have:=ao.size;omega,cf⟩)) (fun _=>.inl);have br:∀b,A5 b->b<W7.heap.size:=fun b P=>by have:=b5 b P;omega
  obtain⟨bk,bd,o,ai,⟨Ao,oc,rfl,ho,a6⟩,az⟩:=ch;obtain⟨q,hq⟩:∃q,(Ez g (T.map (·.1)) pre).length=q:=⟨_,rfl⟩
  rw[hq]at ai ho az cj;have HQ:=Hd hq;have cg:Below w.heap.size w W7:=a7.trans (a6.mono a7.size);obtain⟨l,cn,n1,-,n3,n4⟩:=ae.row;have ax:=ae.r.2;have J:=HP.out;have a0:=n4 k p J 0 mT;have a1:=n4 k p J 1 mT;have a2:=n4 k p J 2 mT;have a3:=n4 k p J 3 mT;have a4:=n4 k p J 4 mT;obtain⟨Ak,ck,bp⟩:=(ae.kids p (mG J)).shape;obtain⟨x,kv⟩:=p;simp only at bp;subst bp;generalize x.kids.length=kl at *;have aa:Hid (∀y,Below j.heap.size j y->Ah y j.heap.size 34 #[nC Ao q oc]->(fun y:nS=>(nQ y ⟨j.heap.size,0,nK⟩=nJ (nC Ao q oc)/\j.heap.size<y.heap.size)/\(nQ y ⟨w.heap.size+1,0,nK⟩=nJ (.func (.func F) #[] #[])/\w.heap.size+1<y.heap.size)/\(nQ y ⟨w.heap.size,0,nK⟩=nJ (nF (nJ ⟨rb,0,nK⟩))/\w.heap.size<y.heap.size)/\(nQ y ⟨rb,0,nK⟩=nJ (nC (nJ ⟨l,0,nK⟩) T.length cn)/\rb<y.heap.size)/\l<y.heap.size/\nQ y ⟨l,k*6,nK⟩=nJ (nE nM x.sym)/\nQ y ⟨l,k*6+1,nK⟩=nJ (nE nM x.leaf)/\nQ y ⟨l,k*6+2,nK⟩=nJ (nE nM x.AX)/\nQ y ⟨l,k*6+3,nK⟩=nJ (nC Ak kl ck)/\nQ y ⟨l,k*6+4,nK⟩=nJ (nI x.Ff)) y):=Hd (fun y hy P=>by
   have h1:=ba.below hy ba.lt;have h2:=bc.below hy bc.lt;have U:Below w.heap.size w y:=a7.trans (hy.mono a7.size);exact⟨⟨P.cell 0,P.lt⟩,⟨h2.cell 0,h2.lt⟩,⟨h1.cell 0,h1.lt⟩,⟨(U.cell (p:=⟨rb,0,nK⟩) ax).trans n1,AK ax U.size⟩,AK n3 U.size,(U.cell (p:=⟨l,_,nK⟩) n3).trans a0,(U.cell (p:=⟨l,_,nK⟩) n3).trans a1,(U.cell (p:=⟨l,_,nK⟩) n3).trans a2,(U.cell (p:=⟨l,_,nK⟩) n3).trans a3,(U.cell (p:=⟨l,_,nK⟩) n3).trans a4⟩)
  obtain⟨-,-,⟨x1,xl⟩,⟨x2,cq⟩,cr,-,-,-,-,e4⟩:=aa W7 a6 ai;have a5:=Hd ai;have HO:=Hd ho;have b7:=Hd az;have R:=Hd a6;have b6:=Hd br;have cs:(k:Int)<(T.length:Int):=by omega
  generalize T.length=tl at *;simp only at ad;clear a0 a1 a2 a3 a4 ai ho az a6 br n1 n3 n4 ax J cg hq hr bl HP HJ b5 bo;cases hx:x.Ff with
  | false=>
   rw[hx]at e4 ad
   gi_wp2
   refine⟨AF _,Bm.refl _ _,?_⟩;unfold MQ;rw[ad.out];simp only[Bool.false_eq_true,if_false,List.append_nil,HQ.out];exact⟨⟨bk,bd,_,a5,⟨Ao,oc,rfl,HO,R⟩,b7⟩,mR⟩
  | true=>
   rw[hx]at e4 ad aa
   gi_wp2
   have be:=aa _ R.drew a5.drew;clear x1 xl x2 cq cr e4;refine Qr mU (by rintro⟨a,w',h⟩;exact h) mU (N5 (z:=13) (S:=(fun y:nS=>(nQ y ⟨j.heap.size,0,nK⟩=nJ (nC Ao q oc)/\j.heap.size<y.heap.size)/\(nQ y ⟨w.heap.size+1,0,nK⟩=nJ (.func (.func F) #[] #[])/\w.heap.size+1<y.heap.size)/\(nQ y ⟨w.heap.size,0,nK⟩=nJ (nF (nJ ⟨rb,0,nK⟩))/\w.heap.size<y.heap.size)/\(nQ y ⟨rb,0,nK⟩=nJ (nC (nJ ⟨l,0,nK⟩) tl cn)/\rb<y.heap.size)/\l<y.heap.size/\nQ y ⟨l,k*6,nK⟩=nJ (nE nM x.sym)/\nQ y ⟨l,k*6+1,nK⟩=nJ (nE nM x.leaf)/\nQ y ⟨l,k*6+2,nK⟩=nJ (nE nM x.AX)/\nQ y ⟨l,k*6+3,nK⟩=nJ (nC Ak kl ck)/\nQ y ⟨l,k*6+4,nK⟩=nJ (nI true))) _ _ _ _ ?_)
   refine FE [0,1,2,3,4,5,6,7,8,9] be ?_;clear be;refine Be 10 mU rfl rfl (fun K I=>?_);go_simp;refine(HG x _ _ _ _).mono ?_;rintro e w8 ⟨rfl,bj⟩;have ag:Hid (Below W7.heap.size W7 w8):=Hd (((Below.refl _ W7).drew).trans bj);clear bj;refine I _ _ (fun _=>aa _ (R.trans (ag.mono R.size)) (a5.below ag a5.lt)) ?_;clear I K;have a8:Hid (Below W7.heap.size W7 (w8.alloc (nO #[nE nM (g x)] 3))):=Hd (ag.alloc ag.size _);refine Be 11 mU rfl rfl (fun K I=>?_);go_simp;refine I _ _ (fun _=>aa _ (R.trans (a8.mono R.size)) (a5.below a8 a5.lt)) ?_
   clear I K;refine Co 12 mU rfl rfl rfl (fun K I=>?_);refine Dt GW (.tmp 21) (.tmp 32) rfl (base:=j.heap.size) (n:=q) (m:=1) (N:=q+1) (v:=nC Ao q oc) (src:=nC (nJ ⟨w8.heap.size,0,nK⟩) 1 1) (xs:=Ez g (T.map (·.1)) pre) (news:=[nE nM (g x)]) rfl rfl (AV HO a8) (Ba.Ap (c:=1) (Ah.new w8 3 _) rfl mZ) rfl mW mR (by have:=R.size;have:=a8.size;omega) ?_;intro A9 c9 w9 r1 r2 r3;have af:=r2.Ap (a5.below a8 a5.lt) (.inr mT);have bm:=Fo.put bk bd a5 b7 b6 HO R ((Aj.AJ a8).mono (fun _ h=>h)) r3.1 r3.2 r1 mT
   have cp:=aa w9 ((R.trans (a8.mono R.size)).trans (r2.below (by have:=R.size;have:=a8.size;omega))) af;have y0:=Ah.cell af 0;have y1:=Ah.frozen af 0;have yl:=af.lt;simp at y0;have ah:=Hd bm;clear r1 r2 r3 af bm;refine I _ _ (fun _=>cp) ?_;clear I K;simp only[AD,AA];refine Be 13 mU rfl rfl (fun K I=>?_);go_simp;refine I _ _ (fun h=>absurd rfl h) ?_;clear I K;refine CI mU ?_ _
   gi_wp2
   refine⟨ah.2.size,PQ ah.2 b6,?_⟩;unfold MQ;rw[ad.out];simp only[if_true,BS,HQ.out];exact⟨ah.1,by have:=ah.2.size;omega⟩
def bA(C:Eo (fun b=>b<w.heap.size) w rb T)(I:En (T.map (·.1)) f [i]=nJ xs)(j:f<=100000)(t:∀p∈T,p.1.kids.length<=100000)(l:i<T.length) :
  () 39 #[(rb,0),i] w fun e w'=>∃o,e=nP o/\Ld 3 1 w (Ez (fun x=>(x.sym:Int)) (T.map (·.1)) xs).length (Ez (fun x=>(x.sym:Int)) (T.map (·.1)) xs) o w':=by
 have J:=Hd (Q5 (F:=72) (g:=(fun x=>(x.sym:Int))) (fun _ _=>by kernel_rfl) (fun _ _ _ _ _=>iB) C I j t l);clear C I j t l;go_enter func39,ntmps39
 go_wp2_with (go_at_call 71;refine J.mono ?_;rintro e w1 ⟨o,rfl,h⟩;have P:=Hd h;obtain⟨R,U,rfl,-⟩:=h)
 go_ret;exact⟨_,rfl,P⟩
def Z2(C:Eo (fun b=>b<w.heap.size) w rb T)(I:En (T.map (·.1)) f [i]=nJ xs)(j:f<=100000)(t:∀p∈T,p.1.kids.length<=100000)(l:i<T.length) :
  () 40 #[(rb,0),i] w fun e w'=>∃o,e=nP o/\Ld 3 1 w (Ez Nd.leaf (T.map (·.1)) xs).length (Ez Nd.leaf (T.map (·.1)) xs) o w':=by
 have J:=Hd (Q5 (F:=73) (g:=Nd.leaf) (fun _ _=>by kernel_rfl) (fun _ _ _ _ _=>ZN) C I j t l);clear C I j t l;go_enter func40,ntmps40
 go_wp2_with (go_at_call 71;refine J.mono ?_;rintro e w1 ⟨o,rfl,h⟩;have P:=Hd h;obtain⟨R,U,rfl,-⟩:=h)
 go_ret;exact⟨_,rfl,P⟩
end
def gA{j n l k:Nat}{s u:Int}(J:nQ w (i,0)=nJ (nF (rb,0)))(t:i<w.heap.size)(P:nQ w (rb,0)=nJ (nC (j,0) n l))(C:rb<w.heap.size)(R:nQ w (j,k*6)=nJ (nE nM u))(I:j<w.heap.size)(o:k<n) :
  () 110 #[s,k,(i,0)] w fun e w'=>e=nP (nI (u==s))/\w'=w:=by
 have p:(k:Int)<(n:Int):=by omega
 go_enter func110,ntmps110
 go_wp2;go_ret;exact⟨rfl,rfl⟩
def YU{U kv:nU}{a ks:List Nat}{bx:Nat}{g:Nat->Nat->Bool}(ha:Bv w U a)(hk:Bv w kv ks)(hn:ks.length<=100000)(hs:∀j s k:Nat,a[j]?=nJ s->ks[j]?=nJ k->() 110 #[nE nM s,nE nM k,(bx,0)] w fun e w'=>e=nP (nI (g k s))/\w'=w) :
  () 109 #[U,kv,.func (.func 110) #[] #[(bx,0)]] w fun e w'=>∃b,e=nP (nI b)/\w'=w/\(b=true<->a.length=ks.length/\∀j s k:Nat,a[j]?=nJ s->ks[j]?=nJ k->g k s=true):=by
 obtain⟨⟨Aa,ca,rfl,a0⟩,-,-⟩:=ha;obtain⟨⟨Ak,ck,rfl,a1⟩,-,-⟩:=hk;have a3:=Hd a0;have a4:=Hd a1;have HS:=Hd hs;clear a0 a1 hs;by_cases t:a.length=ks.length
 case neg=>
  have a7:((a.length:Int)==(ks.length:Int))=false:=by rw[bN];omega
  have C:=Hd t;clear t;generalize a.length=la,ks.length=n at *;go_enter func109,ntmps109
  go_wp2_with fail
  go_ret;exact⟨false,rfl,rfl,by simp[C.out]⟩
 obtain⟨n,P⟩:∃n,ks.length=n:=⟨_,rfl⟩
 rw[P]at t hn;rw[t,P];have C:=Hd (And.intro t P);clear t P;go_enter func109,ntmps109
 go_wp2_with fail
 go_loopw [17] (fun ii wr=>∃i:Nat,i<=n/\ii=nE nM i/\Hid (wr=w/\∀j,j<i->∀s k:Nat,a[j]?=nJ s->ks[j]?=nJ k->g k s=true)) (fun ii _=>n-(intOf ii).toNat)
 case atStart=>exact⟨0,A0 _,rfl,Hd ⟨rfl,fun j hj=>by omega⟩⟩
 case round=>
  obtain⟨i,hi,rfl,T⟩:=hrel;have a5:=T.1.symm;subst a5;by_cases a2:i<n
  ·obtain⟨s,l⟩:∃s,a[i]?=nJ s:=⟨_,eG (by rw[C.1];exact a2)⟩
   obtain⟨k,o⟩:∃k,ks[i]?=nJ k:=⟨_,eG (by rw[C.2];exact a2)⟩
   obtain⟨b1,o1,rfl,l1,c1⟩:=a3 i s l;obtain⟨b2,o2,rfl,l2,c2⟩:=a4 i k o;unfold AS at c1 c2;have I:=Hd (HS i s k l o);have J:=Hd (And.intro l o);have a6:(i:Int)<(n:Int):=by omega
   clear l o;cases p:g k s with
   | true=>
    rw[p]at I;have R:=Hd p;clear p;go_wp2_with (go_at_call 110;refine I.mono ?_;rintro e w1 ⟨rfl,rfl⟩)
    go_roundw
    case rel=>exact⟨i+1,mR,mY,Hd ⟨trivial,fun j hj s' k' q1 q2=>by
     by_cases e:j=i
     ·subst e
      cases Option.some.inj (J.1.symm.trans q1)
      cases Option.some.inj (J.2.symm.trans q2)
      exact R
     ·exact T.2 j mR s' k' q1 q2⟩⟩
    case measure=>simp[intOf];omega
   | false=>
    rw[p]at I;have R:=Hd p;clear p;go_wp2_with (go_at_call 110;refine I.mono ?_;rintro e w1 ⟨rfl,rfl⟩)
    go_ret;exact⟨false,rfl,rfl,by simp;exact⟨_,_,J.1,_,J.2,R⟩⟩
  ·obtain rfl:i=n:=by omega
   go_wp2_with fail
   go_ret;exact .inr ⟨rfl,rfl,fun j s k l o=>T.2 j (by have:=(sG.1 l).1;have:=C.1;omega) s k l o⟩
def MG{B:Nat}{w':nS}(h:Below B w w')(n:Nat):Below B w (w'.drewN n):=⟨h.os,h.tape,h.output,h.size,h.block⟩
def I5(tr:List Nd)(x:Nd):Prop:=(x.Ff=true/\1<=x.sym/\x.sym<=pz.nt)\/(x.Ff=false/\∃k r,x.AX=(k:Nat)/\pz.R[k]?=nJ r/\r.1=x.sym/\r.2.length=x.kids.length/\∀j s i:Nat,r.2[j]?=nJ s->x.kids[j]?=nJ i->∃y:Nd,tr[i]?=nJ y/\y.sym=s)
def Zn(w:nS)(tr:List Nd)(x:Nd)(e:Ending)(w':nS):Prop:=∃b,e=nP (nI b)/\Below w w w'/\(b=true<->I5 tr x)
def Wz{A:Nat->Prop}{x:Nd}{kv:nU}(h:GN w v pz)(ht:Eo A w rb T)(hn:x.kids.length<=100000)(ae:Bv w kv x.kids)(av:∀i∈x.kids,i<T.length) :
  () 70 #[(rb,0),v,.agg #[x.sym,x.leaf,x.AX,kv,nI x.Ff,nI x.below]] w (Zn w (T.map (·.1)) x):=by
 obtain⟨⟨U,ck,rfl,-⟩,-,-⟩:=id ae;obtain⟨gm,g1,g2,g3⟩:=h.Fg;obtain⟨AT,cT,AN,cN,AR,cR,rfl,hR,-⟩:=h.open_;obtain⟨tr,hF⟩:∃tr,T.map (·.1)=tr:=⟨_,rfl⟩
 rw[hF];have HF:=Hd hF;have ak:=Hd ae;have aj:=Hd av;have HT:=Hd ht;have HR:=Hd hR;have HN:=Hd hn;clear hF av ht hR hn;obtain⟨o,ql,ru,ks,il,bl⟩:=x;simp only at ak aj HN ⊢;obtain⟨kl,ad⟩:∃kl,ks.length=kl:=⟨_,rfl⟩
 have b2:=Hd ad;simp only[ad];clear ad ae;obtain⟨P,R⟩:∃P,pz.nt=P:=⟨_,rfl⟩
 obtain⟨p,a9⟩:∃p,pz.R.length=p:=⟨_,rfl⟩
 rw[a9]at h g1 ⊢;generalize pz.nn=nn at *;generalize pz.s=gs at *;cases il with
 | true=>
  have aw:gm.term o=decide (1<=o/\o<=(P:Int)):=by
   have e:pz.nt=gm.T.length:=by rw[g3];rfl
   unfold Gm.term;rw[<-e,R,Bool.decide_and]
  have b4:Hid (∀y,Below w w y->() 51 #[.agg #[nC AT P cT,nC AN nn cN,nC AR p cR,gs],o] y fun e w'=>e=nP (nI (decide (1<=o/\o<=(P:Int))))/\Below y y w'):=Hd (fun y j=>by have h:=Pc (g1.later j) o;unfold BF at h;rwa [aw,R]at h);have b3:=Hd R;rw[R];clear g1 g2 g3 aw h R a9;have aq:Below w w (((w.alloc (nO #[(rb,0)] 35)).alloc (nO #[nC AT P cT,nC AN nn cN,nC AR p cR,gs] 58)).alloc (nO #[o,ql,ru,nC U kl ck,nI true,nI bl] 84)):=((AE w _).alloc mV _).alloc mX _
  have HB:=Hd aq;generalize hd:decide (1<=o/\o<=(P:Int))=d at *;have HD:=Hd hd;clear aq hd;go_enter func70,ntmps70
  go_wp2_with (go_at_call 51;refine(b4 _ HB).mono ?_;rintro e w1 ⟨rfl,hb⟩;have ay:=Hd (HB.trans (hb.mono HB.size));clear hb)
  go_ret;refine⟨_,rfl,ay,?_⟩;rw[<-HD.out,<-b3.out];simp[I5]
 | false=>
  rw[R];obtain⟨l,a6⟩:∃l,((w.alloc (nO #[(rb,0)] 35)).alloc (nO #[nC AT P cT,nC AN nn cN,nC AR p cR,gs] 58)).alloc (nO #[o,ql,ru,nC U kl ck,nI false,nI bl] 84)=l:=⟨_,rfl⟩
  have ar:Below w w l:=by rw[<-a6];exact((AE w _).alloc mV _).alloc mX _
  have k1:Ah l w.heap.size 35 #[(rb,0)]:=by rw[<-a6];exact((Ah.new w _ _).alloc _).alloc _
  have k2:Ah l (w.heap.size+1) 58 #[nC AT P cT,nC AN nn cN,nC AR p cR,gs]:=by rw[<-a6];exact(Ah.newAt mV).alloc _
  have k3:Ah l (w.heap.size+1+1) 84 #[o,ql,ru,nC U kl ck,nI false,nI bl]:=by rw[<-a6];exact Ah.newAt mV
  have ax:=k3.cell 4;have ba:=k3.lt;simp at ax;have an:Hid (∀y,Below l l y->(fun y:nS=>(nQ y (w,0)=nJ (nF (rb,0))/\w.heap.size<y.heap.size)/\(nQ y (w.heap.size+1,2)=nJ (nC AR p cR)/\w.heap.size+1<y.heap.size)/\(nQ y (w.heap.size+1+1,0)=nJ (nE nM o)/\nQ y (w.heap.size+1+1,2)=nJ (nE nM ru)/\nQ y (w.heap.size+1+1,3)=nJ (nC U kl ck)/\w.heap.size+1+1<y.heap.size)) y):=Hd (fun y j=>by have a1:=k1.below j k1.lt;have a2:=k2.below j k2.lt;have a3:=k3.below j k3.lt;exact⟨⟨a1.cell 0,a1.lt⟩,⟨a2.cell 2,a2.lt⟩,⟨a3.cell 0,a3.cell 2,a3.cell 3,a3.lt⟩⟩)
  have C:=Hd ar;have bc:=Hd a6;have al:=Hd a9;have bb:=Hd R;obtain⟨⟨a0,b5⟩,⟨a1,b6⟩,e0,e2,e3,el⟩:=an _ (Below.refl _ l);clear g1 g2 g3 h ar k1 k2 k3 R a9 ba;by_cases aa:ru<0\/(p:Int)<=ru
  case pos=>
   rcases aa with aa|b8
   ·have au:decide (ru<0)=true:=decide_eq_true aa
    go_enter func70,ntmps70
    go_upto_region 3 with fail
    go_quiet (fail)
    go_wp2_with fail
    go_ret;exact⟨false,rfl,MG C _,by simp[I5];intro k _ _ h;omega⟩
   ·have au:decide (ru<0)=false:=decide_eq_false mR
    have b7:decide ((p:Int)<=ru)=true:=decide_eq_true b8;go_enter func70,ntmps70
    go_upto_region 3 with fail
    go_quiet (fail)
    go_wp2_with fail
    go_ret;refine⟨false,rfl,MG C _,⟨(fun h=>by cases h),?_⟩⟩;rintro(⟨h,-⟩|⟨-,k,r,I,t,-⟩)
    ·cases h
    ·have:=(sG.1 t).1
     have:=al.out;simp only at I;omega
  obtain⟨k,rfl⟩:=Int.eq_ofNat_of_zero_le (by omega:0<=ru);have be:k<p:=by omega
  have au:decide ((k:Int)<0)=false:=decide_eq_false mR;have b7:decide ((p:Int)<=(k:Int))=false:=decide_eq_false mR;have bd:(k:Int)<(p:Int):=by omega
  obtain⟨r,hr⟩:∃r,pz.R[k]?=nJ r:=⟨_,eG (by have:=al.out;omega)⟩
  obtain⟨b,off,rv,rfl,a8,r0,r1,ai⟩:=HR k r hr;obtain⟨⟨Av,cv,rfl,-⟩,-,-⟩:=id ai;obtain⟨J,af⟩:∃J,r.1=J:=⟨_,rfl⟩
  obtain⟨nv,ah⟩:∃nv,r.2.length=nv:=⟨_,rfl⟩
  rw[af]at r0;rw[ah]at r1;have b0:=(C.cell (p:=⟨b,_,nK⟩) a8).trans r0;have b1:=(C.cell (p:=⟨b,_,nK⟩) a8).trans r1;have a7:=AK a8 C.size;have a4:=Hd (And.intro hr (And.intro ai (And.intro af ah)));clear hr ai af ah aa r0 r1 a8;by_cases hs:(J:Int)=o
  case neg=>
   have b9:((J:Int) != o)=true:=by simpa using hs
   go_enter func70,ntmps70
   go_upto_region 3 with fail
   go_quiet (fail)
   go_wp2_with fail
   go_ret;refine⟨false,rfl,MG C _,⟨(fun h=>by cases h),?_⟩⟩;rintro(⟨h,-⟩|⟨-,k,r,I,t,h3,-⟩)
   ·cases h
   ·simp only[Int.natCast_inj]at I
    subst I;cases Option.some.inj (a4.1.symm.trans t)
    exact absurd ((congrArg Int.ofNat a4.2.2.1).symm.trans h3) hs
  subst hs;have b9:((J:Int) != (J:Int))=false:=by simp
  obtain⟨nb,cn,n1,-,n3,n4⟩:=HT.row;have ag:=HT.r.2;have hE:Hid (∀y,Below w w y->(nQ y (w,0)=nJ (nF (rb,0))/\w.heap.size<y.heap.size)->() 109 #[nC Av nv cv,nC U kl ck,.func (.func 110) #[] #[(w,0)]] y fun e w'=>∃q,e=nP (nI q)/\w'=y/\(q=true<->r.2.length=ks.length/\∀a5 s i:Nat,r.2[a5]?=nJ s->ks[a5]?=nJ i->decide (∃x:Nd,tr[i]?=nJ x/\x.sym=s)=true)):=Hd (fun y j hb=>by
   have t:=a4.2.1.later j;have h3:=ak.later j;rw[b2.out]at h3;refine YU (g:=fun i s=>decide (∃x:Nd,tr[i]?=nJ x/\x.sym=s)) (by rw[<-a4.2.2.2];exact t) h3 HN (fun a5 s i I t=>?_);have hi:=aj i (mG t);obtain⟨ab,hp⟩:∃ab,T[i]?=nJ ab:=⟨_,eG hi⟩
   have e:decide (∃x:Nd,tr[i]?=nJ x/\x.sym=s)=(ab.1.sym==(s:Int)):=by rw[<-HF.out,pG,hp];simp[Bool.beq_eq_decide_eq]
   rw[e];exact gA hb.1 hb.2 ((j.cell (p:=⟨rb,0,nK⟩) ag).trans n1) (AK ag j.size) ((j.cell (p:=⟨nb,_,nK⟩) n3).trans (n4 i ab hp 0 mT)) (AK n3 j.size) hi)
  have ao:Hid (∀y,Below l l y->(fun y:nS=>(nQ y (w,0)=nJ (nF (rb,0))/\w.heap.size<y.heap.size)/\(nQ y (w.heap.size+1,2)=nJ (nC (nJ ⟨b,off,nK⟩) p cR)/\w.heap.size+1<y.heap.size)/\(nQ y (w.heap.size+1+1,0)=nJ (nE nM J)/\nQ y (w.heap.size+1+1,2)=nJ (nE nM k)/\nQ y (w.heap.size+1+1,3)=nJ (nC U kl ck)/\w.heap.size+1+1<y.heap.size)/\b<y.heap.size/\nQ y ⟨b,off+k*2,nK⟩=nJ (nE nM J)/\nQ y ⟨b,off+k*2+1,nK⟩=nJ (nC Av nv cv)) y):=Hd (fun y j=>by obtain⟨I,t,h3⟩:=an y j;exact⟨I,t,h3,AK a7 j.size,(j.cell (p:=⟨b,_,nK⟩) a7).trans b0,(j.cell (p:=⟨b,_,nK⟩) a7).trans b1⟩)
  clear n1 n3 n4 ag;go_enter func70,ntmps70
  go_upto_region 3 with fail
  go_quiet (fail)
  go_wp2_with fail
  have HD:Hid (Below l l (l.drewN nq).drew):=Hd (MG (Below.refl _ l) _).drew;have az:=Hd (hE (l.drewN nq).drew (C.trans (HD.mono C.size)) (ao _ HD).1);clear hE a0 b5 a1 b6 e0 e2 e3 el b0 b1 a7 ax
  go_region_held3 (fun y:nS=>(nQ y (w,0)=nJ (nF (rb,0))/\w.heap.size<y.heap.size)/\(nQ y (w.heap.size+1,2)=nJ (nC (nJ ⟨b,off,nK⟩) p cR)/\w.heap.size+1<y.heap.size)/\(nQ y (w.heap.size+1+1,0)=nJ (nE nM J)/\nQ y (w.heap.size+1+1,2)=nJ (nE nM k)/\nQ y (w.heap.size+1+1,3)=nJ (nC U kl ck)/\w.heap.size+1+1<y.heap.size)/\b<y.heap.size/\nQ y ⟨b,off+k*2,nK⟩=nJ (nE nM J)/\nQ y ⟨b,off+k*2+1,nK⟩=nJ (nC Av nv cv))
   (exact ao _ HD) (first|(go_at_call 109;refine az.mono ?_;rintro e w1 ⟨q,rfl,rfl,hq⟩;have HQ:=Hd hq;clear hq))
  go_wp2_with fail
  go_ret;refine⟨_,rfl,C.trans (HD.mono C.size),HQ.trans ⟨fun h=>.inr ⟨rfl,k,r,rfl,a4.1,congrArg Int.ofNat a4.2.2.1,h.1,fun a5 s i a b=>of_decide_eq_true (h.2 a5 s i a b)⟩,?_⟩⟩;rintro(⟨h,-⟩|⟨-,k',r',I,t,-,h4,h5⟩)
  ·cases h
  ·simp only[Int.natCast_inj]at I
   subst I;cases Option.some.inj (a4.1.symm.trans t)
   exact⟨h4,fun a5 s i a b=>decide_eq_true (h5 a5 s i a b)⟩
section
attribute [local go_sem] Oper.semAt_some
section
variable {P:Program} {ops:Array Oper} {Q:Exit->Act->nS->Prop} {md:Region.Mode} {S:nS->Prop}
def Iv(i:Nat){j:Oper}{d:Nat}{listed:Array Bool}{l:List nU}{o:List Deferred}(t:S w)(h:Dk P md ops Q S (fun _=>false) f (listed.setIfInBounds i true) {tmps:=(l.set d v).toArray,defers:=o} w)
  (R:ops[i]?=nJ j:=by rfl) (U:Region.noSelect ops=true:=by kernel_rfl) (J:Region.free md ops listed i=true:=by kernel_rfl) (T:(Region.ready md ops listed).contains i=true:=by kernel_rfl)
  (p:∀c a w,Q (.panic c) (a.put j.dst v) w->Q (.panic c) a w:=by exact fun _ _ _ h=>h) (hy:YieldsIf P ops S j v {tmps:=l.toArray,defers:=o}:=by(refine Or.inl ⟨nB,?_⟩;intro w C;(try dsimp only at C);go_simp;try with_reducible rfl)) (I:j.dst=nJ d:=by rfl):Dk P md ops Q S (fun _=>false) (f+1) listed {tmps:=l.toArray,defers:=o} w:=
 KQ i R U J T mV p hy t I h
end
def Ig(tr:List Nd)(k:Nat):Prop:=∀x,tr[k]?=nJ x->I5 tr x
def RF(hg:GN w v pz)(ht:Eo (fun b=>b<w.heap.size) w rb T)(hv:En (T.map (·.1)) f [i]=nJ xs)(hf:f<=100000)(hk:∀p∈T,p.1.kids.length<=100000)(hi:i<T.length)(bk:∀p∈T,∀j∈p.1.kids,j<T.length) :
  Calls Tryz.prog 38 #[nF (nJ ⟨rb,0,nK⟩),v,nE nM i] w fun e w'=>∃b,e=nP (nI b)/\Below w.heap.size w w'/\(b=true<->∀k∈xs,Ig (T.map (·.1)) k):=by
 obtain⟨gm,g1,g2,-⟩:=hg.Fg;have HG:=Hd hg;have b3:Hid (∀y,Below w.heap.size w y->Calls Tryz.prog 68 #[v] y fun e w'=>e=nP (nE nM 0)/\Below y.heap.size y w'):=Hd (fun y hy=>by have h:=QE (g1.later hy);unfold Ends at h;rwa [g2]at h);obtain⟨AT,cT,AN,cN,AR,cR,rfl,-,-⟩:=hg.open_;obtain⟨o,cn,n1,-,n3,n4⟩:=ht.row;have ab:=ht.r.2;have ba:Hid (∀y,Below w.heap.size w y->Calls Tryz.prog 33 #[nF (nJ ⟨rb,0,nK⟩),nE nM i] y fun e w'=>e=nP (nI true)/\w'=y):=Hd (fun y hy=>Ol ((hy.cell (p:=⟨rb,0,nK⟩) ab).trans n1) (AK ab hy.size) hi)
 generalize pz.nt=nt at *;generalize pz.nn=nn at *;generalize pz.R.length=nr at *;generalize pz.s=gs at *;obtain⟨t,ai⟩:∃t,((w.alloc (nO #[nF (nJ ⟨rb,0,nK⟩)] 35)).alloc (nO #[nC AT nt cT,nC AN nn cN,nC AR nr cR,nE nM gs] 58)).alloc (nO #[nI false] 4)=t:=⟨_,rfl⟩
 have aj:Below w.heap.size w t:=by rw[<-ai];exact((AE w _).alloc mV _).alloc mX _
 have k1:Ah t w.heap.size 35 #[nF (nJ ⟨rb,0,nK⟩)]:=by rw[<-ai];exact((Ah.new w _ _).alloc _).alloc _
 have k2:Ah t (w.heap.size+1) 58 #[nC AT nt cT,nC AN nn cN,nC AR nr cR,nE nM gs]:=by rw[<-ai];exact(Ah.newAt mV).alloc _
 have k3:Ah t (w.heap.size+1+1) 4 #[nI false]:=by rw[<-ai];exact Ah.newAt mV
 have ar:Hid (∀y,Below t.heap.size t y->(nQ y ⟨w.heap.size,0,nK⟩=nJ (nF (nJ ⟨rb,0,nK⟩))/\w.heap.size<y.heap.size)/\(nQ y ⟨w.heap.size+1,0,nK⟩=nJ (nC AT nt cT)/\nQ y ⟨w.heap.size+1,1,nK⟩=nJ (nC AN nn cN)/\nQ y ⟨w.heap.size+1,2,nK⟩=nJ (nC AR nr cR)/\nQ y ⟨w.heap.size+1,3,nK⟩=nJ (nE nM gs)/\w.heap.size+1<y.heap.size)):=Hd (fun y hy=>by have a1:=k1.below hy k1.lt;have a2:=k2.below hy k2.lt;exact⟨⟨a1.cell 0,a1.lt⟩,a2.cell 0,a2.cell 1,a2.cell 2,a2.cell 3,a2.lt⟩)
 obtain⟨⟨x0,xl⟩,y0,y1,y2,y3,yl⟩:=ar t (Below.refl _ _);have a6:=Hd aj;have a8:=Hd k3;have HT:=Hd ht;have HV:=Hd hv;have HF:=Hd hf;have HK:=Hd hk;have HI:=Hd hi;have bu:=Hd bk;have br:=Hd (b3 t aj);have bv:=Hd (ba t aj);clear hg g1 g2 ht hv hf hk hi bk aj k1 k2 k3 n1 n3 n4 ab ba b3;refine(callsIn_wide (n:=0)).1 ?_;refine callsIn_of_wp_marks func38 rfl trivial ?_ rfl;simp only[ntmps38,List.size_toArray,List.length_cons,List.length_nil,Nat.reduceAdd,Nat.reduceSub,Array.replicate_succ,Array.replicate_zero,List.push_toArray,List.append_toArray,List.nil_append,List.cons_append]
 refine wpIn_wide.2 ?_;go_wp2_with (first
  | (go_at_call 33;refine bv.mono ?_;rintro e w1 ⟨rfl,b1⟩;have b1:=b1.symm;subst b1)
  | (go_at_call 68;refine br.mono ?_;rintro e w3 ⟨rfl,av⟩;have an:=Hd av;obtain⟨⟨z0,zl⟩,-⟩:=ar w3 av;clear av)
  | (go_at_call 69;refine Qq.mono ?_;rintro e w4 ⟨rfl,a9⟩;have bb:=Hd a9;clear a9))
 have a9:=bb.out;have be:Below w3.heap.size w3 w4:=by rw[a9];exact(AE w3 _).alloc mV _
 have ca:w4.heap.size=w3.heap.size+2:=by rw[a9];simp
 have bp:Ah w4 w3.heap.size 35 #[nF (nJ ⟨rb,0,nK⟩)]:=by rw[a9];exact(Ah.new w3 _ _).alloc _
 have bi:Ah w4 (w3.heap.size+1) 3 #[nE nM i]:=by rw[a9];exact Ah.newAt mV
 have ax:Below t.heap.size t w4:=an.trans (be.mono an.size);have ay:Below w.heap.size w w4:=a6.trans (ax.mono a6.size);have c7:=an.size;have c6:=a6.size;have hA:∀b,(b<w.heap.size\/(w3.heap.size<=b/\b<w4.heap.size))->b<w4.heap.size:=fun b l=>by omega
 have bd:Eo (fun b=>b<w.heap.size\/(w3.heap.size<=b/\b<w4.heap.size)) w4 rb T:=by have h:=HT.Bu ay.size (fun b l=>ay.block b l);exact⟨⟨.inl HT.r.2,h.r.2⟩,by obtain⟨o,c,h1,h2,C⟩:=h.row;exact⟨o,c,h1,.inl h2,C⟩,fun p I=>(h.kids p I).mono fun b l=>.inl l⟩
 have bo:=PO (ib:=w3.heap.size+1) (tx:=w3.heap.size) hA bd (.inr mR) (.inr mR) bi bp HV HF HK HI;have b8:=Hd bo;have b2:=Hd hA;have aa:=Hd ax;have bz:Hid (¬(w.heap.size+1+1<w.heap.size\/(w3.heap.size<=w.heap.size+1+1/\w.heap.size+1+1<w4.heap.size))):=Hd (by have:=a8.lt;omega);have bc:Hid (∀k∈xs,k<T.length):=Hd (fun k hk=>by have:=Ps HV k hk;rwa [lM]at this);clear a9 bb ca be bp bi ax ay hA bd bo ai x0 xl y0 y1 y2 y3 yl z0 zl c7 c6;refine(wpIn_wide (n:=0)).1 ?_;refine Lp (encs:=Kb) (gf:=107) (lb:=#[nF (nJ ⟨w3.heap.size+1,0,nK⟩),nF (nJ ⟨w3.heap.size,0,nK⟩)]) rfl (fun _ _=>by kernel_rfl) b8 b2 (fun _=>rfl)
  (fun pre A' W'=>Below t.heap.size t W'/\¬A' (w.heap.size+1+1)/\∀k∈pre,Ig (T.map (·.1)) k) (fun c A' W'=>c=.ret/\Below w.heap.size w W'/\W'.cell? ⟨w.heap.size+1+1,0,nK⟩=nJ (nI false)/\w.heap.size+1+1<W'.heap.size/\¬∀k∈xs,Ig (T.map (·.1)) k) ?hI ?hIx ?h0 ?hround ?hdone ?hstop
 case hI=>exact fun s A1 A2 c0 U' h U c8=>⟨h.1.trans (U.below h.1.size (fun j hj h=>by have:=aa.size;omega)),fun hx=>(c8 _ hx).elim h.2.1 (fun h9=>by have h8:=a8.lt;have h7:=h.1.size;omega),h.2.2⟩
 case hIx=>
  rintro c s A1 A2 c0 U' ⟨h1,h2,C,h4,h5⟩ U -;have hz:w.heap.size+1+1<w4.heap.size:=by have:=a8.lt;have:=aa.size;omega
  exact⟨h1,h2.trans (U.below h2.size (fun j hj h=>by omega)),(World.cell?_of_block (a:=⟨w.heap.size+1+1,0,nK⟩) (U.block _ h4 (fun h=>absurd h.1 (Nat.not_le.2 hz)))).trans C,AK h4 U.size,h5⟩
 case h0=>exact⟨aa,bz,fun k hk=>by cases hk⟩
 case hstop=>
  rintro D c A5 J hD c9 al ah ⟨rfl,h2,C,h4,h5⟩ R;have af:D≠w.heap.size+1+1:=fun e=>by have:=a8.lt;have:=aa.size;omega
  refine wpIn_ret ?_;refine⟨mV,.inl ⟨_,_,rfl,run_takeDeferred R,?_⟩⟩;have U:Aj (fun b=>b=D) J (J.putObj D (.deferred nK)):=(Aj.refl (fun b=>b=D) J).put (.inr rfl) _;have h9:Below w.heap.size w (J.putObj D (.deferred nK)):=h2.trans (U.below h2.size (fun j hj h=>by have:=aa.size;have:=a6.size;omega));have z9:(J.putObj D (.deferred nK)).cell? ⟨w.heap.size+1+1,0,nK⟩=nJ (nI false):=(World.cell?_of_block (World.putObj_heap_other af.symm)).trans C;have l9:w.heap.size+1+1<(J.putObj D (.deferred nK)).heap.size:=AK h4 U.size;generalize J.putObj D (.deferred nK)=w9 at *
  refine⟨nI false,?_,false,rfl,h9,by simpa using h5⟩;clear U h9 af;simp[results,Tryz.f38,go_sem];go_simp
 case hdone=>
  rintro D A5 J hD c9 al ah ⟨hj,-,ak⟩ R;have l:=a8.below hj a8.lt;have z0:=Ah.cell l 0;have f0:=Ah.frozen l 0;have zl:=l.lt;simp at z0;have af:D≠w.heap.size+1+1:=fun e=>by unfold Ah at l;rw[e,l]at R;cases R
  have bw:=Hd R;have HJ:=Hd hj;have bq:=Hd l;clear R hj l al ah;go_wp2;refine⟨mV,.inl ⟨_,_,rfl,run_takeDeferred ((Below.heap_setCell _ _ _ _ af).trans bw),?_⟩⟩;have ad:=bq.AW 0 (nI true);simp at ad;have U:Aj (fun b=>b=D\/b=w.heap.size+1+1) J ((J.setCell ⟨w.heap.size+1+1,0,nK⟩ (nI true)).putObj D (.deferred nK)):=((Aj.refl _ J).set (p:=⟨w.heap.size+1+1,0,nK⟩) (.inr (.inr rfl)) _).put (.inr (.inl rfl)) _;have h5:Below w.heap.size w J:=a6.trans (HJ.mono a6.size);have h9:Below w.heap.size w ((J.setCell ⟨w.heap.size+1+1,0,nK⟩ (nI true)).putObj D (.deferred nK)):=h5.trans (U.below h5.size (fun j hj h=>by have:=aa.size;have:=a6.size;omega))
  have z9:((J.setCell ⟨w.heap.size+1+1,0,nK⟩ (nI true)).putObj D (.deferred nK)).cell? ⟨w.heap.size+1+1,0,nK⟩=nJ (nI true):=(World.cell?_of_block (World.putObj_heap_other af.symm)).trans (ad.cell 0);have l9:w.heap.size+1+1<((J.setCell ⟨w.heap.size+1+1,0,nK⟩ (nI true)).putObj D (.deferred nK)).heap.size:=AK zl U.size;generalize (J.setCell ⟨w.heap.size+1+1,0,nK⟩ (nI true)).putObj D (.deferred nK)=w9 at *;refine⟨nI true,?_,true,rfl,h9,by simpa using ak⟩;clear U h5 h9 ad af;simp[results,Tryz.f38,go_sem];go_simp
 case hround=>
  rintro l1 pre k A5 J bn cd cf cb al ah ⟨hj,bm,ak⟩;have b0:=bn.subset (show k∈pre++[k] by simp);have bj:=bc k b0;have bx:=Hd b0;have b7:=Hd bm;have bt:=Hd ak;clear b0 bm ak;obtain⟨p,I⟩:∃p,T[k]?=nJ p:=⟨_,eG bj⟩
  have HJ:=Hd hj;have HP:=Hd I;have aq:=Hd ah;simp only[Kb];clear hj ah bn al I bc b8 b2 HF HI HV;simp
  gi_wp2
  refine⟨AF _,Bm.refl _ _,fun W7 bf cg r hr=>?_⟩;have az:Below t.heap.size t W7:=HJ.trans (bf.below HJ.size (fun j hj h=>by have:=aa.size;omega));obtain⟨o,cn,n1,-,n3,n4⟩:=HT.row;have ab:=HT.r.2;have I:=HP.out;have a0:=n4 k p I 0 mT;have a1:=n4 k p I 1 mT;have a2:=n4 k p I 2 mT;have a3:=n4 k p I 3 mT;have a4:=n4 k p I 4 mT;have a5:=n4 k p I 5 mT;obtain⟨Ak,ck,bl⟩:=(HT.kids p (mG I)).shape;have b6:Hid (∀y,Below t.heap.size t y->Calls Tryz.prog 70 #[nF (nJ ⟨rb,0,nK⟩),.agg #[nC AT nt cT,nC AN nn cN,nC AR nr cR,nE nM gs],.agg #[nE nM p.1.sym,nE nM p.1.leaf,nE nM p.1.AX,p.2,nI p.1.Ff,nI p.1.below]] y fun e w'=>∃b,e=nP (nI b)/\Below y.heap.size y w'/\(b=true<->Ig (T.map (·.1)) k)):=Hd (fun y hy=>by
   have C:Below w.heap.size w y:=a6.trans (hy.mono a6.size);have hT:=HT.Bu C.size (fun b l=>C.block b l);refine(Wz (HG.later C) hT (HK p (mG I)) (hT.kids p (mG I)).1 (bu p (mG I))).mono ?_;rintro e w1 ⟨b,h1,h2,h4⟩;refine⟨b,h1,h2,h4.trans ⟨fun h x hx=>?_,fun h=>h _ (by rw[pG,I];rfl)⟩⟩;rw[pG,I]at hx;cases hx
   exact h)
  obtain⟨x,kv⟩:=p;simp only at bl;subst bl;generalize x.kids.length=kl at *;have au:Hid (∀y,Below t.heap.size t y->(fun y:nS=>((nQ y ⟨w.heap.size,0,nK⟩=nJ (nF (nJ ⟨rb,0,nK⟩))/\w.heap.size<y.heap.size)/\(nQ y ⟨w.heap.size+1,0,nK⟩=nJ (nC AT nt cT)/\nQ y ⟨w.heap.size+1,1,nK⟩=nJ (nC AN nn cN)/\nQ y ⟨w.heap.size+1,2,nK⟩=nJ (nC AR nr cR)/\nQ y ⟨w.heap.size+1,3,nK⟩=nJ (nE nM gs)/\w.heap.size+1<y.heap.size))/\(nQ y ⟨rb,0,nK⟩=nJ (nC (nJ ⟨o,0,nK⟩) T.length cn)/\rb<y.heap.size)/\o<y.heap.size/\nQ y ⟨o,k*6,nK⟩=nJ (nE nM x.sym)/\nQ y ⟨o,k*6+1,nK⟩=nJ (nE nM x.leaf)/\nQ y ⟨o,k*6+2,nK⟩=nJ (nE nM x.AX)/\nQ y ⟨o,k*6+3,nK⟩=nJ (nC Ak kl ck)/\nQ y ⟨o,k*6+4,nK⟩=nJ (nI x.Ff)/\nQ y ⟨o,k*6+5,nK⟩=nJ (nI x.below)) y):=Hd (fun y hy=>by
   have C:Below w.heap.size w y:=a6.trans (hy.mono a6.size);exact⟨ar y hy,⟨(C.cell (p:=⟨rb,0,nK⟩) ab).trans n1,AK ab C.size⟩,AK n3 C.size,(C.cell (p:=⟨o,_,nK⟩) n3).trans a0,(C.cell (p:=⟨o,_,nK⟩) n3).trans a1,(C.cell (p:=⟨o,_,nK⟩) n3).trans a2,(C.cell (p:=⟨o,_,nK⟩) n3).trans a3,(C.cell (p:=⟨o,_,nK⟩) n3).trans a4,(C.cell (p:=⟨o,_,nK⟩) n3).trans a5⟩)
  have ao:=Hd az;have cc:(k:Int)<(T.length:Int):=by omega
  have b4:=Hd (b6 W7.drew az.drew);generalize T.length=tl at *;simp only at b4;clear a0 a1 a2 a3 a4 a5 n1 n3 n4 ab I az hr bf HP HJ HT bj b6
  gi_wp2
  have a7:=au _ ao.drew;refine Qr mU (by rintro⟨a,w',h⟩;exact h) mU (O9 (Z:=fun _=>false) (S:=(fun y:nS=>((nQ y ⟨w.heap.size,0,nK⟩=nJ (nF (nJ ⟨rb,0,nK⟩))/\w.heap.size<y.heap.size)/\(nQ y ⟨w.heap.size+1,0,nK⟩=nJ (nC AT nt cT)/\nQ y ⟨w.heap.size+1,1,nK⟩=nJ (nC AN nn cN)/\nQ y ⟨w.heap.size+1,2,nK⟩=nJ (nC AR nr cR)/\nQ y ⟨w.heap.size+1,3,nK⟩=nJ (nE nM gs)/\w.heap.size+1<y.heap.size))/\(nQ y ⟨rb,0,nK⟩=nJ (nC (nJ ⟨o,0,nK⟩) tl cn)/\rb<y.heap.size)/\o<y.heap.size/\nQ y ⟨o,k*6,nK⟩=nJ (nE nM x.sym)/\nQ y ⟨o,k*6+1,nK⟩=nJ (nE nM x.leaf)/\nQ y ⟨o,k*6+2,nK⟩=nJ (nE nM x.AX)/\nQ y ⟨o,k*6+3,nK⟩=nJ (nC Ak kl ck)/\nQ y ⟨o,k*6+4,nK⟩=nJ (nI x.Ff)/\nQ y ⟨o,k*6+5,nK⟩=nJ (nI x.below))) _ _ _ _ ?_)
  refine Iv 0 a7 ?_;simp only[AD,AA];refine Iv 1 a7 ?_;simp only[AD,AA];refine Iv 2 a7 ?_;simp only[AD,AA];refine Iv 3 a7 ?_;simp only[AD,AA];refine Iv 4 a7 ?_;simp only[AD,AA];refine Iv 5 a7 ?_;simp only[AD,AA];refine Iv 6 a7 ?_;simp only[AD,AA];refine Iv 7 a7 ?_;simp only[AD,AA];refine Iv 8 a7 ?_;simp only[AD,AA];clear a7;refine Ga 9 mU rfl rfl (fun K R=>?_);go_simp;refine b4.mono ?_;rintro e w8 ⟨fb,rfl,aw,bh⟩;have ae:Hid (Below t.heap.size t w8):=Hd (ao.drew.trans (aw.mono ao.size))
  have ag:Hid (Below W7.heap.size W7 w8):=Hd (((Below.refl _ W7).drew).trans aw);have b5:=Hd bh;clear aw bh;cases fb with
  | true=>
   refine R _ _ (fun _ _=>au _ ae) ?_;clear R K;refine Ga 10 mU rfl rfl (fun K R=>?_);go_simp;refine R _ _ (fun _ h=>h) ?_;clear R K;refine LW mU ?_ _
   gi_wp2
   exact⟨ag.size,fun b l=>ag.block b (by have:=aq b l;omega),ae,b7,fun j hj=>(mA.1 hj).elim (bt j) fun h=>by rw[mS.1 h];simpa using b5.out⟩
  | false=>
   refine R _ _ (fun _ _=>au _ ae) ?_;clear R K;refine Ga 10 mU rfl rfl (fun K R=>?_);go_simp;refine R _ _ (fun _ h=>h) ?_;clear R K;refine LW mU ?_ _;have l:=a8.below ae a8.lt;have z0:=Ah.cell l 0;have f0:=Ah.frozen l 0;have zl:=l.lt;simp at z0;have ad:=l.AW 0 (nI false);simp at ad;have U:=(Aj.refl (fun b=>b=w.heap.size+1+1) w8).set (p:=⟨w.heap.size+1+1,0,nK⟩) (.inr rfl) (nI false);have HC:=Hd U;have b9:=Hd ad;clear l ad U
   gi_wp2
   exact⟨AY ag.size HC.size,fun b l=>(HC.block b (by have:=aq b l;have:=ag.size;omega) (fun e=>b7 (e▸l))).trans (ag.block b (by have:=aq b l;omega)),rfl,(a6.trans (ae.mono a6.size)).trans (HC.below (AY a6.size ae.size) fun j hj e=>by omega),b9.cell 0,b9.lt,k,bx,by simpa using b5.out⟩
end
