/- . -/
import Derived.Test.YtiljpamcmmeflaaGreatDoorXbh
import Derived.Sort.LoopGhostIn
set_option linter.all false
set_option maxRecDepth 100000
set_option maxHeartbeats 16000000
namespace Go.Proofs.YtiljpamcmmeflaaGreatDoor
open Go.RowKit Go.Proofs.Tryz
open Value renaming slice→nC,int→nE,pointer→nF
open Option renaming some→nJ,none→nK
open IntKind renaming i64→nM
open Obj renaming cells→nO
open Ending renaming returned→nP
open World renaming cell?→nQ
open Go renaming World→nS,Value→nU
section
attribute [local go_sem] Oper.semAt_some
def Mm(x:Nat×Nat):Array nU:=#[x.1,x.2]
def FH(ks:List Nat)(j:Nat):List (Nat×Nat):=(List.range j).map fun j=>(ks.length-1-j,ks.getD (ks.length-1-j) 0)
def SU(ks:List Nat)(j:Nat):FH ks (j+1)=FH ks j++[(ks.length-1-j,ks.getD (ks.length-1-j) 0)]:=by unfold FH;rw[List.range_succ,Bz];rfl
theorem Vi(ks:List Nat):∀n j,FH ks j <+: FH ks (j+n)
 | 0,j=>List.prefix_rfl
 | n+1,j=>(Vi ks n j).trans (by rw[<-Nat.add_assoc,SU];exact List.prefix_append _ _)
def jR{A:Nat->Prop}{w:nS}{C:Nat}{kv:nU}{ks:List Nat}(hA:∀b,A b->b<w.heap.size)(T:A C)(b1:Ah w C 34 #[kv])(hk:BX A w kv ks)(hl:ks.length<=100000) :
  Seq Tryz.prog 142 #[(C,0)] Mm (FH ks ks.length) A w:=by
 intro ad J Jx W hW hJ ab hY h0;obtain⟨Ad,c,rfl⟩:=hk.shape;have a5:=hW.size;have a4:Bm A w W:=fun b o=>hW.block b (hA b o) id
 have hK:=hk.Bu (fun _=>id) a5 a4;obtain⟨n,U⟩:∃n,ks.length=n:=⟨_,rfl⟩
 have R:Hid (∀b,A b->b<W.heap.size):=Hd (fun b o=>AK (hA b o) a5);rw[U]at hl b1 hK;have a6:Hid (∀y:nS,W.heap.size<=y.heap.size->Bm A W y->C<y.heap.size/\nQ y (C,0)=nJ (nC Ad n c)/\BX A y (nC Ad n c) ks):=Hd (fun y l hs=>by refine⟨AK (R _ T) l,?_,hK.Bu (fun _=>id) l hs⟩;rw[hs.cell T,a4.cell T];exact b1.cell 0)
 have a9:=Hd h0;have HN:=Hd U;rw[U]at hY ⊢;have aa:Hid (∀(j:Nat) (y:nS),j<n->W.heap.size<=y.heap.size->Bm A W y->J (FH ks j) A y->YieldAt Fence.wide 0 Tryz.prog ad (Mm (ks.length-1-j,ks.getD (ks.length-1-j) 0)) y fun e t=>
   W.heap.size<=t.heap.size/\Bm A W t/\((e=nP (.bool true)/\J (FH ks (j+1)) A t)\/(e=nP (.bool false)/\Jx () A t))):=Hd (fun j y ah l hs hj=>by
  have a2:∀b,A b->b<y.heap.size:=fun b o=>AK (R b o) l
  have hp:=Vi ks (n-(j+1)) (j+1);rw[show j+1+(n-(j+1))=n by omega]at hp;rw[SU]at hp ⊢;refine(hY _ _ A y hj hp (fun _=>id) a2).mono ?_;rintro e t ⟨h1,h2,h3⟩;exact⟨AY l h1,hs.trans h2,h3⟩)
 obtain⟨s1,c1,-⟩:=a6 W (AF _) (Bm.refl _ _);have ai:IntKind.i64.wrap ((n:Int)-1)=(n:Int)-1:=by rw[IntKind.wrap_i64];omega
 clear hY hJ ab h0 hK U hW a5 a4 hk hA T b1;refine callsIn_of_wp func142 rfl trivial ?_ rfl;simp only[ntmps142,List.size_toArray,List.length_cons,List.length_nil,Nat.reduceAdd,Nat.reduceSub,Array.replicate_succ,Array.replicate_zero,List.push_toArray,List.append_toArray,List.nil_append,List.cons_append]
 gi_wp2
 gi_loopw [3] (fun i wr=>∃j:Nat,j<=n/\i=nE nM ((n:Int)-1-j)/\Hid (W.heap.size<=wr.heap.size/\Bm A W wr/\J (FH ks j) A wr)) (fun i _=>(intOf i+1).toNat)
 case atStart=>exact⟨0,A0 _,mV,Hd ⟨AF _,Bm.refl _ _,a9⟩⟩
 case round=>
  obtain⟨j,hj,rfl,p⟩:=hrel;obtain⟨s1,c1,a3⟩:=a6 wr p.1 p.2.1;by_cases a2:j<n
  ·obtain⟨i,hi⟩:∃i:Nat,(n:Int)-1-j=i:=⟨n-1-j,mR⟩
   have a7:i=ks.length-1-j:=by rw[HN.out];omega
   have a8:ks[i]?=nJ (ks.getD i 0):=by rw[dG,eG (by rw[HN.out];omega)];rfl
   obtain⟨b,off,rfl,-,af,d0⟩:=a3.at_ a8;have l:=aa j wr a2 p.1 p.2.1 p.2.2;rw[<-a7]at l;obtain⟨fn,ak,assign,ae,l,hR⟩:=l;rw[show Mm (i,ks.getD i 0)=#[nE nM i,nE nM (ks.getD i 0)] from rfl]at l;generalize ks.getD i 0=x at *;have HR:=Hd hR;have aj:IntKind.i64.wrap ((i:Int)-1)=(i:Int)-1:=by rw[IntKind.wrap_i64];omega
   have ag:(i:Int)<(n:Int):=by omega
   have HI:=Hd hi;rw[hi];clear hR a7 a8 a3 hi
   gi_wp2_with fail
   refine⟨rfl,HR.mono ?_⟩;rintro e w3 ⟨a0,a1,(⟨rfl,I⟩|⟨rfl,I⟩)⟩
   ·have P:Hid (W.heap.size<=w3.heap.size/\Bm A W w3/\J (FH ks (j+1)) A w3):=Hd ⟨a0,a1,I⟩
    clear a0 a1 I HR l
    gi_wp2
    go_roundw
    case rel=>exact⟨j+1,mR,by have:=HI.out;congr 1;omega,P⟩
    case measure=>simp[intOf]
   ·have P:=Hd (And.intro a0 (And.intro a1 I))
    clear a0 a1 I HR l
    gi_wp2
    refine bodyPost_ret (results_none rfl _ _ _) rfl ?_;exact⟨⟨_,rfl⟩,A,fun _=>id,fun b o=>AK (R b o) P.1,.inr P.2.2⟩
  ·obtain rfl:j=n:=by omega
   have hm:(j:Int)-1-j = -1:=by omega
   rw[hm];clear a3
   gi_wp2
   refine bodyPost_end (results_none rfl _ _ _) rfl ?_;exact⟨⟨_,rfl⟩,A,fun _=>id,fun b o=>AK (R b o) p.1,.inl p.2.2⟩
def ZV{w:nS}{A:Option Addr}{n c:Nat}:() 108 #[nC A n c] w fun e w'=>e=nP (.func (.func 142) #[] #[(w,0)])/\w'=w.alloc (nO #[nC A n c] 34):=by
 go_enter func108,ntmps108
 go_wp2;go_ret;exact⟨rfl,rfl⟩
end
def En(tr:List Nd):Nat->List Nat->Option (List Nat)
 | _,[]=>nJ []
 | 0,_::_=>nK
 | f+1,k::i=>match tr[k]? with
  | none=>nK
  | some x=>(En tr f (x.kids++i)).map (k::·)
theorem Pj{tr:List Nd}{f k:Nat}{st xs:List Nat}(h:En tr f (k::st)=nJ xs):∃f' x r,f=f'+1/\tr[k]?=nJ x/\En tr f' (x.kids++st)=nJ r/\xs=k::r:=by
 cases f with
 | zero=>unfold En at h;cases h
 | succ f=>
  unfold En at h;split at h
  ·cases h
  ·rename_i x j
   obtain⟨r,i,e⟩:=Option.map_eq_some_iff.1 h;exact⟨f,x,r,rfl,j,i,e.symm⟩
theorem Ng{tr:List Nd}:∀{f:Nat} {st xs:List Nat},En tr f st=nJ xs->st.length<=xs.length/\xs.length<=f
 | f,[],xs,h=>by
  unfold En at h;cases h
  exact⟨AF _,A0 _⟩
 | f,k::st,xs,h=>by obtain⟨l,x,r,rfl,-,j,rfl⟩:=Pj h;obtain⟨i,o⟩:=Ng j;rw[BS]at i;simp only[List.length_cons];omega
structure Eo(A:Nat->Prop)(w:nS)(rb:Nat)(T:List (Nd×nU)):Prop where
 r:A rb/\rb<w.heap.size
 row:∃nb c,nQ w (rb,0)=nJ (nC (nJ ⟨nb,0,nK⟩) T.length c)/\A nb/\nb<w.heap.size/\∀k p,T[k]?=nJ p->∀j,j<6->nQ w ⟨nb,k*6+j,nK⟩=(Nd.cells p)[j]?
 kids:∀p∈T,BX A w p.2 p.1.kids
variable{w:nS}{rb:Nat}{T:List (Nd×nU)}
def Eo.Bu{A:Nat->Prop}{w':nS}(h:Eo A w rb T)(o:w.heap.size<=w'.heap.size)(i:Bm A w w'):Eo A w' rb T:=by obtain⟨R,c,C,t,I,J⟩:=h.row;exact⟨⟨h.r.1,AK h.r.2 o⟩,⟨R,c,(i.cell h.r.1 _).trans C,t,AK I o,fun k p l j P=>(i.cell t _).trans (J k p l j P)⟩,fun p l=>(h.kids p l).Bu (fun _=>id) o i⟩
def Cx.Tt{w0:nS}(h:Cx w0 w rb T)(h0:0<T.length){A:Nat->Prop}(J:∀b,b<w.heap.size->A b)(hk:∀p∈T,p.1.kids.length<=100000):Eo A w rb T:=by
 obtain⟨av,I,P⟩:=h.box;obtain⟨t,c,rfl,U⟩:∃t c,av=nC (nJ ⟨t,0,nK⟩) T.length c/\t<w.heap.size:=by
  rcases Bg P with⟨-,i⟩|⟨b,c,e,-,i,-⟩
  ·omega
  ·exact⟨b,c,e,i⟩
 refine⟨⟨J _ I.lt,I.lt⟩,⟨t,c,I.cell 0,J _ U,U,fun k p j a2 hj=>?_⟩,fun p j=>⟨?_,fun b hb _=>J b (BR (h.kids p j) b hb).1⟩⟩
 ·have a1:=(sG.1 j).1
  rw[Bb P _ mR,Ns j hj]
 ·have l:=h.kids p j
  have hl:=hk p j;refine⟨?_,mR,fun A' n' c' e=>?_⟩
  ·rcases Bg l with⟨e,i⟩|⟨b,c,e,-,i,R,-⟩
   ·exact⟨nK,0,by rw[e,i],fun k x o=>by have:=(sG.1 o).1;omega⟩
   ·refine⟨_,_,e,fun k x o=>⟨b,0,rfl,i,?_⟩⟩
    have a0:=(sG.1 o).1;rw[e]at l;rw[Nat.zero_add,Bb l k mR,pG,o];rfl
  ·rcases Bg l with⟨C,i⟩|⟨b,c,C,-,i,R,-⟩
   ·rw[C]at e;cases e;exact⟨A0 _,fun _=>rfl⟩
   ·rw[C]at e;cases e;exact⟨R,fun e=>by cases e⟩
theorem OQ{F:Fence}{n:Nat}{P:Program}{fn:Func}{tmps:Array nU}{R:Ending->nS->Prop}{B:Nat}:∀{i:List Deferred} {w:nS},Ck B w i->(∀w',Aj (fun b=>B<=b/\({target:=.collected b,args:=#[]}:Deferred)∈i) w w'->LeavesInM F n P fn tmps R [] .returning w')->LeavesInM F n P fn tmps R i .returning w
 | [],w,_,h=>h w (Aj.refl _ _)
 | d::i,w,⟨⟨D,o,p,t,C⟩,I⟩,h=>by
  subst p;refine⟨mV,.inl ⟨D,_,rfl,run_takeDeferred t,?_⟩⟩;refine OQ (B:=B) (I.Bu (fun l a0 hx T=>?_)) (fun w' J=>h w' (((Aj.refl _ _).put (.inr ⟨o,List.mem_cons_self⟩) _).next (J.mono (fun b j=>⟨j.1,List.mem_cons_of_mem _ j.2⟩))));have U:l≠D:=fun e=>C _ T (by rw[e])
  exact(World.putObj_heap_other U).trans hx
section
def Jk.lessU{i:Type}{B:Nat}{J:i->(Nat->Prop)->nS->Prop}(h:Jk B J){s:i}{A A':Nat->Prop}{W:nS}(o:J s A W)(j:∀b,A' b->A b):J s A' W:=h s A A' W W o (Aj.refl _ _) (fun b l=>.inl (j b l))
attribute [local go_sem] Oper.semAt_some
def Ol{n c:Nat}{A:Option Addr}(p:nQ w (rb,0)=nJ (nC A n c))(t:rb<w.heap.size){k:Nat}(j:k<n):() 33 #[(rb,0),k] w fun e w'=>e=nP (.bool true)/\w'=w:=by
 have i:Hid (() 65 #[(rb,0)] w fun e w'=>e=nP n/\w'=w):=Hd (by
  go_enter func65,ntmps65
  go_wp2;go_ret;exact⟨rfl,rfl⟩)
 have l:(k:Int)<(n:Int):=by omega
 go_enter func33,ntmps33
 go_wp2_with (go_at_call 65;refine i.mono ?_;rintro e o ⟨rfl,rfl⟩)
 go_ret;exact⟨rfl,rfl⟩
def XB{B n c:Nat}{A:Option Addr}{e:TypeId}{xs:List nU}{x:nU}(h:w.ownsRow B e 1 (nC A (n+1) c) (n+1) (xs++[x])):w.ownsRow B e 1 (nC A n c) n xs:=by
 have J:xs.length=n:=by have:=h.1;simp at this;omega
 obtain⟨-,⟨P,l⟩|⟨g,cap,i,j,C,I,R,o,p,t⟩⟩:=h
 ·cases l
 ·cases j
  refine⟨mR,.inr ⟨g,_,i,rfl,C,I,mR,o,p,?_⟩⟩;have:=congrArg (List.take n) t;rw[List.take_take,Nat.min_eq_left mR,List.take_left' J]at this;rw[Nat.mul_one];exact this
abbrev Ny(b:Nat):Deferred:={target:=.collected b,args:=#[]}
def Rk(l ib tx i:Nat)(f:Nat->nU)(j:List Deferred):Act:={tmps:=#[.func (.yield l) #[] #[],nF (nJ ⟨ib,0,nK⟩),nF (nJ ⟨tx,0,nK⟩),f 3,nF (nJ ⟨i,0,nK⟩),f 5,f 6,f 7,f 8,f 9,f 10,f 11,f 12,f 13,f 14,f 15,f 16,f 17,f 18,f 19,f 20,f 21,f 22,f 23,f 24,f 25,f 26,f 27,f 28,f 29,f 30,f 31,f 32,f 33,f 34,f 35,f 36,f 37,f 38,f 39,f 40,f 41,f 42,f 43,f 44,f 45,f 46,f 47],defers:=j}
def Nl(A:Nat->Prop)(i:Nat)(v:nU)(j:List Deferred)(b:Nat):Prop:=A b\/b=i\/v.ownBlock=nJ b\/Ny b∈j
structure NC(tr:List Nd)(xs:List Nat)(J:List Nat->(Nat->Prop)->nS->Prop)(A:Nat->Prop)(B b0 n:Nat)(W y:nS)(ds:List Deferred)(v:nU)(st pre rest:List Nat):Prop where
 Nx:En tr n st=nJ rest
 eq:pre++rest=xs
 sz:B<=y.heap.size
 same:Bm A W y
 bx:Ah y b0 34 #[v]
 lo:B<=b0
 row:y.ownsRow B 3 1 v st.length (st.reverse.map AS)
 marks:Ck B y ds
 j:J pre (Nl A b0 v ds) y
 B7:n<=100000
def gX(ks:List Nat):(FH ks ks.length).map (·.2)=ks.reverse:=by
 unfold FH;apply List.ext_getElem?;intro j;rw[List.map_map,pG];by_cases i:j<ks.length
 ·rw[List.getElem?_range i,List.getElem?_reverse i]
  simp[eG (show ks.length-1-j<ks.length by omega)]
 ·rw[nG (by simpa using i),nG (by simpa using i)]
  rfl
def Rw(ks:List Nat)(j:Nat):(FH ks j).length=j:=by simp[FH]
def SN(B j o m:Nat)(st:List Nat)(p:nS)(pre:List (Nat×Nat))(A:Nat->Prop)(W:nS):Prop:=
 ¬A j/\Aj (fun b=>b=j\/b=o) p W/\∃i l,Ah W j 34 #[nC i (m+pre.length) l]/\W.ownsRow B 3 1 (nC i (m+pre.length) l) (m+pre.length) ((st.reverse++pre.map (·.2)).map AS)/\∀b,(Value.slice i (m+pre.length) l).ownBlock=nJ b->¬A b/\(b=o\/p.heap.size<=b)
def Kb(k:Nat):Array nU:=#[k]
def PO{A:Nat->Prop}{ib tx i f:Nat}{xs:List Nat}(hA:∀b,A b->b<w.heap.size)(ht:Eo A w rb T)(a1:A ib)(a2:A tx)(b1:Ah w ib 3 #[nE nM i])(b2:Ah w tx 35 #[nF (nJ ⟨rb,0,nK⟩)])(hv:En (T.map (·.1)) f [i]=nJ xs)(hf:f<=100000)(hk:∀p∈T,p.1.kids.length<=100000)(dh:i<T.length) :
  Seq Tryz.prog 107 #[nF (nJ ⟨ib,0,nK⟩),nF (nJ ⟨tx,0,nK⟩)] Kb xs A w:=by
 intro dq ak Jx W hW hJ bw hY h0;have bb:=hW.size;have au:Bm A w W:=fun b j=>hW.block b (hA b j) id
 have a3:=ht.Bu bb au;have a0:Hid (∀b,A b->b<W.heap.size):=Hd (fun b j=>AK (hA b j) bb);have ax:Hid (∀y,W.heap.size<=y.heap.size->Bm A W y->Eo A y rb T/\tx<y.heap.size/\nQ y ⟨tx,0,nK⟩=nJ (nF (nJ ⟨rb,0,nK⟩))):=Hd (fun y hy hs=>⟨a3.Bu hy hs,AK (a0 _ a2) hy,by rw[hs.cell a2,au.cell a2];exact b2.cell 0⟩);have HY:=Hd hY;have HJ:=Hd hJ;have bh:=Hd bw;have bf:=Hd h0;have HV:=Hd hv;have HK:=Hd hk;have HF:=Hd hf;have c1:nQ W ⟨ib,0,nK⟩=nJ (nE nM i):=by rw[au.cell a1];exact b1.cell 0
 have l1:=a0 _ a1;obtain⟨hT,l2,c2⟩:=ax W (AF _) (Bm.refl _ _);obtain⟨nb,cn,n1,n2,n3,n4⟩:=hT.row;have ao:=hT.r.2;have bn:Hid (∀y,Below W.heap.size W y->Calls Tryz.prog 33 #[nF (nJ ⟨rb,0,nK⟩),nE nM i] y fun e w'=>e=nP (.bool true)/\w'=y):=Hd (fun y hy=>Ol ((hy.cell (p:=⟨rb,0,nK⟩) ao).trans n1) (AK ao hy.size) dh);clear hY hJ bw h0 hv hk hf hW bb au a3 ht hA a1 b1 b2 hT n1 n2 n3 n4 ao;refine callsIn_of_wp_marks func107 rfl trivial ?_ rfl;simp only[ntmps107,List.size_toArray,List.length_cons,List.length_nil,Nat.reduceAdd,Nat.reduceSub,Array.replicate_succ,Array.replicate_zero,List.push_toArray,List.append_toArray,List.nil_append,List.cons_append]
 have b0:Below W.heap.size W ((W.alloc (nO #[nE nM i] 3)).alloc (nO #[nC (nJ ⟨W.heap.size,0,nK⟩) 1 1] 34)):=(AE W _).alloc mV _;have ad:=Hd b0;have bd:Hid (Ah ((W.alloc (nO #[nE nM i] 3)).alloc (nO #[nC (nJ ⟨W.heap.size,0,nK⟩) 1 1] 34)) (W.heap.size+1) 34 #[nC (nJ ⟨W.heap.size,0,nK⟩) 1 1]):=Hd (Ah.newAt mV);have bl:Hid (((W.alloc (nO #[nE nM i] 3)).alloc (nO #[nC (nJ ⟨W.heap.size,0,nK⟩) 1 1] 34)).ownsRow W.heap.size 3 1 (nC (nJ ⟨W.heap.size,0,nK⟩) 1 1) 1 ([i].reverse.map AS)):=Hd (MS (XS:=[AS i]) ((Ah.new W 3 #[nE nM i]).alloc _) (AF _) rfl mT)
 have d8:=(b0.cell (p:=⟨tx,0,nK⟩) l2).trans c2;clear b0
 gi_wp2_with (refine⟨trivial,rfl,?_⟩;gi_at_call 33;refine(callsIn_wide.2 (bn _ ad)).mono ?_;rintro e w1 ⟨rfl,rfl⟩)
 have cs:NC (T.map (·.1)) xs ak A W.heap.size (W.heap.size+1) f W ((W.alloc (nO #[nE nM i] 3)).alloc (nO #[nC (nJ ⟨W.heap.size,0,nK⟩) 1 1] 34)) [] (nC (nJ ⟨W.heap.size,0,nK⟩) 1 1) [i] [] xs:=⟨HV,rfl,ad.size,fun b j=>ad.block b (a0 b j),bd,Nat.le_succ _,bl,trivial,HJ _ _ _ _ _ bf (Aj.AJ ad) (fun b j=>by
  rcases j with j|rfl|j|j
  ·exact .inl j
  ·exact .inr mR
  ·simp only[Value.ownBlock,Option.some.injEq]at j
   exact .inr mR
  ·cases j),HF⟩
 have bm:=Hd cs;clear cs ad bd bl bn HV bf c1 c2 d8 l1 l2;generalize (W.alloc (nO #[nE nM i] 3)).alloc (nO #[nC (nJ ⟨W.heap.size,0,nK⟩) 1 1] 34)=y0 at *;generalize dc:W.heap.size+1=o at *;generalize hB:W.heap.size=B at *;have HB:=Hd hB;clear hB dc;refine wpIn_loop_ghost_k (fun n a y=>∃v U pre rest,a=Rk dq ib tx o (fun a6=>a.tmps.getD a6 undef) a.defers/\Hid (NC (T.map (·.1)) xs ak A B o n W y a.defers v U pre rest)) f ?start ?round
 case start=>exact⟨_,_,_,_,rfl,bm⟩
 case round=>
  intro n a y hI J' K' hJ hK;obtain⟨v,U,pre,rest,ha,l⟩:=hI;obtain⟨g,hg⟩:∃g,(fun a6=>a.tmps.getD a6 undef)=g:=⟨_,rfl⟩
  obtain⟨ds,b4⟩:∃ds,a.defers=ds:=⟨_,rfl⟩
  rw[hg,b4]at ha;rw[b4]at l;clear hg b4 bm;subst ha;unfold Rk;have cz:=Hd hJ;clear hJ;have x0:=Ah.cell l.bx 0;have f0:=Ah.frozen l.bx 0;have xl:=l.bx.lt;simp at x0;obtain⟨a3,l2,c2⟩:=ax y l.sz l.same;cases U with
  | nil=>
   have hr:rest=[]:=by have h:=l.Nx;unfold En at h;cases h;rfl
   obtain⟨As,R,rfl⟩:=CS l.row;have he:pre=xs:=by rw[<-l.eq,hr,List.append_nil]
   have HE:=Hd he;simp only[List.length_nil]at x0;clear a3 l2 c2 hr he
   gi_wp2
   refine OQ (B:=B) l.marks (fun w9 a5=>?_);refine⟨_,results_none rfl _ _ _,?_⟩;refine⟨⟨_,rfl⟩,A,fun _=>id,fun b j=>AK (a0 b j) (AY l.sz a5.size),.inl ?_⟩;rw[<-HE.out];exact HJ.lessU (HJ.step l.j (a5.mono fun b j=>⟨j.1,.inr (.inr (.inr j.2))⟩)) (fun b=>.inl)
  | cons k U=>
   obtain⟨n',x,r,rfl,hx,ct,b7⟩:=Pj l.Nx;have ch:=Ng l.Nx;have di:n'<=100000:=by have:=l.B7;omega
   simp only[List.length_cons]at ch;obtain⟨C,R,rfl,dg,de⟩:∃C R,v=nC (nJ ⟨C,0,nK⟩) (U.length+1) R/\C<y.heap.size/\U.length+1<=R:=by
    rcases Bg l.row with⟨-,h0⟩|⟨b,c,e,-,I,J,-⟩
    ·simp at h0
    ·exact⟨b,c,e,I,J⟩
   have cd:nQ y ⟨C,U.length,nK⟩=nJ (nE nM k):=by rw[Bb l.row _ mV];simp[AS]
   obtain⟨m,hm⟩:∃m,U.length=m:=⟨_,rfl⟩
   rw[hm]at x0 cd de l ch;have HM:=Hd hm;have HX:=Hd hx;have d4:=Hd ct;have d1:=Hd b7;have c6:Aj (·=o) y (y.setCell ⟨o,0,nK⟩ (nC (nJ ⟨C,0,nK⟩) m R)):=(Aj.refl (·=o) y).set (p:=⟨o,0,nK⟩) (.inr rfl) _;have cj:∀b,Nl A o (nC (nJ ⟨C,0,nK⟩) (m+1) R) ds b->b<(y.setCell ⟨o,0,nK⟩ (nC (nJ ⟨C,0,nK⟩) m R)).heap.size:=by
    intro b j;have:=l.sz
    suffices h:b<y.heap.size by simpa using h
    rcases j with j|rfl|j|j
    ·exact AK (a0 b j) this
    ·exact l.bx.lt
    ·cases j;exact dg
    ·exact l.marks.lt b j
   have cc:=HJ.step l.j (c6.mono fun b j=>⟨by rw[j];exact l.lo,.inr (.inl j)⟩);have hy:=HY pre k _ _ cc ⟨r,by rw[List.append_assoc,List.singleton_append,<-b7];exact l.eq⟩ (fun b=>.inl) cj;obtain⟨fn,e8,assign,du,hy,hR⟩:=hy;rw[show Kb k=(#[nE nM k]:Array nU) from rfl]at hy;have HR:=Hd hR;have e6:IntKind.i64.wrap ((m:Int)+1-1)=(m:Int):=by rw[IntKind.wrap_i64];omega
   have e7:IntKind.i64.wrap (m:Int)=(m:Int):=by rw[IntKind.wrap_i64];omega
   have e3:(m:Int)<(m:Int)+1:=by omega
   have e2:(m:Int)<=(R:Int):=by omega
   have e0:(0:Int)<(m:Int)+1:=by omega
   clear hx ct b7 a3 l2 c2 hR cc cj c6 hm
   gi_wp2_with fail
   refine⟨rfl,HR.mono ?_⟩;rintro e t ⟨cr,a9,(⟨rfl,af⟩|⟨rfl,af⟩)⟩
   ·have dn:(y.setCell ⟨o,0,nK⟩ (nC (nJ ⟨C,0,nK⟩) m R)).heap.size=y.heap.size:=by simp
    have aw:∀b,b≠o->(y.setCell ⟨o,0,nK⟩ (nC (nJ ⟨C,0,nK⟩) m R)).heap[b]?=y.heap[b]?:=fun b j=>Below.heap_setCell _ _ _ _ j
    have cb:C≠o:=fun e=>by have h1:=DL l.row l.bx mT;exact h1 (by rw[<-e];rfl)
    have ae:Ck B t ds:=l.marks.Bu fun D hD hx hm=>by
     have a7:D≠o:=fun e=>by have I:=l.bx;unfold Ah at I;rw[e,I]at hx;cases hx
     exact(a9 D (.inr (.inr (.inr hm)))).trans ((aw D a7).trans hx)
    have bp:Ah t o 34 #[nC (nJ ⟨C,0,nK⟩) m R]:=(a9 o (.inr (.inl rfl))).trans (by have h:=l.bx.AW 0 (nC (nJ ⟨C,0,nK⟩) m R);simp at h;exact h);have bq:t.ownsRow B 3 1 (nC (nJ ⟨C,0,nK⟩) m R) m (U.reverse.map AS):=by
     have h:=l.row;rw[List.reverse_cons,Bz,List.length_cons,HM.out]at h;have I:=XB h;refine⟨I.1,?_⟩;rcases I.2 with J|⟨g',cap,bo,e1,hB,hg,J⟩
     ·cases J.1
     ·cases e1
      exact .inr ⟨C,_,bo,rfl,hB,(a9 C (.inr (.inr (.inl rfl)))).trans ((aw C cb).trans hg),J⟩
    have ay:Bm A W t:=l.same.trans (fun b j=>(a9 b (.inl j)).trans (aw b (fun e=>by have:=a0 b j;have:=l.lo;omega)));have az:B<=t.heap.size:=by have:=l.sz;omega
    have an:=l.lo;have dv:=l.B7;have heq:=l.eq;rw[d1.out]at heq;have P:Hid (Ck B t ds/\Ah t o 34 #[nC (nJ ⟨C,0,nK⟩) m R]/\t.ownsRow B 3 1 (nC (nJ ⟨C,0,nK⟩) m R) m (U.reverse.map AS)/\Bm A W t/\B<=t.heap.size/\ak (pre++[k]) (Nl A o (nC (nJ ⟨C,0,nK⟩) (m+1) R) ds) t/\B<=o/\(pre++[k])++r=xs):=Hd ⟨ae,bp,bq,ay,az,af,an,by rw[List.append_assoc];exact heq⟩;obtain⟨a3,l2,c2⟩:=ax t az ay;obtain⟨nb,cn,n1,n2,n3,n4⟩:=a3.row;have ao:=a3.r.2;have av:=HX.out;rw[pG]at av;obtain⟨p,hp,rfl⟩:=Option.map_eq_some_iff.1 av
    have dw:=(sG.1 hp).1;have b6:=mG hp;have ar:=a3.kids p b6;have b5:=HK p b6;have c7:=n4 k p hp 3 mT;obtain⟨x,kv⟩:=p;obtain⟨Ak,ck,cg⟩:=ar.shape;simp only at cg ar b5 av;subst cg;have dd:nQ t ⟨nb,k*6+3,nK⟩=nJ (nC Ak x.kids.length ck):=c7;clear c7;have aj:=Hd (And.intro ar b5);have dx:(k:Int)<(T.length:Int):=by omega
    generalize T.length=tl at *;generalize cf:x.kids.length=kl at dd aj;have ai:=Hd cf;clear ae bp bq ay az af cr a9 dn aw cb a3 n4 hp b6 ar b5 av HX l HR hy heq cf x0 f0 xl cd
    gi_wp2_with (refine⟨trivial,rfl,?_⟩;gi_at_call 108;refine(callsIn_wide.2 ZV).mono ?_;rintro e w4 ⟨rfl,dp⟩)
    subst dp;have ab:=AE t (nO #[nC Ak kl ck] 34);have c0:=Ah.new t 34 #[nC Ak kl ck];have aa:∀b,A b->b<t.heap.size:=fun b j=>AK (a0 b j) P.2.2.2.2.1
    have dm:(t.alloc (nO #[nC Ak kl ck] 34)).heap.size=t.heap.size+1:=by simp
    have b8:=jR (A:=fun b=>A b\/b=t.heap.size) (w:=t.alloc (nO #[nC Ak kl ck] 34)) (ks:=x.kids) (fun b j=>j.elim (fun h=>by have:=aa b h;omega) (fun h=>by omega)) (.inr rfl) c0 (aj.1.Bu (fun _=>.inl) ab.size (fun b j=>ab.block b (aa b j))) (by rw[ai.out];exact aj.2);rw[ai.out]at b8;have ca:=BR P.2.2.1 C rfl;have bv:SN B o C m U (t.alloc (nO #[nC Ak kl ck] 34)) [] (fun b=>A b\/b=t.heap.size) (t.alloc (nO #[nC Ak kl ck] 34)):=by
     have h1:=P.2.1.lt;have I:=P.2.2.2.2.2.2.1;refine⟨fun h=>h.elim (fun h=>by have:=a0 o h;omega) (fun h=>by omega),Aj.refl _ _,nJ ⟨C,0,nK⟩,R,P.2.1.alloc _,by simpa using AV P.2.2.1 ab,fun b j=>?_⟩;cases j
     exact⟨fun h=>h.elim (fun h=>by have:=a0 C h;omega) (fun(h:C=t.heap.size)=>by omega),.inl rfl⟩
    have d3:=Hd b8;have cy:=Hd bv;have ah:=Hd ab;have cx:=Hd ca;have cu:Hid (∀b,(A b\/b=t.heap.size)->b<(t.alloc (nO #[nC Ak kl ck] 34)).heap.size):=Hd (fun b j=>j.elim (fun h=>by have:=aa b h;omega) (fun h=>by omega));have cv:=Hd (P.2.1.alloc (nO #[nC Ak kl ck] 34));have d0:=Hd (AV P.2.2.1 ab);clear b8 bv ab c0 aa ca;generalize t.alloc (nO #[nC Ak kl ck] 34)=w4 at *;generalize a8:t.heap.size=q3 at *;have bi:=Hd a8;clear a8;refine Lp (gf:=142) (lb:=#[nF (nJ ⟨q3,0,nK⟩)]) rfl (fun _ _=>by kernel_rfl) d3 cu (fun _=>rfl)
     (SN B o C m U w4) (fun c A' W'=>False) ?hI ?hIx ?h0 ?hround ?hdone ?hstop
    case hI=>rintro s A1 A2 d7 U' ⟨h1,I,A',c',J,h4,h5⟩ hc bt;exact⟨fun h=>(bt _ h).elim h1 (by have:=J.lt;omega),I.trans hc (fun a6 hj h=>by omega),A',c',hc.Ap J (fun h=>h1 h.2),hc.own h4 (fun g hg h=>(h5 g hg).1 h.2),fun b j=>⟨fun h=>(bt _ h).elim (h5 b j).1 (by have:=(BR h4 b j).1;omega),(h5 b j).2⟩⟩
    case hIx=>exact fun c s A1 A2 d7 U' h _ _=>h
    case h0=>exact cy
    case hstop=>exact fun D c A' W' _ _ _ _ h _=>h.elim
    case hround=>
     rintro l1 a4 ⟨xi,xk⟩ A5 W5 cq dy dz aa ba aq ⟨h1,I,A',c',J,h4,h5⟩;have cp:=cq.length_le;rw[Rw,BS]at cp;have dj:m+a4.length<=300000:=by have:=aj.2;omega
     have HH:Hid (¬A5 o/\Aj (fun b=>b=o\/b=C) w4 W5/\Ah W5 o 34 #[nC A' (m+a4.length) c']/\W5.ownsRow B 3 1 (nC A' (m+a4.length) c') (m+a4.length) ((U.reverse++a4.map (·.2)).map AS)/\(∀b,(Value.slice A' (m+a4.length) c').ownBlock=nJ b->¬A5 b/\(b=C\/w4.heap.size<=b))/\∀b,A5 b->b<W5.heap.size):=Hd ⟨h1,I,J,h4,h5,aq⟩;have dr:Hid (B<=o):=Hd P.2.2.2.2.2.2.1;have cw:Hid (B<=w4.heap.size):=Hd (AY P.2.2.2.2.1 (by have h:=ah.size;rwa [bi.out]at h));obtain⟨q,hq⟩:∃q,m+a4.length=q:=⟨_,rfl⟩
     rw[hq]at HH dj;have HQ:=Hd hq;simp only[Mm];clear h1 I J h4 h5 aq cp ba cq hq dm;simp
     gi_wp2
     refine⟨AF _,Bm.refl _ _,fun W7 al e4 r' dk=>?_⟩;have h1:=HH.1;have a7:∀b,¬A5 b->b≠l1:=fun b j e=>j (e▸aa)
     have J:=al.Ap HH.2.2.1 (fun e=>a7 _ h1 e);have h4:=al.own HH.2.2.2.1 (fun g hg e=>a7 _ (HH.2.2.2.2.1 g hg).1 e);have b1:=J.cell 0;have f1:=J.frozen 0;have l3:=J.lt;simp at b1;have be:=Hd al;have d5:=Hd J;have d6:=Hd h4;clear J h4 a7 al dk
     gi_wp2_with (first
      | (
        gi_at_builtin;refine S1 GW (.tmp 44) (.tmp 46) rfl rfl (base:=B) (n:=q) (m:=1) (N:=q+1) (v:=nC A' q c') (src:=nC (nJ ⟨W7.heap.size,0,nK⟩) 1 1) (xs:=(U.reverse++a4.map (·.2)).map AS) (news:=[AS xk]) rfl rfl (AV d6 (AE _ _)) (Ba.Ap (c:=1) (cs:=[AS xk]) (Ah.new W7 3 _) rfl (by simp[Value.oneCell',AS])) rfl mW mR (by have:=cw.out;have:=HH.2.1.size;simp;omega) ?_
        intro A9 c9 w9 r1 r2 r3;have ag:=r2.Ap (d5.alloc _) (.inr mT);have b9:=ag.cell 0;have f9:=ag.frozen 0;have l9:=ag.lt;simp at b9;have bj:=Hd r1;have dt:=Hd r2;have bk:=Hd r3;have bc:=Hd ag;clear r1 r2 r3 ag))
     have e5:(W7.alloc (nO #[nE nM xk] 3)).heap.size=W7.heap.size+1:=by simp
     have da:=be.size;have br:=HH.2.1.size;have hX:∀b,(Value.slice A' q c').ownBlock=nJ b->¬A5 b/\(b=C\/w4.heap.size<=b):=HH.2.2.2.2.1;have a5:Aj (fun b=>b=o\/(Value.slice A' q c').ownBlock=nJ b) W7 (w9.setCell ⟨o,0,nK⟩ (nC A9 (q+1) c9)):=(((Aj.refl _ W7).alloc _).next ((Aj.Cy bk.1).mono fun b h=>.inr h)).set (p:=⟨o,0,nK⟩) (.inr (.inl rfl)) _;refine⟨a5.size,fun b j=>a5.block b (AK (HH.2.2.2.2.2 b j) da) (fun h=>h.elim (fun e=>h1 (e▸j)) (fun e=>(hX b e).1 j)),h1,(HH.2.1.trans be (fun a6 hj e=>by omega)).trans a5 (fun a6 hj h=>h.elim .inl (fun e=>(hX a6 e).2.elim .inr (fun h=>by omega))),A9,c9,?_,?_,fun b j=>?_⟩
     ·have h:=bc.AW 0 (nC A9 (q+1) c9)
      simp at h;rw[BS,List.length_singleton,<-Nat.add_assoc,HQ.out];exact h
     ·have h:=Ee bj (p:=⟨o,0,nK⟩) (DL bj bc mT) (nC A9 (q+1) c9)
      rw[BS,List.length_singleton,<-Nat.add_assoc,HQ.out,show (U.reverse++(a4++[(xi,xk)]).map (·.2)).map AS=(U.reverse++a4.map (·.2)).map AS++[AS xk] by simp];exact h
     ·rw[BS,List.length_singleton,<-Nat.add_assoc,HQ.out]at j
      rcases bk.2 with e|e
      ·exact hX b (e.symm.trans j)
      ·rw[e]at j
       cases j
       exact⟨fun h=>by have:=HH.2.2.2.2.2 _ h;omega,.inr mR⟩
    case hdone=>
     rintro D A5 W5 hD db ba aq ⟨h1,I,A',c',J,h4,h5⟩ bx;rw[show (FH x.kids kl).map (·.2)=x.kids.reverse by rw[<-ai.out];exact gX _]at h4;rw[Rw]at J h4 h5;have a8:=bi.out;have d9:=ah.size;have br:=I.size;have an:B<=o:=P.2.2.2.2.2.2.1;have bu:B<=t.heap.size:=by rw[a8];exact P.2.2.2.2.1
     have hg:=cx.out;have cl:=P.1.later (by rw[a8];exact ah);have c8:∀D,(D=o\/D=C)->w4.heap[D]?≠nJ (.deferred (nJ [])):=by
      intro D hD he;rcases hD with rfl|rfl
      ·have I:=cv.out
       unfold Ah at I;rw[I]at he;cases he
      ·rcases d0.2 with J|⟨g',cap,bo,e1,hB,df,-⟩
       · cases J.1
       · cases e1
         rw[df]at he;cases he
     have cm:Ck B W5 (Ny D::ds):=(cl.Ay I (fun D' _ hx h=>c8 D' h hx)).more mR bx (fun D' hm=>by have:=P.1.lt D' hm;omega);have b3:Aj (fun b=>B<=b/\Nl A o (nC (nJ ⟨C,0,nK⟩) (m+1) R) ds b) t W5:=(Aj.AJ (by rw[a8];exact ah)).trans I (fun a6 hj h=>h.elim (fun e=>⟨mR,.inr (.inl e)⟩) (fun e=>⟨mR,.inr (.inr (.inl (by rw[e];rfl)))⟩));have bz:NC (T.map (·.1)) xs ak A B o n' W W5 (Ny D::ds) (nC A' (m+kl) c') (x.kids++U) (pre++[k]) r:=by
      refine⟨d4,P.2.2.2.2.2.2.2,mR,P.2.2.2.1.trans (fun b j=>b3.block b (AK (a0 b j) bu) (fun h=>by have:=a0 b j;omega)),J,an,?_,cm,?_,di⟩
      ·rw[BS,ai.out,HM.out,Nat.add_comm kl m,List.reverse_append]
       exact h4
      ·refine HJ _ _ _ _ _ P.2.2.2.2.2.1 b3 (fun b j=>?_)
       rcases j with j|j|j|j
       · exact .inl (.inl j)
       · exact .inl (.inr (.inl j))
       · rcases(h5 b j).2 with e|e
         ·exact .inl (.inr (.inr (.inl (by rw[e];rfl))))
         ·exact .inr mR
       · rcases List.mem_cons.1 j with e|e
         ·cases e
          exact .inr mR
         ·exact .inl (.inr (.inr (.inr e)))
     have d2:=Hd bz;clear bz b3 cm c8 cl hg bu an br d9 a8 h1 I J h4 h5 ba aq bx db
     gi_wp2
     exact Handed.intro n' mR (cz _ _ _ ⟨_,_,_,_,rfl,d2⟩)
   ·have ae:Ck B t ds:=l.marks.Bu fun D hD hx hm=>by
     have a7:D≠o:=fun e=>by have I:=l.bx;unfold Ah at I;rw[e,I]at hx;cases hx
     exact(a9 D (.inr (.inr (.inr hm)))).trans ((Below.heap_setCell _ _ _ _ a7).trans hx)
    have hz:B<=t.heap.size:=by
     have h1:=l.sz;have I:(y.setCell ⟨o,0,nK⟩ (nC (nJ ⟨C,0,nK⟩) m R)).heap.size=y.heap.size:=by simp
     omega
    have P:=Hd (And.intro ae (And.intro hz af));clear ae hz af cr a9 HR hy
    gi_wp2
    refine OQ (B:=B) P.1 (fun w9 a5=>?_);refine⟨_,results_none rfl _ _ _,?_⟩;refine⟨⟨_,rfl⟩,A,fun _=>id,fun b j=>AK (a0 b j) (AY P.2.1 a5.size),.inr ?_⟩;exact bh.lessU (bh.step (s:=()) P.2.2 (a5.mono fun b j=>⟨j.1,.inr (.inr (.inr j.2))⟩)) (fun b=>.inl)
end
