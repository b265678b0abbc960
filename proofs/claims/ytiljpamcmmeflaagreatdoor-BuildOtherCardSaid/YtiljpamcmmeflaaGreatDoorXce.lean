/- . -/
import Derived.Test.YtiljpamcmmeflaaGreatDoorXcd
import Derived.Test.YtiljpamcmmeflaaGreatDoorXcc
set_option linter.all false
set_option maxRecDepth 100000
set_option maxHeartbeats 16000000
namespace Go.Proofs.YtiljpamcmmeflaaGreatDoor
open Go.RowKit Go.Proofs.Tryz
open Value renaming slice→nC,int→nE,string→nH,bool→nI
open Option renaming some→nJ,none→nK
open IntKind renaming i64→nM
open Obj renaming cells→nO
open Ending renaming returned→nP
open World renaming cell?→nQ
open Go renaming World→nS,Value→nU
variable{w:nS}{v:nU}{A:Option Addr}{rb:Nat}{T:List (Nd×nU)}
def cS{i:Nat}:() 9 #[(i,0),nE nM 5,.agg #[nE nM 4,nE nM 0,nC nK 0 0,nH ⟨#[]⟩]] w fun e w'=>e=nP (nI true)/\Below w w w':=by
 go_enter func9,ntmps9
 go_wp2;go_ret;exact⟨rfl,AE w _⟩
def Tl{B:Nat}{l:List Nat}(h:w.ownsRow B 3 1 v l.length (l.map AS)):IN l v:=by
 intro e;subst e;rcases Bg h with⟨h,-⟩|⟨b,c,h,-⟩
 ·exact .inl h
 ·exact .inr ⟨_,_,h⟩
def aE{tb lb vb cl cv b:Nat}(hm:FI w)(hT:Ip w)(h:GH w tb)(b9:tb<w.heap.size)(an:lb<w.heap.size)(hl:∀i,i<2->nQ w ⟨lb,i,nK⟩=nJ (nE nM (tB i:Nat)))(av:GB w (nC (vb,0) 2 cv) 0 1 0 (nJ ⟨b,0,nK⟩) 1 1 ⟨#[]⟩ ⟨#[104,10]⟩)(al:Hk w (nJ ⟨b,0,nK⟩) ⟨#[102]⟩)(aw:GB w (nC (vb,0) 2 cv) 1 4 0 nK 0 0 ⟨#[]⟩ ⟨#[104,10]⟩) :
  () 18 #[(tb,0),nC (lb,0) 2 cl,(nC (vb,0) 2 cv)] w (OY w):=by
 have a3:=AE w (nO #[nE nM 0,nH ⟨#[]⟩,nI false,nI false,nC nK 0 0,nC nK 0 0,nC nK 0 0,nC nK 0 0,nC nK 0 0,nC nK 0 0] 46);have ag:=Hd (dW (h.later a3) (AK b9 a3.size));have HX:=Hd (Ah.new w 46 #[nE nM 0,nH ⟨#[]⟩,nI false,nI false,nC nK 0 0,nC nK 0 0,nC nK 0 0,nC nK 0 0,nC nK 0 0,nC nK 0 0]);have a0:=Hd a3;have HM:=Hd hm;have b3:=Hd hT;have ah:=Hd av;have b5:=Hd aw;have b0:=Hd al;have HL:=Hd hl;have bf:pz.nt=38:=rfl
 clear hm hT h av aw al hl a3;go_enter func18,ntmps18
 go_wp2_with (go_at_call 46;refine ag.mono ?_;rintro e w2 ⟨eb,rb,sv,rfl,he,b7⟩;have HE:=Hd he;clear he b7 ag)
 go_loopw [9] (fun iv wr=>∃(i:Nat) (a6:List (Nd×nU)) (steps:Nat) (sv nv:nU),i<=2/\iv=nE nM i/\Hid (Cz (w.alloc (nO #[nE nM 0,nH ⟨#[]⟩,nI false,nI false,nC nK 0 0,nC nK 0 0,nC nK 0 0,nC nK 0 0,nC nK 0 0,nC nK 0 0] 46)) wr eb tb rb (Ia i).st (Ia i).ns a6 false steps sv nv/\a6.map (·.1)=(Ia i).tr/\steps<=1001*i)) (fun iv _=>2-(intOf iv).toNat)
 case atStart=>exact⟨0,[],0,sv,nC nK 0 0,mT,rfl,Hd ⟨HE,rfl,AF _⟩⟩
 case round=>
  obtain⟨i,a6,steps,bk,bi,hi,rfl,HI⟩:=hrel;obtain⟨t,a2,bh⟩:=HI.out;clear HE;have af:=Hd (a0.trans (t.base.mono a0.size));by_cases ao:i<2
  ·obtain⟨a,bj,q1,q2,q3,q4,q5,q6⟩:=YK ao
   have ar:0<tB i/\tB i<=38:=by unfold tB;split<;>omega
   have C:=UJ t (by rw[q6];exact Nat.succ_pos _) (tB i:Nat) (fun _ _=>q1) (MT hi);rw[decide_eq_true ⟨mR,mR,q2⟩]at C;have ad:=kJ t a2 q6 (l:=i) ar.1 mR C q3 (MT hi) (AF _) mR q5;rw[q4]at ad;have b2:=Hd ad;have d0:=(af.cell (p:=⟨lb,i,nK⟩) an).trans (HL i ao);have dl:=AK an af.size;have b8:(i:Int)<2:=by omega
   clear q1 q2 q3 q4 q5 q6 ar C ad t a2;generalize tB i=bl at *;go_wp2_with (go_at_call 47;refine b2.mono ?_;rintro e w3 ⟨rfl,J,bd,be,bc,P,U,r3,-⟩;have R:=Hd (And.intro P (And.intro U r3));clear P U r3)
   go_roundw
   case rel=>exact⟨i+1,_,_,_,_,mR,mY,Hd ⟨R.1,R.2.1,by have:=R.2.2;omega⟩⟩
   case measure=>simp[intOf];omega
  ·obtain rfl:i=2:=by omega
   have b8:¬(((2:Nat):Int)<2):=by decide
   have C:=UJ t (Nat.succ_pos _) 0 (fun _ _=>Y6) (MT hi);rw[decide_eq_true ⟨Int.le_refl _,mR,mT⟩]at C;have az:=Hd (ZJ t a2 rfl C Xe (MT hi) (AF _) mR (k:=10) (r:=[]) rfl);clear C t a2;go_wp2_with (first
    | (go_at_call 48;refine az.mono ?_;rintro e w3 ⟨rfl,J,bd,be,bc,P,U,-⟩;have R:=Hd P;have T:=Hd U;have a4:=Hd (a0.trans (P.base.mono a0.size));have ay:=Hd (TG (HM.later a4));clear P U)
    | (go_at_call 8;refine ay.mono ?_;rintro e w4 ⟨bb,rfl,aj,-,a7⟩;have ax:=Hd aj;have a1:=Hd (R.later a7);have l:=Hd (a4.trans (a7.mono a4.size));clear aj a7)
    | (go_at_call 49;refine(lS a1).mono ?_;rintro e w5 ⟨rfl,rfl⟩))
   have a9:∀p∈J,p.1∈Gr:=fun p j=>by have h:=List.mem_map_of_mem (f:=(·.1)) j;rw[T.out]at h;exact h
   have ak:J.length=11:=by have h:=congrArg List.length T;rw[lM]at h;exact h
   obtain⟨k1,k2⟩:=Yu;have aa:∀p∈J,p.1.kids.length<=2:=fun p j=>of_decide_eq_true (List.all_eq_true.1 k2 _ (a9 p j))
   obtain⟨p,j,ab⟩:∃p:Nd×nU,J[10]?=nJ p/\p.1=⟨39,-1,0,[8,9],false,false⟩:=by
    have h:(J.map (·.1))[10]?=nJ ⟨39,-1,0,[8,9],false,false⟩:=by rw[T.out];rfl
    rw[pG]at h;exact Option.map_eq_some_iff.1 h
   have aq:=QU ax (a1.tree.Tt mR (fun _ h=>h) fun p j=>by have:=aa p j;omega) T Yx mT (fun p j=>⟨by have:=aa p j;omega,Tl (a1.tree.kids p j)⟩) (fun p j ba hj=>by rw[ak];exact of_decide_eq_true (List.all_eq_true.1 (List.all_eq_true.1 k1 _ (a9 p j)) ba hj)) j (vb:=vb) (nv:=2) (cv:=cv) (fb:=fun _=>true)
    (fun _ q x o=>by
     have o:([⟨3,0,-1,[],true,true⟩,⟨5,1,-1,[],true,true⟩]:List Nd)[q]?=nJ x:=by rw[<-lG];exact o
     have hq:=(sG.1 o).1;have hc:q=0\/q=1:=by simp at hq;omega
     rcases hc with rfl|rfl
     ·cases o
      refine⟨0,rfl,mT,1,0,_,_,_,_,_,ah.later l,fun y I=>?_⟩;have I:=l.trans (I.mono l.size);exact(Sg (k:=3) (b3.later I) (b0.later I) mT mT mT mT).mono fun e w' ⟨h1,h2⟩=>⟨by rw[h1];rfl,h2⟩
     ·cases o
      exact⟨1,rfl,mT,4,0,_,_,_,_,_,b5.later l,fun y I=>cS⟩)
    (fun _=>⟨8,by rw[ab];rfl,fun y mb I h1 h2=>Yb h1 h2 T (ah.later (l.trans (I.mono l.size)))⟩)
   have au:KH Gr OG (fun _=>true) p.1.sym:=⟨fun k hk x o=>aX x (mG o),fun _ _=>rfl,by rw[ab];exact PD.1.symm⟩
   have b1:=Hd aq;have b4:=Hd au;have a5:=Hd (HX.below (a1.base) HX.lt);clear aq au j ab aa k1 k2 ak a9;refine b1.mono ?_;rintro e w6 (⟨-,v,⟨g,A4,c4,c,AO,cO,hv,hr,hg,a8⟩,rfl⟩|⟨hn,-⟩)
   case inr=>exact absurd b4 hn
   cases hv
   have ai:=Hd (a5.below a8 a5.lt);have ae:=Hd (l.trans (a8.mono l.size));have HR:=Hd (And.intro hr (AY l.size hg));have b6:=Hd (AK a5.lt hg);clear hr hg a8;obtain⟨v0,v1,v2,v3,v4,v5,v6,v7,v8,v9,f0,f1,f2,f3,f4,f5,f6,f7,f8,f9,vl⟩:=EV ai;go_wp2_with fail
   obtain⟨hl,hc⟩:=G5 (k:=1) (s:=⟨#[]⟩) (b:=false) (c:=false) (A1:=AO) (n1:=1) (c1:=cO) (A2:=nK) (n2:=0) (c2:=0) (A3:=nK) (n3:=0) (c3:=0) (A4:=nK) (n4:=0) (c4:=0) (A5:=nK) (n5:=0) (c5:=0) (A6:=nJ ⟨g,0,nK⟩) (n6:=1) (c6:=c) ai;exact bodyPost_ret (KV rfl rfl hl) rfl ⟨_,⟨g,A4,c4,c,AO,cO,rfl,HR.1.Ay hc (fun e=>by have:=b6.out;omega),HR.2,ae.trans (hc.below ae.size fun b hb o=>by omega)⟩,rfl⟩
theorem Ua:∀(xs:List (List nU)) (j i:Nat),(∀c∈xs,c.length=5)->i<5->xs.flatten[j*5+i]?=(xs[j]?).bind (·[i]?)
 | [],j,i,_,_=>by simp
 | x::xs,0,i,h,l=>by have:=h x List.mem_cons_self;rw[List.flatten_cons,Nat.zero_mul,Nat.zero_add,gL mR];rfl
 | x::xs,j+1,i,h,l=>by have p:=h x List.mem_cons_self;rw[List.flatten_cons,List.getElem?_append_right mR,show (j+1)*5+i-x.length=j*5+i by omega,Ua xs j i (fun c o=>h c (List.mem_cons_of_mem _ o)) l];rfl
def Gw.len{y:nS}{x:Int}{cs:List nU}(h:Gw y x cs):cs.length=5:=by rcases h with⟨-,rfl⟩|⟨b,s,rfl,-⟩<;>rfl
def Hf.val{y:nS}{l:List Int}{n c:Nat}(h:Hf w y l n (nC A n c))(hl:l.length=n){j:Nat}{x:Int}(R:l[j]?=nJ x):∃vb,A=nJ ⟨vb,0,nK⟩/\((x=5/\GB y (nC A n c) j 4 0 nK 0 0 ⟨#[]⟩ ⟨#[104,10]⟩)\/∃b s,GB y (nC A n c) j 1 0 (nJ ⟨b,0,nK⟩) 1 1 ⟨#[]⟩ ⟨#[104,10]⟩/\Hk y (nJ ⟨b,0,nK⟩) s/\((x=1/\s=⟨#[119]⟩)\/(x=3/\s=⟨#[102]⟩))):=by
 obtain⟨C,h1,I,J⟩:=h.row;have hj:=(sG.1 R).1;have T:∀p∈C,p.length=5:=fun p t=>by obtain⟨k,hk,rfl⟩:=List.mem_iff_getElem.1 t;exact(J k _ _ (eG mR) (eG hk)).len
 obtain⟨p,t⟩:∃p,C[j]?=nJ p:=⟨_,eG mR⟩
 rcases Bg I with⟨e,h0⟩|⟨vb,c',e,-,P,-⟩
 ·omega
 ·cases e
  have o:∀i,i<5->nQ y ⟨vb,j*5+i,nK⟩=p[i]?:=fun i U=>by rw[Bb I (j*5+i) mR,Ua C j i T U,t];rfl
  refine⟨vb,rfl,?_⟩;rcases J j x p R t with⟨rfl,rfl⟩|⟨b,s,rfl,hp,hs⟩
  ·exact .inl ⟨rfl,vb,_,_,rfl,mR,P,o 0 mT,o 1 mT,o 2 mT,o 3 mT,o 4 mT⟩
  ·exact .inr ⟨b,s,⟨vb,_,_,rfl,mR,P,o 0 mT,o 1 mT,o 2 mT,o 3 mT,o 4 mT⟩,hp.lit,hs⟩
def QQ{tb:Nat}(hm:FI w)(hT:Ip w)(h:GH w tb)(a6:tb<w.heap.size):() 6 #[(tb,0)] w fun e w'=>e=nP (nI true)/\Below w w w':=by
 have p:=AE w (nO #[nE nM 3,nE nM 5] 3);have l:=Ah.new w 3 #[nE nM 3,nE nM 5];have a0:=Qu (w:=w.alloc (nO #[nE nM 3,nE nM 5] 3)) (A:=nJ ⟨w.heap.size,0,nK⟩) (n:=2) (c:=2) (l:=[3,5]) rfl mT mV (fun a3 x hx=>⟨w.heap.size,0,rfl,l.lt,by
  have hj:=(sG.1 hx).1;have J:a3=0\/a3=1:=by simp at hj;omega
  rcases J with rfl|rfl<;>cases hx
  ·exact l.cell 0
  ·exact l.cell 1⟩)
 have a5:=Hd a0;have a7:=Hd p;have a4:Hid (∀(y:nS) (A:Option Addr) (c:Nat),Hf (w.alloc (nO #[nE nM 3,nE nM 5] 3)) y [3,5] 2 (nC A 2 c)->Below w w y/\∃o,A=nJ ⟨o,0,nK⟩/\() 18 #[(tb,0),nC (w,0) 2 2,nC (nJ ⟨o,0,nK⟩) 2 c] y (OY y)):=Hd fun y A c j=>by
  have i:=p.trans (j.be.mono p.size);have P:=l.below j.be l.lt;obtain⟨o,rfl,I|⟨b,s,h1,h2,C⟩⟩:=j.val rfl (j:=0) (x:=3) rfl
  ·exact absurd I.1 mT
  obtain⟨a8,e2,I|⟨b2,s2,-,-,h5⟩⟩:=j.val rfl (j:=1) (x:=5) rfl
  ·refine⟨i,o,rfl,aE (hm.later i) (hT.later i) (h.later i) (AK a6 i.size) P.lt (fun a2 hi=>?_) h1 ?_ I.2⟩
   · have J:a2=0\/a2=1:=by omega
     rcases J with rfl|rfl
     ·exact P.cell 0
     ·exact P.cell 1
   · rcases C with C|⟨-,rfl⟩
     ·exact absurd C.1 mT
     ·exact h2
  ·omega
 clear a0 p l hm hT h;go_enter func6,ntmps6
 go_wp2_with (first
  | (
    go_at_call 14;refine a5.mono ?_;rintro e w2 ⟨A,c,rfl,j⟩
    obtain⟨i,o,rfl,U⟩:=a4 w2 A c j;have HN:=Hd U;have R:=Hd i;clear i U j)
  | (
    go_at_call 18;refine HN.mono ?_;rintro e w3 ⟨v,⟨g,A4,c4,c,AO,cO,hv,t,hg,a1⟩,rfl⟩
    cases hv
    have r0:=t.2 0 _ rfl;have r6:=t.2 6 _ rfl;have rl:=t.1;have T:=Hd (R.trans (a1.mono R.size));clear t hg a1))
 go_ret;exact⟨rfl,T.alloc T.size _⟩
def Um{o:nS}(h:Cx o w rb T){k:Int}(i:¬(0<=k/\k<T.length)):() 33 #[(rb,0),k] w fun e w'=>e=nP (nI false)/\w'=w:=by
 have j:=Hd (Q0 h);clear h;generalize T.length=n at *;by_cases h0:0<=k
 ·have l:¬(k<(n:Int)):=fun h=>i ⟨h0,h⟩
  clear i;go_enter func33,ntmps33
  go_wp2_with (go_at_call 65;refine j.mono ?_;rintro e p ⟨rfl,rfl⟩)
  go_ret;exact⟨by rw[decide_eq_false (Int.not_lt.2 l)];rfl,rfl⟩
 ·clear i
  go_enter func33,ntmps33
  go_wp2_with (go_at_call 65;refine j.mono ?_;rintro e p ⟨rfl,rfl⟩)
  go_ret;exact⟨rfl,rfl⟩
def Z7{w0:nS}(h:Cx w0 w rb T)(o:GN w v pz){k:Int}(p:¬(0<=k/\k<T.length)):() 38 #[(rb,0),v,k] w fun e w'=>e=nP (nI false)/\Below w w w':=by
 have J:=Hd fun y (hy:Below w w y)=>Um (h.later hy) p
 obtain⟨I,U,t,P,C,R,rfl,-,-⟩:=o.open_;have l:=((AE w (nO #[(rb,0)] 35)).alloc mV (nO #[nC I pz.nt U,nC t pz.nn P,nC C pz.R.length R,pz.s] 58)).alloc mX (nO #[nI false] 4);have j:=Hd l;clear h o p l;generalize pz.nt=nt,pz.nn=nn,pz.R.length=nr,(pz.s:Int)=gs at *;go_enter func38,ntmps38
 go_wp2_with (go_at_call 33;refine(J _ j).mono ?_;rintro e w1 ⟨rfl,i⟩;have i:=i.symm;subst i)
 refine bodyPost_ret (Jl rfl rfl (a:=⟨w.heap.size+1+1,0,nK⟩) (v:=nI false) ?_) rfl ⟨rfl,j⟩;go_simp
def V5{w0:nS}{s r:Int}(h:Cx w0 w rb T)(h1:T.length=1)(a4:∀p∈T,p.1.below=false){n c:Nat}(ak:n≠0)(al:n<=c)(hc:c<=maxLen)(hl:∀k,k<n->∃b off,A=nJ ⟨b,off,nK⟩/\b<w.heap.size/\∃x:Int,nQ w ⟨b,off+k,nK⟩=nJ (nE nM x)/\(n=1->x≠0)) :
  () 13 #[(rb,0),s,r,nC A n c] w fun e w'=>e=nP (nE nM (-1))/\w'=w:=by
 have a3:=Hd fun(k:Int) hk=>Um h (k:=k) hk
 have a2:Hid (() 33 #[(rb,0),nE nM 0] w fun e w'=>e=nP (nI true)/\w'=w):=Hd (by have h:=Vb h 0;rwa [decide_eq_true mR]at h);obtain⟨av,U,t⟩:=h.box;obtain⟨p,hp⟩:∃p,T[0]?=nJ p:=⟨_,eG mR⟩
 have a6:=a4 p (mG hp);rw[h1]at t;rw[h1]at a3;obtain⟨j,o,rfl,ag,t0⟩:∃j o,av=nC (nJ ⟨j,0,nK⟩) 1 o/\j<w.heap.size/\nQ w ⟨j,5,nK⟩=nJ (nI false):=by
  rcases Bg t with⟨-,e⟩|⟨j,o,e,-,ab,-⟩
  ·omega
  ·subst e
   refine⟨j,o,rfl,ab,?_⟩;rw[Bb t 5 mR];have:=Ns hp (j:=5) mT;rw[show 0*6+5=5 from rfl]at this;rw[this];simp[Nd.cells,a6]
 have x0:=Ah.cell U 0;have xl:=U.lt;simp at x0;have HL:=Hd hl;clear h a4 U t hp a6 hl;have an:(0:Int)<(n:Int):=by omega
 go_enter func13,ntmps13
 go_wp2_with fail
 go_loopw [17] (fun ii wr=>∃i:Nat,ii=nE nM i/\wr=w/\Hid (i=0\/(i=1/\2<=n/\∃b off,A=nJ ⟨b,off,nK⟩/\b<w.heap.size/\nQ w ⟨b,off,nK⟩=nJ (nE nM 0)))) (fun ii _=>2-(intOf ii).toNat)
 case atStart=>exact⟨0,rfl,rfl,Hd (.inl rfl)⟩
 case round=>
  obtain⟨i,rfl,a7,R⟩:=hrel;have ae:=a7.symm;subst ae;clear a7;have aa:i<n:=by rcases R.out with h|⟨h,h2,-⟩<;>omega
  have aj:(i:Int)<(n:Int):=by omega
  obtain⟨b,off,rfl,a9,x,d0,I⟩:=HL i aa;by_cases hx:x=0
  ·subst hx
   have ai:(i:Int)<=(c:Int):=by omega
   have a5:i=0\/i=1:=by rcases R.out with h|⟨h,-⟩<;>omega
   have a0:Bv w (nC (nJ ⟨b,off,nK⟩) i c) (List.replicate i 0):=⟨⟨_,c,by rw[List.length_replicate],fun af y hy=>by
    rcases R.out with h|⟨h,-,b',ao,e,h2,h3⟩
    ·subst h;cases hy
    ·subst h
     cases e
     have hj:=(sG.1 hy).1;rw[List.length_replicate]at hj;obtain rfl:af=0:=by omega
     cases hy
     exact⟨_,_,rfl,h2,h3⟩⟩,by rw[List.length_replicate];omega,fun A' n' c' e=>by
    cases e
    exact⟨mR,fun e=>by cases e⟩⟩
   have l:=Mt a0 (by rw[List.length_replicate];omega) 0;by_cases C:i=0
   ·rw[decide_eq_false (by rw[C];simp)]at l
    have P:Hid (() 34 #[nC (nJ ⟨b,off,nK⟩) i c,nE nM 0] w fun e w'=>e=nP (nI false)/\w'=w):=Hd l;have a1:=Hd C;have ad:2<=n:=by
     by_cases h:n=1
     ·exact absurd rfl (I h)
     ·omega
    have HD:=Hd (show nQ w ⟨b,off,nK⟩=nJ (nE nM 0) by rw[C]at d0;exact d0);have ah:i<=1:=by omega
    clear l a0 C a5 I;go_wp2_with (first
     | (go_at_call 33;refine a2.mono ?_;rintro e J ⟨rfl,rfl⟩)
     | (go_at_call 34;refine P.mono ?_;rintro e J ⟨rfl,rfl⟩))
    go_roundw
    case rel=>exact⟨i+1,mY,trivial,Hd (.inr ⟨by rw[a1.out],ad,b,off,rfl,a9,HD⟩)⟩
    case measure=>have:=a1.out;simp[intOf];omega
   ·rw[decide_eq_true (by rw[show i=1 by omega];simp)]at l
    have P:Hid (() 34 #[nC (nJ ⟨b,off,nK⟩) i c,nE nM 0] w fun e w'=>e=nP (nI true)/\w'=w):=Hd l;clear l a0 a5 I;go_wp2_with (first
     | (go_at_call 33;refine a2.mono ?_;rintro e J ⟨rfl,rfl⟩)
     | (go_at_call 34;refine P.mono ?_;rintro e J ⟨rfl,rfl⟩))
    go_ret;exact⟨rfl,rfl⟩
  ·have a8:=Hd (a3 x mR)
   clear I;go_wp2_with (go_at_call 33;refine a8.mono ?_;rintro e J ⟨rfl,rfl⟩)
   go_ret;exact⟨rfl,rfl⟩
