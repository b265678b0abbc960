/- . -/
import Derived.Test.YtiljpamcmmeflaaGreatDoorXbg
set_option linter.all false
set_option maxRecDepth 100000
set_option maxHeartbeats 16000000
namespace Go.Proofs.YtiljpamcmmeflaaGreatDoor
open Go.RowKit Go.Proofs.Tryz
open Value renaming slice→nC,int→nE,pointer→nF,bool→nI
open Option renaming some→nJ,none→nK
open IntKind renaming i64→nM
open Obj renaming cells→nO
open Ending renaming returned→nP
open World renaming cell?→nQ
open Go renaming World→nS,Value→nU
variable{W j w w':nS}{B i rb steps tb:Nat}{st:List Nat}{T:List (Nd×nU)}{nv sv:nU}{o:It×CU}{ov:Bool}{L:List TypeId}
def PM(k n:Int)(w:nS):(Instr.field 158 (.agg #[k,n]) 0).run Tryz.prog w=.ok k w:=by kernel_rfl
def UJ{w0:nS}{p:Nat}{ns:List Nat}(h:Cz w0 w p tb rb st ns T false steps sv nv)(h0:0<st.length)(t:Int){f:Nat}{a:It}(R:0<=t->t<=pz.nt->Gh pz Bi Ch t.toNat f st=nJ a)(U:∀s∈st,s<Bi.length) :
  () 88 #[(p,0),t] w fun e w'=>e=nP (nI (decide (0<=t/\t<=pz.nt/\a.1≠0)))/\Below w w w':=by
 obtain⟨AT,nT,cT,AN,nN,cN,AR,nR,cR,gs,Ar,cr,nn,Aa,na,ca,Ag,ng,cg,J,-,-,-⟩:=(h.Hr.later h.base).use;have j:=h.box;have x0:=Ah.cell j 0;have x4:=Ah.cell j 4;have xl:=j.lt;have t5:=Ah.cell J 5;have tl:=J.lt;simp at x0 x4 t5;have HL:Hid (0<=t->t<=pz.nt->() 127 #[(p,0),t] w fun e w'=>e=nP (.agg #[a.1,a.2])/\Below w w w'):=Hd (fun C P=>by have I:=eX h h0 (t:=t.toNat) mR (R C P) U;rwa [Int.toNat_of_nonneg C]at I)
 clear h j J R U;generalize pz.nt=nt at *;by_cases C:t<0
 ·rw[decide_eq_false mR]
  go_enter func88,ntmps88
  go_wp2_with fail
  go_ret;exact⟨rfl,Below.refl _ _⟩
 by_cases P:(nt:Int)<t
 ·rw[decide_eq_false mR]
  go_enter func88,ntmps88
  go_wp2_with fail
  go_ret;exact⟨rfl,Below.refl _ _⟩
 have o:=Hd (HL mR mR);by_cases I:a.1=0
 ·rw[decide_eq_false mR]
  rw[I]at o;have a0:=PM 0 a.2;go_enter func88,ntmps88
  go_wp2_with (go_at_call 127;refine o.mono ?_;rintro e w1 ⟨rfl,i⟩;have l:=Hd i;clear i)
  go_ret;exact⟨rfl,l⟩
 ·rw[decide_eq_true mR]
  have h4:((a.1:Int) != 0)=true:=by simp;omega
  have a0:=PM a.1 a.2;go_enter func88,ntmps88
  go_wp2_with (go_at_call 127;refine o.mono ?_;rintro e w1 ⟨rfl,i⟩;have l:=Hd i;clear i)
  go_ret;exact⟨rfl,l⟩
def lS{p:nS}{j:List Nat}{l:Bool}{o:nU}(h:Cz p w i tb rb st j T l steps o nv) :
  () 49 #[(i,0)] w fun e w'=>e=nP (rb,0)/\w'=w:=by
 have t:=Ah.cell h.box 3;have C:=h.box.lt;simp at t;clear h;go_enter func49,ntmps49
 go_wp2;go_ret;exact⟨rfl,rfl⟩
def FA(w w':nS)(j nv:nU):Prop:=∀B n v i,w.ownsRow B 3 1 v n i->(∀b,v.ownBlock=nJ b->j.ownBlock≠nJ b/\nv.ownBlock≠nJ b)->w'.ownsRow B 3 1 v n i
theorem Ky{n:Nat}{e:TypeId}{s:Nat}{v i:nU}{xs:List nU}(h:w.ownsRow B e s v n xs)(j:w.grownBy w' i.ownBlock)(l:∀b,v.ownBlock=nJ b->i.ownBlock≠nJ b):w'.ownsRow B e s v n xs:=by
 refine h.kept j ?_;cases o:v.ownBlock with
 | none=>exact .inl rfl
 | some b=>exact .inr fun e=>l b o e.symm
def Cz.Z4{P:nS}{t:Nat}{U:List Nat}{q:Nat}{R v':nU}(h:Cz P W t tb rb st U T ov steps R nv)(q1:j.ownsRow P 3 1 v' (st.length+1) (st.reverse.map AS++[AS q]))(I:AI P [3] W j)(J:W.grownBy j R.ownBlock/\(v'.ownBlock=R.ownBlock\/v'.ownBlock=nJ W.heap.size))(hf:st.length+1<=10000) :
  Cz P (j.setCell (t,1) v') t tb rb (q::st) U T ov steps v' nv/\FA W (j.setCell (t,1) v') R nv:=by
 have i:=I.Ap h.box (.inr mT);have o:AI P [175] j (j.setCell (t,1) v'):=(AI.refl _ _ j).EF i h.lo mV 1 _;obtain⟨av,t1,t2⟩:=h.tree.box;refine⟨⟨by simpa using i.AW 1 v',⟨⟨av,o.Ap (I.Ap t1 (.inr mT)) (.inr mT),Ce (Ce t2 I mT) o mT⟩,fun p C=>Ce (Ky (h.tree.kids p C) J.1 fun b i=>h.JA p C b i) o mT,h.tree.lo,h.tree.B7⟩,by simpa using Ce q1 o mT,Ce (Ky h.nodes J.1 fun b i e=>h.ap b e i) o mT,fun p C b i e=>?_,h.JU,fun b i e=>?_,h.lo,h.Hr,(h.base.trans (I.below h.base.size)).trans (o.below (AY h.base.size I.size)),h.lt,by simpa using hf,h.B7.2⟩,fun B n v xs hv a0=>Ce (Ky hv J.1 fun b i=>(a0 b i).1) o mT⟩
 ·rcases J.2 with l|l
  ·exact h.JA p C b i (l.symm.trans e)
  ·rw[l]at e
   have:=(BR (h.tree.kids p C) b i).1;cases e
   omega
 ·rcases J.2 with l|l
  ·exact h.ap b (l.symm.trans i) e
  ·rw[l]at i
   have:=(BR h.nodes b e).1;cases i
   omega
def Cz.gP{R:nS}{t:Nat}{I:List Nat}{q:Nat}{U v':nU}(h:Cz R W t tb rb st I T ov steps U nv)(q1:j.ownsRow R 3 1 v' (I.length+1) (I.reverse.map AS++[AS q]))(J:AI R [3] W j)(P:W.grownBy j nv.ownBlock/\(v'.ownBlock=nv.ownBlock\/v'.ownBlock=nJ W.heap.size))(hf:I.length+1<=10000) :
  Cz R (j.setCell (t,2) v') t tb rb st (q::I) T ov steps U v'/\FA W (j.setCell (t,2) v') U nv:=by
 have i:=J.Ap h.box (.inr mT);have o:AI R [175] j (j.setCell (t,2) v'):=(AI.refl _ _ j).EF i h.lo mV 2 _;obtain⟨av,t1,t2⟩:=h.tree.box;refine⟨⟨by simpa using i.AW 2 v',⟨⟨av,o.Ap (J.Ap t1 (.inr mT)) (.inr mT),Ce (Ce t2 J mT) o mT⟩,fun p C=>Ce (Ky (h.tree.kids p C) P.1 fun b i=>h.JU p C b i) o mT,h.tree.lo,h.tree.B7⟩,Ce (Ky h.Ht P.1 fun b i=>h.ap b i) o mT,by simpa using Ce q1 o mT,h.JA,fun p C b i e=>?_,fun b i e=>?_,h.lo,h.Hr,(h.base.trans (J.below h.base.size)).trans (o.below (AY h.base.size J.size)),h.lt,h.B7.1,by simpa using hf,h.B7.2.2⟩,fun B n v xs hv a0=>Ce (Ky hv P.1 fun b i=>(a0 b i).2) o mT⟩
 ·rcases P.2 with l|l
  ·exact h.JU p C b i (l.symm.trans e)
  ·rw[l]at e
   have:=(BR (h.tree.kids p C) b i).1;cases e
   omega
 ·rcases P.2 with l|l
  ·exact h.ap b i (l.symm.trans e)
  ·rw[l]at e
   have:=(BR h.Ht b i).1;cases e
   omega
def Cz.grow{l:nS}{I:Nat}{P:List Nat}{T':List (Nd×nU)}{R:Bool}{U:nU}(h:Cz j W I tb rb st P T R steps U nv)(ht:Cx j l rb T')(i:AI j [84,80] W l)(J:∀p∈T',∀b,p.2.ownBlock=nJ b->∃q∈T,q.2.ownBlock=nJ b):Cz j l I tb rb st P T' R steps U nv:=
 ⟨i.Ap h.box (.inr mT),ht,Ce h.Ht i mT,Ce h.nodes i mT,fun p t b o=>by obtain⟨q,C,e⟩:=J p t b o;exact h.JA q C b e,fun p t b o=>by obtain⟨q,C,e⟩:=J p t b o;exact h.JU q C b e,h.ap,h.lo,h.Hr,h.base.trans (i.below h.base.size),h.lt,h.B7⟩
def Cz.step{l:nS}{o:List Nat}{p:Bool}{t:nU}(h:Cz l W i tb rb st o T p steps t nv)(C:steps<1000000) :
  Cz l (W.setCell (i,5) (nE nM ((steps:Int)+1))) i tb rb st o T p (steps+1) t nv/\AI l [175] W (W.setCell (i,5) (nE nM ((steps:Int)+1))):=by
 have j:AI l [175] W (W.setCell (i,5) (nE nM ((steps:Int)+1))):=(AI.refl _ _ W).EF h.box h.lo mV 5 _;exact⟨⟨by simpa using h.box.AW 5 (nE nM ((steps:Int)+1)),h.tree.keeps j mT mT mT,Ce h.Ht j mT,Ce h.nodes j mT,h.JA,h.JU,h.ap,h.lo,h.Hr,h.base.trans (j.below h.base.size),h.lt,h.B7.1,h.B7.2.1,C⟩,j⟩
def Cz.overs{l:nS}{o:List Nat}{t:Bool}{p:nU}(h:Cz l W i tb rb st o T t steps p nv) :
  Cz l (W.setCell (i,4) (nI true)) i tb rb st o T true steps p nv/\AI l [175] W (W.setCell (i,4) (nI true)):=by
 have j:AI l [175] W (W.setCell (i,4) (nI true)):=(AI.refl _ _ W).EF h.box h.lo mV 4 _;exact⟨⟨by simpa using h.box.AW 4 (nI true),h.tree.keeps j mT mT mT,Ce h.Ht j mT,Ce h.nodes j mT,h.JA,h.JU,h.ap,h.lo,h.Hr,h.base.trans (j.below h.base.size),h.lt,h.B7⟩,j⟩
def FA.keeps{i:nU}(h:FA w w' i nv)(o:AI B L w' j)(l:3 ∉ L):FA w j i nv:=fun B n v C t p=>Ce (h B n v C t p) o l
def FA.of{o:nU}(j:AI B L w w')(i:3 ∉ L):FA w w' o nv:=fun _ _ _ _ l _=>Ce l j i
def FA.then{C:nS}{i t p:nU}(h:FA w w' i nv)(J:FG w i t)(P:FG w nv p)(R:FA w' C t p):FA w C i nv:=fun B n v I o l=>R B n v I (h B n v I o l) fun b j=>by
 have a0:=(BR o b j).1;obtain⟨T,U⟩:=l b j;refine⟨fun e=>?_,fun e=>?_⟩
 ·rcases J b e with h|h
  ·exact T h
  ·omega
 ·rcases P b e with h|h
  ·exact U h
  ·omega
def CU.push(c:CU)(t l q:Nat):CU:=⟨q::c.st,c.tr.length::c.ns,c.tr++[⟨t,l,-1,[],true,false⟩]⟩
def QS(J w:nS)(t tb rb:Nat)(T:List (Nd×nU))(I:Bool)(C:Nat)(o nv:nU)(c:CU)(w':nS):Prop:=∃i l p j,Cz J w' t tb rb c.st c.ns i I l p j/\i.map (·.1)=c.tr/\l<=C/\FA w w' o nv/\FG w o p/\FG w nv j/\Lg w T i
def kJ{P:nS}{c:CU}{T0:List (Nd×nU)}(h:Cz P w i tb rb c.st c.ns T0 false steps sv nv)(hT:T0.map (·.1)=c.tr)(h1:c.st.length=c.ns.length+1){t f ak l:Nat}(cj:0<t)(ht:t<=pz.nt)(hc:() 88 #[(i,0),t] w fun e w'=>e=nP (nI true)/\Below w w w')(hz:Gq pz Bi Ch t f c=nJ o)(bl:∀s∈c.st,s<Bi.length)(c7:steps+f<=ak)(be:ak<=900000)(bn:o.2.st.length<=9000/\o.2.ns.length<=9000/\o.2.tr.length<=90000) :
  () 47 #[(i,0),t,l] w fun e w'=>e=nP (nE nM 0)/\QS P w i tb rb T0 false (ak+1) sv nv (o.2.push t l o.1.2) w':=by
 obtain⟨AT,nT,cT,AN,nN,cN,AR,nR,cR,gs,Ar,cr,nn,Aa,na,ca,Ag,ng,cg,av,-,-,-⟩:=(h.Hr.later h.base).use;have hE:=h.box;have x0:=Ah.cell hE 0;have x4:=Ah.cell hE 4;have xl:=hE.lt;have t5:=Ah.cell av 5;have tl:=av.lt;simp at x0 x4 t5;have HC:=Hd hc;have bz:Hid (∀y,Below w w y->() 89 #[(i,0),t] y (MI P y i tb rb T0 false ak sv nv o)):=Hd (fun y U=>Ub (h.later U) hT (AY h.base.size U.size) h1 ht hz bl c7 be);have au:=Hd bn;have HW:=Hd h.base.size;have HL:=Hd be;clear h hE av hc hT h1 hz bl bn
 generalize pz.nt=nt at *;have h1:¬((t:Int)<1):=by omega
 have h2:¬((nt:Int)<(t:Int)):=by omega
 go_enter func47,ntmps47
 go_upto_region 10 with(first
  | (go_at_call 88;(with_reducible refine HC.out.mono ?_);rintro e w1 ⟨rfl,p⟩;have b2:=Hd p;have bv:=Hd (bz _ p);clear p)
  | (
    go_at_call 89;(with_reducible refine bv.out.mono ?_);rintro e w2 ⟨rfl,T1,b1,cc,cb,bb,a6,bk,bd,bf,bh,bi⟩
    have bq:=Hd bb;have ba:=Hd a6;have b9:=Hd bk;have b4:=Hd bd;have br:Hid (FG w1 sv cc/\FG w1 nv cb/\Lg w1 T0 T1):=Hd ⟨bf,bh,bi⟩;clear bb a6 bk bd bf bh bi))
 have a9:=Hd (Ah.new w2 158 #[o.1.1,o.1.2]);have al:=Hd (AE w2 (nO #[o.1.1,o.1.2] 158));have ae:=Hd (bq.later al);generalize w2.alloc (nO #[o.1.1,o.1.2] 158)=R at *;generalize w2.heap.size=a3 at a9 ⊢;obtain⟨As,cs,bm⟩:=CS ae.Ht;obtain⟨C,ay⟩:∃n,o.2.st.length=n:=⟨_,rfl⟩
 rw[ay]at bm;subst bm;have ar:=Hd ay;have cf:C<=9000:=by have:=au.out;omega
 have aa:Hid (∀y,Below R R y->(fun y:nS=>(nQ y (i,1)=nJ (nC As C cs)/\i<y.heap.size)/\nQ y (a3,1)=nJ (nE nM o.1.2)/\a3<y.heap.size) y):=Hd (fun y U=>by have T:=ae.box.below U ae.box.lt;have e2:=a9.below U a9.lt;exact⟨⟨T.cell 1,T.lt⟩,e2.cell 1,e2.lt⟩)
 clear x0 x4 xl t5 tl ay;refine CO 11 (fun y:nS=>(nQ y (i,1)=nJ (nC As C cs)/\i<y.heap.size)/\nQ y (a3,1)=nJ (nE nM o.1.2)/\a3<y.heap.size) mU ?_;have ab:(fun y:nS=>(nQ y (i,1)=nJ (nC As C cs)/\i<y.heap.size)/\nQ y (a3,1)=nJ (nE nM o.1.2)/\a3<y.heap.size) R.drew:=aa _ (Below.refl _ _).drew;refine FE [0,1,2,3,4,5,6] ab ?_;clear ab;have a1:Hid (Below R R (R.alloc (nO #[o.1.2] 3)).drew):=Hd (AE R _).drew;refine Be 7 mU rfl rfl (fun K j=>?_)
 go_simp;refine j _ _ (fun _=>aa _ a1) ?_;clear j K;refine Co 8 mU rfl rfl rfl (fun K j=>?_);have af:=Hd (ae.later a1);refine Dt GW (.tmp 43) (.tmp 46) rfl (base:=P.heap.size) (n:=C) (m:=1) (N:=C+1) (v:=nC As C cs) (src:=nC (R,0) 1 1) (xs:=o.2.st.reverse.map AS) (news:=[AS o.1.2]) rfl rfl (by have h:=af.Ht;rwa [ar.out]at h) (Ba.Ap (c:=1) (Ah.drew (Ah.new R 3 _)) rfl (by simp[AS,Value.oneCell'])) rfl mW mR af.base.size ?_;intro A5 c5 w5 q1 q2 q3;have HP:=Hd (af.Z4 (q:=o.1.2) (v':=nC A5 (C+1) c5) (by rw[ar.out];exact q1) q2 q3 (by rw[ar.out];omega))
 have bt:=Hd q3.2;have a7:=q2.Ap af.box (.inr mT);have ha5:=q2.Ap (a9.below a1 a9.lt) (.inr mT);have ai:(fun y:nS=>(nQ y (i,1)=nJ (nC As C cs)/\i<y.heap.size)/\nQ y (a3,1)=nJ (nE nM o.1.2)/\a3<y.heap.size) w5:=⟨⟨a7.cell 1,a7.lt⟩,ha5.cell 1,ha5.lt⟩
 have b7:=Hd q2;have x1:=Ah.cell a7 1;have f1:=Ah.frozen a7 1;have xl:=a7.lt;simp at x1;clear q1 q2 q3 a7 ha5;refine j _ _ (fun _=>ai) ?_;clear j K;simp only[AD,AA];refine Be 9 mU rfl rfl (fun K j=>?_);go_simp;refine j _ _ (fun _=>ai) ?_;clear j K;refine Be 10 mU rfl rfl (fun K j=>?_);go_simp;refine j _ _ (fun _=>ai) ?_;clear j K;refine Be 11 mU rfl rfl (fun K j=>?_);go_simp;refine j _ _ (fun h=>absurd rfl h) ?_;clear j K;refine CI mU ?_ _;go_upto_region 11 with fail
 have a5:=Hd HP.1;have bw:=Hd HP.2;have bp:Hid (R.heap.size<=w5.heap.size):=Hd (AY a1.size b7.size);have c8:(w5.setCell (i,1) (nC A5 (C+1) c5)).heap.size=w5.heap.size:=by simp
 clear HP b7 ai x1 f1 xl aa;generalize w5.setCell (i,1) (nC A5 (C+1) c5)=W6 at *;obtain⟨An,cn,bj⟩:=CS a5.nodes;obtain⟨I,ax⟩:∃n,o.2.ns.length=n:=⟨_,rfl⟩
 rw[ax]at bj;subst bj;have ao:=Hd ax;have cd:I<=9000:=by have:=au.out;omega
 obtain⟨tl,az⟩:∃n,o.2.tr.length=n:=⟨_,rfl⟩
 have c0:=Hd az;have a6:T1.length=tl:=by rw[<-az,<-ba.out,lM]
 have c6:=Hd a6;have ck:tl<=90000:=by have:=au.out;omega
 have b6:=Hd (TX (s:=t) (l:=l) (a5.later (Below.refl _ W6).drew).tree (a5.later (Below.refl _ W6).drew).base.size (by rw[c6.out];omega));rw[a6]at b6;have aa:Hid (∀y,Below W6 W6 y->(fun y:nS=>nQ y (i,2)=nJ (nC An I cn)/\nQ y (i,3)=nJ (nF (rb,0))/\i<y.heap.size) y):=Hd (fun y U=>by have T:=a5.box.below U a5.box.lt;exact⟨T.cell 2,T.cell 3,T.lt⟩)
 clear ax az a6;refine CO 16 (fun y:nS=>nQ y (i,2)=nJ (nC An I cn)/\nQ y (i,3)=nJ (nF (rb,0))/\i<y.heap.size) mU ?_;have ab:(fun y:nS=>nQ y (i,2)=nJ (nC An I cn)/\nQ y (i,3)=nJ (nF (rb,0))/\i<y.heap.size) W6.drew:=aa _ (Below.refl _ _).drew;refine FE [0,1,2,3,4,5,6,7,8,9,10] ab ?_;clear ab;refine Be 11 mU rfl rfl (fun K j=>?_);go_simp;refine b6.mono ?_;rintro e w7 ⟨rfl,bo,aw⟩;have bc:Cz P w7 i tb rb (o.1.2::o.2.st) o.2.ns (T1++[(⟨t,l,-1,[],true,false⟩,nC nK 0 0)]) false b1 (nC A5 (C+1) c5) (nC An I cn):=(a5.later (Below.refl _ W6).drew).grow bo aw (fun b0 J b p=>by
  rcases mA.1 J with J|J
  ·exact⟨b0,J,p⟩
  ·rw[mS.1 J]at p
   cases p)
 have an:=Hd bc;have b5:Hid (AI P [84,80] W6 w7):=Hd ((AI.AJ (Below.refl _ W6).drew).trans aw);have b8:Hid (∀y,Below w7 w7 y->(fun y:nS=>nQ y (i,2)=nJ (nC An I cn)/\nQ y (i,3)=nJ (nF (rb,0))/\i<y.heap.size) y):=Hd (fun y U=>by have T:=an.box.below U an.box.lt;exact⟨T.cell 2,T.cell 3,T.lt⟩)
 clear bo aw bc;refine j _ _ (fun _=>b8 w7 (Below.refl _ _)) ?_;clear j K;have ad:=Hd (AE w7 (nO #[tl] 3));refine Be 12 mU rfl rfl (fun K j=>?_);go_simp;refine j _ _ (fun _=>b8 _ ad) ?_;clear j K;refine Co 13 mU rfl rfl rfl (fun K j=>?_);have ag:=Hd (an.later ad);refine Dt GW (.tmp 54) (.tmp 62) rfl (base:=P.heap.size) (n:=I) (m:=1) (N:=I+1) (v:=nC An I cn) (src:=nC (w7,0) 1 1) (xs:=o.2.ns.reverse.map AS) (news:=[AS tl]) rfl rfl (by have h:=ag.nodes;rwa [ao.out]at h) (Ba.Ap (c:=1) (Ah.new w7 3 _) rfl (by simp[AS,Value.oneCell'])) rfl mW mR ag.base.size ?_
 intro A9 c9 w9 q1 q2 q3;have aq:=Hd (ag.gP (q:=tl) (v':=nC A9 (I+1) c9) (by rw[ao.out];exact q1) q2 q3 (by rw[ao.out];omega));have bu:=Hd q3.2;have a0:=q2.Ap ag.box (.inr mT);have aj:(fun y:nS=>nQ y (i,2)=nJ (nC An I cn)/\nQ y (i,3)=nJ (nF (rb,0))/\i<y.heap.size) w9:=⟨a0.cell 2,a0.cell 3,a0.lt⟩
 have x2:=Ah.cell a0 2;have f2:=Ah.frozen a0 2;have xl:=a0.lt;simp at x2;clear q1 q2 q3 a0;refine j _ _ (fun _=>aj) ?_;clear j K;simp only[AD,AA];refine Be 14 mU rfl rfl (fun K j=>?_);go_simp;refine j _ _ (fun _=>aj) ?_;clear j K;refine Be 15 mU rfl rfl (fun K j=>?_);go_simp;refine j _ _ (fun _=>aj) ?_;clear j K;refine Be 16 mU rfl rfl (fun K j=>?_);go_simp;refine j _ _ (fun h=>absurd rfl h) ?_;clear j K;refine CI mU ?_ _;have ah:=Hd aq.1;have bx:=Hd aq.2;clear aq aj x2 f2 xl
 generalize w9.setCell (i,2) (nC A9 (I+1) c9)=WA at *;have x5:=Ah.cell ah.box 5;have f5:=Ah.frozen ah.box 5;have xl:=ah.box.lt;simp at x5;have ch:(b1:Int)<=900000:=by have:=b9.out;have:=HL.out;omega
 have b3:=Hd (ah.step mR);go_wp2_with fail
 go_ret;have s1:=b2.size;have s2:=b4.size;have s3:=al.size;have s5:=bp.out;have s7:=b5.size;have s6:=c8;have s4:=a1.size;have hn:=br.out;have n1:FG w sv (nC As C cs):=fun b p=>(hn.1 b p).imp_right fun h=>by omega
 have n2:FG w nv (nC An I cn):=fun b p=>(hn.2.1 b p).imp_right fun h=>by omega
 have n3:FG w sv (nC A5 (C+1) c5):=fun b p=>by
  rcases bt.out with e|e
  ·exact n1 b (e.symm.trans p)
  ·rw[e]at p
   cases p
   exact .inr mR
 refine⟨rfl,T1++[(⟨t,l,-1,[],true,false⟩,nC nK 0 0)],b1+1,nC A5 (C+1) c5,nC A9 (I+1) c9,?_,?_,?_,?_,n3,fun b p=>?_,fun b0 J b p=>?_⟩
 ·have h:=b3.1
  rw[<-c0.out]at h;exact h
 ·show _=o.2.tr++_
  rw[Bz,ba.out];rfl
 ·have:=b9.out
  omega
 ·have a2:FA w w2 sv nv:=(FA.of (AI.AJ (B:=P.heap.size) (T:=[]) b2) mV).keeps b4 mT
  have a4:=(a2.keeps (AI.AJ (B:=P.heap.size) (T:=[]) al) mV).keeps (AI.AJ (B:=P.heap.size) (T:=[]) a1) mV;have a8:=((a4.then n1 n2 bw).keeps b5 mT).keeps (AI.AJ (B:=P.heap.size) (T:=[]) ad) mV;exact(a8.then n3 n2 bx).keeps b3.2 mT
 ·rcases bu.out with e|e
  ·exact n2 b (e.symm.trans p)
  ·rw[e]at p
   cases p
   exact .inr (by have:=ad.size;omega)
 ·rcases mA.1 J with J|J
  ·exact(hn.2.2 b0 J b p).imp_right fun h=>by omega
  ·rw[mS.1 J]at p
   cases p
def ZJ{J:nS}{c:CU}{C:List (Nd×nU)}(h:Cz J w i tb rb c.st c.ns C false steps sv nv)(hT:C.map (·.1)=c.tr)(h1:c.st.length=c.ns.length+1){f a0 k:Nat}{r:List Nat}(hc:() 88 #[(i,0),nE nM 0] w fun e w'=>e=nP (nI true)/\Below w w w')(hz:Gq pz Bi Ch 0 f c=nJ o)(ab:∀s∈c.st,s<Bi.length)(an:steps+f<=a0)(ao:a0<=900000)(ho:o.2.ns=k::r) :
  () 48 #[(i,0)] w fun e w'=>e=nP (.tuple #[k,nE nM 0])/\QS J w i tb rb C true a0 sv nv o.2 w':=by
 have hE:=h.box;have P:=Ah.cell hE 4;have R:=hE.lt;simp at P;have HC:=Hd hc;have ai:Hid (∀y,Below w w y->() 89 #[(i,0),nE nM 0] y (MI J y i tb rb C false a0 sv nv o)):=Hd (fun y hy=>Ub (t:=0) (h.later hy) hT (AY h.base.size hy.size) h1 (A0 _) hz ab an ao);have HO:=Hd ho;clear h hE hc hT h1 hz ab ho;go_enter func48,ntmps48
 go_upto_region 8 with(first
  | (go_at_call 88;(with_reducible refine HC.out.mono ?_);rintro e w1 ⟨rfl,j⟩;have a1:=Hd j;have ah:=Hd (ai _ j);clear j)
  | (
    go_at_call 89;(with_reducible refine ah.out.mono ?_);rintro e w2 ⟨rfl,T1,ar,ae,ad,a3,a4,aa,a6,a7,a8,a9⟩
    have T:=Hd a3;have ak:=Hd a4;have aj:=Hd aa;have af:=Hd a6;have ag:Hid (FG w1 sv ae/\FG w1 nv ad/\Lg w1 C T1):=Hd ⟨a7,a8,a9⟩;clear a3 a4 aa a6 a7 a8 a9))
 clear P R;have P:=Ah.cell T.box 4;have f4:=Ah.frozen T.box 4;have R:=T.box.lt;simp at P;have l:=Hd T.overs;go_upto_region 9 with fail
 have ax:(w2.setCell (i,4) (nI true)).heap.size=w2.heap.size:=by simp
 clear P f4 R;generalize w2.setCell (i,4) (nI true)=p at *;have x2:=Ah.cell l.1.box 2;have R:=l.1.box.lt;simp at x2;have a5:=l.1.B7.2.1;have hl:o.2.ns.length=r.length+1:=by rw[HO.out];rfl
 rw[hl]at a5;have U:=l.1.nodes;rw[hl]at U;obtain⟨b,I,e1,al⟩:∃b I,ad=nC (nJ ⟨b,0,nK⟩) (r.length+1) I/\b<p.heap.size:=by
  rcases Bg U with⟨-,h0⟩|⟨b,I,e,-,h2,-⟩
  ·omega
  ·exact⟨b,I,e,h2⟩
 subst e1;have c0:nQ p ⟨b,r.length,nK⟩=nJ (nE nM k):=by rw[Bb U _ mR,HO.out];simp[AS]
 have a2:Hid (Below p p p.drew):=Hd (Below.refl _ p).drew;clear U hl;obtain⟨n,t⟩:∃n,r.length+1=n:=⟨_,rfl⟩
 have hm:r.length=n-1:=by omega
 rw[hm]at c0;rw[t]at x2 a5 l;have aw:(0:Int)<(n:Int):=by omega
 have hw:IntKind.i64.wrap ((n:Int)-1)=((n-1:Nat):Int):=by rw[IntKind.wrap_i64];omega
 have av:((n-1:Nat):Int)<(n:Int):=by omega
 have au:(0:Int)<=((n-1:Nat):Int):=by omega
 clear t hm
 go_region_held3 (fun y=>(nQ y (i,2)=nJ (nC (nJ ⟨b,0,nK⟩) n I)/\i<y.heap.size)/\nQ y ⟨b,n-1,nK⟩=nJ (nE nM k)/\b<y.heap.size) (exact⟨⟨x2,R⟩,c0,al⟩) (fail)
 go_wp2_with fail
 refine bodyPost_ret (v:=.tuple #[k,nE nM 0]) (by simp[results,Tryz.f48,go_sem]) rfl ?_;have s1:=a1.size;have t:=ag.out;refine⟨rfl,T1,ar,ae,_,l.1.later a2,ak,aj,((((FA.of (AI.AJ (B:=J.heap.size) (T:=[]) a1) mV).keeps af mT).keeps l.2 mT).keeps (AI.AJ (B:=J.heap.size) (T:=[]) a2) mV),fun b j=>(t.1 b j).imp_right fun h=>by omega,fun b j=>(t.2.1 b j).imp_right fun h=>by omega,fun aq hp b j=>(t.2.2 aq hp b j).imp_right fun h=>by omega⟩
