/- . -/
import Derived.Test.YtendpobbjjaopaaGreatDoorXbg
set_option linter.all false
set_option maxRecDepth 100000
set_option maxHeartbeats 16000000
namespace Go.Proofs.YtendpobbjjaopaaGreatDoor
open Go.RowKit Go.Proofs.Tryz
open Value renaming slice→oG,int→oH,pointer→oI,bool→oK
open Option renaming some→oM
open IntKind renaming i64→oO
open Obj renaming cells→oP
open Ending renaming returned→oQ
open World renaming cell?→oT
open Go renaming World→oU,Value→oV
variable{W j w w':oU}{B i rb steps tb:Nat}{st:List Nat}{T:List (Nd×oV)}{nv:oV}{ov:Bool}{L:List TypeId}
def RT(k n:Int)(w:oU):(Instr.field 95 (.agg #[k,n]) 0).run Tryz.prog w=.ok k w:=by kernel_rfl
def PL{w0:oU}{p:Nat}{ns:List Nat}{sv:oV}(h:CF w0 w p tb rb st ns T false steps sv nv)(h0:0<st.length)(t:Int){f:Nat}{a:It}(R:0<=t->t<=pz.nt->Fh pz AS Bv t.toNat f st=oM a)(U:∀s∈st,s<AS.length) :
  () 42 #[(p,0),t] w fun e w'=>e=oQ (oK (decide (0<=t/\t<=pz.nt/\a.1≠0)))/\Below w w w':=by
 obtain⟨AT,nT,cT,AN,nN,cN,AR,nR,cR,gs,Ar,cr,nn,Aa,na,ca,Ag,ng,cg,J,-,-,-⟩:=(h.GO.later h.base).use;have j:=h.box;have x0:=Ah.cell j 0;have x4:=Ah.cell j 4;have xl:=j.lt;have t5:=Ah.cell J 5;have tl:=J.lt;simp at x0 x4 t5;have HL:Hid (0<=t->t<=pz.nt->() 69 #[(p,0),t] w fun e w'=>e=oQ (.agg #[a.1,a.2])/\Below w w w'):=Hd (fun C P=>by have I:=Xn h h0 (t:=t.toNat) nX (R C P) U;rwa [Int.toNat_of_nonneg C]at I)
 clear h j J R U;generalize pz.nt=nt at *;by_cases C:t<0
 ·rw[decide_eq_false nX]
  go_enter func42,ntmps42
  go_wp2_with fail
  go_ret;exact⟨rfl,Below.refl _ _⟩
 by_cases P:(nt:Int)<t
 ·rw[decide_eq_false nX]
  go_enter func42,ntmps42
  go_wp2_with fail
  go_ret;exact⟨rfl,Below.refl _ _⟩
 have o:=Hd (HL nX nX);by_cases I:a.1=0
 ·rw[decide_eq_false nX]
  rw[I]at o;have a0:=RT 0 a.2;go_enter func42,ntmps42
  go_wp2_with (go_at_call 69;refine o.mono ?_;rintro e w1 ⟨rfl,i⟩;have l:=Hd i;clear i)
  go_ret;exact⟨rfl,l⟩
 ·rw[decide_eq_true nX]
  have h4:((a.1:Int) != 0)=true:=by simp;omega
  have a0:=RT a.1 a.2;go_enter func42,ntmps42
  go_wp2_with (go_at_call 69;refine o.mono ?_;rintro e w1 ⟨rfl,i⟩;have l:=Hd i;clear i)
  go_ret;exact⟨rfl,l⟩
def Zm{t:Int}{b:Bool}(h:() 42 #[(i,0),t] w fun e w'=>e=oQ (oK b)/\Below w w w') :
  () 20 #[(i,0),t] w fun e w'=>e=oQ (oK b)/\Below w w w':=by
 have o:=Hd h;clear h;go_enter func20,ntmps20
 go_wp2_with (go_at_call 42;refine o.mono ?_;rintro e p ⟨rfl,j⟩;have l:=Hd j;clear j)
 go_ret;exact⟨rfl,l⟩
def F9(w w':oU)(j nv:oV):Prop:=∀B n v i,w.ownsRow B 3 1 v n i->(∀b,v.ownBlock=oM b->j.ownBlock≠oM b/\nv.ownBlock≠oM b)->w'.ownsRow B 3 1 v n i
theorem Li{n:Nat}{e:TypeId}{s:Nat}{v i:oV}{xs:List oV}(h:w.ownsRow B e s v n xs)(j:w.grownBy w' i.ownBlock)(l:∀b,v.ownBlock=oM b->i.ownBlock≠oM b):w'.ownsRow B e s v n xs:=by
 refine h.kept j ?_;cases o:v.ownBlock with
 | none=>exact .inl rfl
 | some b=>exact .inr fun e=>l b o e.symm
def CF.Y9{P:oU}{t:Nat}{U:List Nat}{q:Nat}{R v':oV}(h:CF P W t tb rb st U T ov steps R nv)(q1:j.ownsRow P 3 1 v' (st.length+1) (st.reverse.map AY++[AY q]))(I:AI P [3] W j)(J:W.grownBy j R.ownBlock/\(v'.ownBlock=R.ownBlock\/v'.ownBlock=oM W.heap.size))(hf:st.length+1<=10000) :
  CF P (j.setCell (t,1) v') t tb rb (q::st) U T ov steps v' nv/\F9 W (j.setCell (t,1) v') R nv:=by
 have i:=I.Aj h.box (.inr nY);have o:AI P [91] j (j.setCell (t,1) v'):=(AI.refl _ _ j).EH i h.lo oA 1 _;obtain⟨av,t1,t2⟩:=h.tree.box;refine⟨⟨by simpa using i.Ba 1 v',⟨⟨av,o.Aj (I.Aj t1 (.inr nY)) (.inr nY),Ch (Ch t2 I nY) o nY⟩,fun p C=>Ch (Li (h.tree.kids p C) J.1 fun b i=>h.JZ p C b i) o nY,h.tree.lo,h.tree.Cm⟩,by simpa using Ch q1 o nY,Ch (Li h.nodes J.1 fun b i e=>h.ap b e i) o nY,fun p C b i e=>?_,h.JR,fun b i e=>?_,h.lo,h.GO,(h.base.trans (I.below h.base.size)).trans (o.below (AW h.base.size I.size)),h.lt,by simpa using hf,h.Cm.2⟩,fun B n v xs hv a0=>Ch (Li hv J.1 fun b i=>(a0 b i).1) o nY⟩
 ·rcases J.2 with l|l
  ·exact h.JZ p C b i (l.symm.trans e)
  ·rw[l]at e
   have:=(B6 (h.tree.kids p C) b i).1;cases e
   omega
 ·rcases J.2 with l|l
  ·exact h.ap b (l.symm.trans i) e
  ·rw[l]at i
   have:=(B6 h.nodes b e).1;cases i
   omega
def CF.Yd{R:oU}{t:Nat}{I:List Nat}{q:Nat}{U v':oV}(h:CF R W t tb rb st I T ov steps U nv)(q1:j.ownsRow R 3 1 v' (I.length+1) (I.reverse.map AY++[AY q]))(J:AI R [3] W j)(P:W.grownBy j nv.ownBlock/\(v'.ownBlock=nv.ownBlock\/v'.ownBlock=oM W.heap.size))(hf:I.length+1<=10000) :
  CF R (j.setCell (t,2) v') t tb rb st (q::I) T ov steps U v'/\F9 W (j.setCell (t,2) v') U nv:=by
 have i:=J.Aj h.box (.inr nY);have o:AI R [91] j (j.setCell (t,2) v'):=(AI.refl _ _ j).EH i h.lo oA 2 _;obtain⟨av,t1,t2⟩:=h.tree.box;refine⟨⟨by simpa using i.Ba 2 v',⟨⟨av,o.Aj (J.Aj t1 (.inr nY)) (.inr nY),Ch (Ch t2 J nY) o nY⟩,fun p C=>Ch (Li (h.tree.kids p C) P.1 fun b i=>h.JR p C b i) o nY,h.tree.lo,h.tree.Cm⟩,Ch (Li h.Hx P.1 fun b i=>h.ap b i) o nY,by simpa using Ch q1 o nY,h.JZ,fun p C b i e=>?_,fun b i e=>?_,h.lo,h.GO,(h.base.trans (J.below h.base.size)).trans (o.below (AW h.base.size J.size)),h.lt,h.Cm.1,by simpa using hf,h.Cm.2.2⟩,fun B n v xs hv a0=>Ch (Li hv P.1 fun b i=>(a0 b i).2) o nY⟩
 ·rcases P.2 with l|l
  ·exact h.JR p C b i (l.symm.trans e)
  ·rw[l]at e
   have:=(B6 (h.tree.kids p C) b i).1;cases e
   omega
 ·rcases P.2 with l|l
  ·exact h.ap b i (l.symm.trans e)
  ·rw[l]at e
   have:=(B6 h.Hx b i).1;cases e
   omega
def CF.grow{l:oU}{I:Nat}{P:List Nat}{T':List (Nd×oV)}{R:Bool}{U:oV}(h:CF j W I tb rb st P T R steps U nv)(ht:Eh j l rb T')(i:AI j [153,143] W l)(J:∀p∈T',∀b,p.2.ownBlock=oM b->∃q∈T,q.2.ownBlock=oM b):CF j l I tb rb st P T' R steps U nv:=
 ⟨i.Aj h.box (.inr nY),ht,Ch h.Hx i nY,Ch h.nodes i nY,fun p t b o=>by obtain⟨q,C,e⟩:=J p t b o;exact h.JZ q C b e,fun p t b o=>by obtain⟨q,C,e⟩:=J p t b o;exact h.JR q C b e,h.ap,h.lo,h.GO,h.base.trans (i.below h.base.size),h.lt,h.Cm⟩
def CF.step{l:oU}{o:List Nat}{p:Bool}{t:oV}(h:CF l W i tb rb st o T p steps t nv)(C:steps<1000000) :
  CF l (W.setCell (i,5) (oH oO ((steps:Int)+1))) i tb rb st o T p (steps+1) t nv/\AI l [91] W (W.setCell (i,5) (oH oO ((steps:Int)+1))):=by
 have j:AI l [91] W (W.setCell (i,5) (oH oO ((steps:Int)+1))):=(AI.refl _ _ W).EH h.box h.lo oA 5 _;exact⟨⟨by simpa using h.box.Ba 5 (oH oO ((steps:Int)+1)),h.tree.keeps j nY nY nY,Ch h.Hx j nY,Ch h.nodes j nY,h.JZ,h.JR,h.ap,h.lo,h.GO,h.base.trans (j.below h.base.size),h.lt,h.Cm.1,h.Cm.2.1,C⟩,j⟩
def F9.keeps{i:oV}(h:F9 w w' i nv)(o:AI B L w' j)(l:3 ∉ L):F9 w j i nv:=fun B n v C t p=>Ch (h B n v C t p) o l
def F9.of{o:oV}(j:AI B L w w')(i:3 ∉ L):F9 w w' o nv:=fun _ _ _ _ l _=>Ch l j i
def F9.then{C:oU}{i t p:oV}(h:F9 w w' i nv)(J:GB w i t)(P:GB w nv p)(R:F9 w' C t p):F9 w C i nv:=fun B n v I o l=>R B n v I (h B n v I o l) fun b j=>by
 have a0:=(B6 o b j).1;obtain⟨T,U⟩:=l b j;refine⟨fun e=>?_,fun e=>?_⟩
 ·rcases J b e with h|h
  ·exact T h
  ·omega
 ·rcases P b e with h|h
  ·exact U h
  ·omega
def Ce.push(c:Ce)(t l q:Nat):Ce:=⟨q::c.st,c.tr.length::c.ns,c.tr++[⟨t,l,-1,[],true,false⟩]⟩
def Zs(J w:oU)(t tb rb:Nat)(T:List (Nd×oV))(I:Bool)(C:Nat)(o nv:oV)(c:Ce)(w':oU):Prop:=∃i l p j,CF J w' t tb rb c.st c.ns i I l p j/\i.map (·.1)=c.tr/\l<=C/\F9 w w' o nv/\GB w o p/\GB w nv j/\NG w T i
def iG{t l:Int}{J tv:oV}{steps:Int}(h:Ah w i 91 #[(tb,0),J,nv,tv,oK false,steps])(t5:oT w (tb,5)=oM (oH oO (pz.nt:Nat)))(tl:tb<w.heap.size)(o:1<=t->t<=pz.nt->() 42 #[(i,0),t] w fun e w'=>e=oQ (oK false)/\Below w w w') :
  () 19 #[(i,0),t,l] w fun e w'=>∃k:Int,k≠0/\e=oQ k/\Below w w w':=by
 have P:=Ah.cell h 0;have R:=Ah.cell h 4;have xl:=h.lt;simp at P R;clear h;generalize pz.nt=I at *;by_cases T:t<1
 ·go_enter func19,ntmps19
  go_wp2_with fail
  go_ret;exact⟨1,nY,rfl,Below.refl _ _⟩
 by_cases U:(I:Int)<t
 ·go_enter func19,ntmps19
  go_wp2_with fail
  go_ret;exact⟨1,nY,rfl,Below.refl _ _⟩
 have C:=Hd (o nX nX);clear o;go_enter func19,ntmps19
 go_wp2_with (go_at_call 42;refine C.mono ?_;rintro e w1 ⟨rfl,j⟩;have p:=Hd j;clear j)
 go_ret;exact⟨3,nY,rfl,p⟩
def Zd{P:oU}{c:Ce}{T0:List (Nd×oV)}{sv:oV}(h:CF P w i tb rb c.st c.ns T0 false steps sv nv)(hT:T0.map (·.1)=c.tr)(h1:c.st.length=c.ns.length+1){t f ak l:Nat}{o:It×Ce}(cj:0<t)(ht:t<=pz.nt)(hc:() 42 #[(i,0),t] w fun e w'=>e=oQ (oK true)/\Below w w w')(hz:Hg pz AS Bv t f c=oM o)(bl:∀s∈c.st,s<AS.length)(c7:steps+f<=ak)(be:ak<=900000)(bn:o.2.st.length<=9000/\o.2.ns.length<=9000/\o.2.tr.length<=90000) :
  () 19 #[(i,0),t,l] w fun e w'=>e=oQ (oH oO 0)/\Zs P w i tb rb T0 false (ak+1) sv nv (o.2.push t l o.1.2) w':=by
 obtain⟨AT,nT,cT,AN,nN,cN,AR,nR,cR,gs,Ar,cr,nn,Aa,na,ca,Ag,ng,cg,av,-,-,-⟩:=(h.GO.later h.base).use;have hE:=h.box;have x0:=Ah.cell hE 0;have x4:=Ah.cell hE 4;have xl:=hE.lt;have t5:=Ah.cell av 5;have tl:=av.lt;simp at x0 x4 t5;have HC:=Hd hc;have bz:Hid (∀y,Below w w y->() 43 #[(i,0),t] y (PN P y i tb rb T0 false ak sv nv o)):=Hd (fun y U=>mM (h.later U) hT (AW h.base.size U.size) h1 ht hz bl c7 be);have au:=Hd bn;have HW:=Hd h.base.size;have HL:=Hd be;clear h hE av hc hT h1 hz bl bn
 generalize pz.nt=nt at *;have h1:¬((t:Int)<1):=by omega
 have h2:¬((nt:Int)<(t:Int)):=by omega
 go_enter func19,ntmps19
 go_upto_region 10 with(first
  | (go_at_call 42;(with_reducible refine HC.out.mono ?_);rintro e w1 ⟨rfl,p⟩;have b2:=Hd p;have bv:=Hd (bz _ p);clear p)
  | (
    go_at_call 43;(with_reducible refine bv.out.mono ?_);rintro e w2 ⟨rfl,T1,b1,cc,cb,bb,a6,bk,bd,bf,bh,bi⟩
    have bq:=Hd bb;have ba:=Hd a6;have b9:=Hd bk;have b4:=Hd bd;have br:Hid (GB w1 sv cc/\GB w1 nv cb/\NG w1 T0 T1):=Hd ⟨bf,bh,bi⟩;clear bb a6 bk bd bf bh bi))
 have a9:=Hd (Ah.new w2 95 #[o.1.1,o.1.2]);have al:=Hd (AG w2 (oP #[o.1.1,o.1.2] 95));have ae:=Hd (bq.later al);generalize w2.alloc (oP #[o.1.1,o.1.2] 95)=R at *;generalize w2.heap.size=a3 at a9 ⊢;obtain⟨As,cs,bm⟩:=CG ae.Hx;obtain⟨C,ay⟩:∃n,o.2.st.length=n:=⟨_,rfl⟩
 rw[ay]at bm;subst bm;have ar:=Hd ay;have cf:C<=9000:=by have:=au.out;omega
 have aa:Hid (∀y,Below R R y->(fun y:oU=>(oT y (i,1)=oM (oG As C cs)/\i<y.heap.size)/\oT y (a3,1)=oM (oH oO o.1.2)/\a3<y.heap.size) y):=Hd (fun y U=>by have T:=ae.box.below U ae.box.lt;have e2:=a9.below U a9.lt;exact⟨⟨T.cell 1,T.lt⟩,e2.cell 1,e2.lt⟩)
 clear x0 x4 xl t5 tl ay;refine DY 11 (fun y:oU=>(oT y (i,1)=oM (oG As C cs)/\i<y.heap.size)/\oT y (a3,1)=oM (oH oO o.1.2)/\a3<y.heap.size) nZ ?_;have ab:(fun y:oU=>(oT y (i,1)=oM (oG As C cs)/\i<y.heap.size)/\oT y (a3,1)=oM (oH oO o.1.2)/\a3<y.heap.size) R.drew:=aa _ (Below.refl _ _).drew;refine Mi [0,1,2,3,4,5,6] ab ?_;clear ab;have a1:Hid (Below R R (R.alloc (oP #[o.1.2] 3)).drew):=Hd (AG R _).drew;refine Bm 7 nZ rfl rfl (fun K j=>?_)
 go_simp;refine j _ _ (fun _=>aa _ a1) ?_;clear j K;refine Hn 8 nZ rfl rfl rfl (fun K j=>?_);have af:=Hd (ae.later a1);refine Eu Ib (.tmp 43) (.tmp 46) rfl (base:=P.heap.size) (n:=C) (m:=1) (N:=C+1) (v:=oG As C cs) (src:=oG (R,0) 1 1) (xs:=o.2.st.reverse.map AY) (news:=[AY o.1.2]) rfl rfl (by have h:=af.Hx;rwa [ar.out]at h) (Be.Aj (c:=1) (Ah.drew (Ah.new R 3 _)) rfl (by simp[AY,Value.oneCell'])) rfl oB nX af.base.size ?_;intro A5 c5 w5 q1 q2 q3;have HP:=Hd (af.Y9 (q:=o.1.2) (v':=oG A5 (C+1) c5) (by rw[ar.out];exact q1) q2 q3 (by rw[ar.out];omega))
 have bt:=Hd q3.2;have a7:=q2.Aj af.box (.inr nY);have ha5:=q2.Aj (a9.below a1 a9.lt) (.inr nY);have ai:(fun y:oU=>(oT y (i,1)=oM (oG As C cs)/\i<y.heap.size)/\oT y (a3,1)=oM (oH oO o.1.2)/\a3<y.heap.size) w5:=⟨⟨a7.cell 1,a7.lt⟩,ha5.cell 1,ha5.lt⟩
 have b7:=Hd q2;have x1:=Ah.cell a7 1;have f1:=Ah.frozen a7 1;have xl:=a7.lt;simp at x1;clear q1 q2 q3 a7 ha5;refine j _ _ (fun _=>ai) ?_;clear j K;simp only[AD,AE];refine Bm 9 nZ rfl rfl (fun K j=>?_);go_simp;refine j _ _ (fun _=>ai) ?_;clear j K;refine Bm 10 nZ rfl rfl (fun K j=>?_);go_simp;refine j _ _ (fun _=>ai) ?_;clear j K;refine Bm 11 nZ rfl rfl (fun K j=>?_);go_simp;refine j _ _ (fun h=>absurd rfl h) ?_;clear j K;refine D0 nZ ?_ _;go_upto_region 11 with fail
 have a5:=Hd HP.1;have bw:=Hd HP.2;have bp:Hid (R.heap.size<=w5.heap.size):=Hd (AW a1.size b7.size);have c8:(w5.setCell (i,1) (oG A5 (C+1) c5)).heap.size=w5.heap.size:=by simp
 clear HP b7 ai x1 f1 xl aa;generalize w5.setCell (i,1) (oG A5 (C+1) c5)=W6 at *;obtain⟨An,cn,bj⟩:=CG a5.nodes;obtain⟨I,ax⟩:∃n,o.2.ns.length=n:=⟨_,rfl⟩
 rw[ax]at bj;subst bj;have ao:=Hd ax;have cd:I<=9000:=by have:=au.out;omega
 obtain⟨tl,az⟩:∃n,o.2.tr.length=n:=⟨_,rfl⟩
 have c0:=Hd az;have a6:T1.length=tl:=by rw[<-az,<-ba.out,lM]
 have c6:=Hd a6;have ck:tl<=90000:=by have:=au.out;omega
 have b6:=Hd (jU (s:=t) (l:=l) (a5.later (Below.refl _ W6).drew).tree (a5.later (Below.refl _ W6).drew).base.size (by rw[c6.out];omega));rw[a6]at b6;have aa:Hid (∀y,Below W6 W6 y->(fun y:oU=>oT y (i,2)=oM (oG An I cn)/\oT y (i,3)=oM (oI (rb,0))/\i<y.heap.size) y):=Hd (fun y U=>by have T:=a5.box.below U a5.box.lt;exact⟨T.cell 2,T.cell 3,T.lt⟩)
 clear ax az a6;refine DY 16 (fun y:oU=>oT y (i,2)=oM (oG An I cn)/\oT y (i,3)=oM (oI (rb,0))/\i<y.heap.size) nZ ?_;have ab:(fun y:oU=>oT y (i,2)=oM (oG An I cn)/\oT y (i,3)=oM (oI (rb,0))/\i<y.heap.size) W6.drew:=aa _ (Below.refl _ _).drew;refine Mi [0,1,2,3,4,5,6,7,8,9,10] ab ?_;clear ab;refine Bm 11 nZ rfl rfl (fun K j=>?_);go_simp;refine b6.mono ?_;rintro e w7 ⟨rfl,bo,aw⟩;have bc:CF P w7 i tb rb (o.1.2::o.2.st) o.2.ns (T1++[(⟨t,l,-1,[],true,false⟩,oG none 0 0)]) false b1 (oG A5 (C+1) c5) (oG An I cn):=(a5.later (Below.refl _ W6).drew).grow bo aw (fun b0 J b p=>by
  rcases mA.1 J with J|J
  ·exact⟨b0,J,p⟩
  ·rw[mS.1 J]at p
   cases p)
 have an:=Hd bc;have b5:Hid (AI P [153,143] W6 w7):=Hd ((AI.AJ (Below.refl _ W6).drew).trans aw);have b8:Hid (∀y,Below w7 w7 y->(fun y:oU=>oT y (i,2)=oM (oG An I cn)/\oT y (i,3)=oM (oI (rb,0))/\i<y.heap.size) y):=Hd (fun y U=>by have T:=an.box.below U an.box.lt;exact⟨T.cell 2,T.cell 3,T.lt⟩)
 clear bo aw bc;refine j _ _ (fun _=>b8 w7 (Below.refl _ _)) ?_;clear j K;have ad:=Hd (AG w7 (oP #[tl] 3));refine Bm 12 nZ rfl rfl (fun K j=>?_);go_simp;refine j _ _ (fun _=>b8 _ ad) ?_;clear j K;refine Hn 13 nZ rfl rfl rfl (fun K j=>?_);have ag:=Hd (an.later ad);refine Eu Ib (.tmp 54) (.tmp 62) rfl (base:=P.heap.size) (n:=I) (m:=1) (N:=I+1) (v:=oG An I cn) (src:=oG (w7,0) 1 1) (xs:=o.2.ns.reverse.map AY) (news:=[AY tl]) rfl rfl (by have h:=ag.nodes;rwa [ao.out]at h) (Be.Aj (c:=1) (Ah.new w7 3 _) rfl (by simp[AY,Value.oneCell'])) rfl oB nX ag.base.size ?_
 intro A9 c9 w9 q1 q2 q3;have aq:=Hd (ag.Yd (q:=tl) (v':=oG A9 (I+1) c9) (by rw[ao.out];exact q1) q2 q3 (by rw[ao.out];omega));have bu:=Hd q3.2;have a0:=q2.Aj ag.box (.inr nY);have aj:(fun y:oU=>oT y (i,2)=oM (oG An I cn)/\oT y (i,3)=oM (oI (rb,0))/\i<y.heap.size) w9:=⟨a0.cell 2,a0.cell 3,a0.lt⟩
 have x2:=Ah.cell a0 2;have f2:=Ah.frozen a0 2;have xl:=a0.lt;simp at x2;clear q1 q2 q3 a0;refine j _ _ (fun _=>aj) ?_;clear j K;simp only[AD,AE];refine Bm 14 nZ rfl rfl (fun K j=>?_);go_simp;refine j _ _ (fun _=>aj) ?_;clear j K;refine Bm 15 nZ rfl rfl (fun K j=>?_);go_simp;refine j _ _ (fun _=>aj) ?_;clear j K;refine Bm 16 nZ rfl rfl (fun K j=>?_);go_simp;refine j _ _ (fun h=>absurd rfl h) ?_;clear j K;refine D0 nZ ?_ _;have ah:=Hd aq.1;have bx:=Hd aq.2;clear aq aj x2 f2 xl
 generalize w9.setCell (i,2) (oG A9 (I+1) c9)=WA at *;have x5:=Ah.cell ah.box 5;have f5:=Ah.frozen ah.box 5;have xl:=ah.box.lt;simp at x5;have ch:(b1:Int)<=900000:=by have:=b9.out;have:=HL.out;omega
 have b3:=Hd (ah.step nX);go_wp2_with fail
 go_ret;have s1:=b2.size;have s2:=b4.size;have s3:=al.size;have s5:=bp.out;have s7:=b5.size;have s6:=c8;have s4:=a1.size;have hn:=br.out;have n1:GB w sv (oG As C cs):=fun b p=>(hn.1 b p).imp_right fun h=>by omega
 have n2:GB w nv (oG An I cn):=fun b p=>(hn.2.1 b p).imp_right fun h=>by omega
 have n3:GB w sv (oG A5 (C+1) c5):=fun b p=>by
  rcases bt.out with e|e
  ·exact n1 b (e.symm.trans p)
  ·rw[e]at p
   cases p
   exact .inr nX
 refine⟨rfl,T1++[(⟨t,l,-1,[],true,false⟩,oG none 0 0)],b1+1,oG A5 (C+1) c5,oG A9 (I+1) c9,?_,?_,?_,?_,n3,fun b p=>?_,fun b0 J b p=>?_⟩
 ·have h:=b3.1
  rw[<-c0.out]at h;exact h
 ·show _=o.2.tr++_
  rw[BB,ba.out];rfl
 ·have:=b9.out
  omega
 ·have a2:F9 w w2 sv nv:=(F9.of (AI.AJ (B:=P.heap.size) (T:=[]) b2) oA).keeps b4 nY
  have a4:=(a2.keeps (AI.AJ (B:=P.heap.size) (T:=[]) al) oA).keeps (AI.AJ (B:=P.heap.size) (T:=[]) a1) oA;have a8:=((a4.then n1 n2 bw).keeps b5 nY).keeps (AI.AJ (B:=P.heap.size) (T:=[]) ad) oA;exact(a8.then n3 n2 bx).keeps b3.2 nY
 ·rcases bu.out with e|e
  ·exact n2 b (e.symm.trans p)
  ·rw[e]at p
   cases p
   exact .inr (by have:=ad.size;omega)
 ·rcases mA.1 J with J|J
  ·exact(hn.2.2 b0 J b p).imp_right fun h=>by omega
  ·rw[mS.1 J]at p
   cases p
