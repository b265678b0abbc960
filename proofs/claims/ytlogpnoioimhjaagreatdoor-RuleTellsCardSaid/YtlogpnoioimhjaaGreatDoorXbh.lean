/- Whether a terminal can come. -/
import Derived.Test.YtlogpnoioimhjaaGreatDoorXbg
set_option linter.all false
set_option maxRecDepth 100000
set_option maxHeartbeats 16000000
namespace Go.Proofs.YtlogpnoioimhjaaGreatDoor
open Go.RowKit Go.Proofs.Tryz
variable{W j w w':World}{B i rb steps tb:Nat}{st:List Nat}{T:List (Nd×Value)}{nv:Value}{ov:Bool}{L:List TypeId}
def R9(k n:Int)(w:World):(Instr.field 106 (.agg #[k,n]) 0).run Tryz.prog w=.ok k w:=by kernel_rfl
def Pv{w0:World}{p:Nat}{ns:List Nat}{sv:Value}(h:Cw w0 w p tb rb st ns T false steps sv nv)(h0:0<st.length)(t:Int){f:Nat}{a:It}(R:0<=t->t<=pz.nt->Fh pz AQ Bs t.toNat f st=some a)(U:∀s∈st,s<AQ.length) :
  () 43 #[(p,0),t] w fun e w'=>e=.returned (.bool (decide (0<=t/\t<=pz.nt/\a.1≠0)))/\Below w w w':=by
 obtain⟨AT,nT,cT,AN,nN,cN,AR,nR,cR,gs,Ar,cr,nn,Aa,na,ca,Ag,ng,cg,J,-,-,-⟩:=(h.GL.later h.base).use;have j:=h.box;have x0:=Ah.cell j 0;have x4:=Ah.cell j 4;have xl:=j.lt;have t5:=Ah.cell J 5;have tl:=J.lt;simp at x0 x4 t5;have HL:Hid (0<=t->t<=pz.nt->() 71 #[(p,0),t] w fun e w'=>e=.returned (.agg #[a.1,a.2])/\Below w w w'):=Hd (fun C P=>by have I:=iF h h0 (t:=t.toNat) (by omega) (R C P) U;rwa [Int.toNat_of_nonneg C]at I)
 clear h j J R U;generalize pz.nt=nt at *;by_cases C:t<0
 ·rw[decide_eq_false (by omega)]
  go_enter func43,ntmps43
  go_wp2_with fail
  go_ret;exact⟨rfl,Below.refl _ _⟩
 by_cases P:(nt:Int)<t
 ·rw[decide_eq_false (by omega)]
  go_enter func43,ntmps43
  go_wp2_with fail
  go_ret;exact⟨rfl,Below.refl _ _⟩
 have o:=Hd (HL (by omega) (by omega));by_cases I:a.1=0
 ·rw[decide_eq_false (by omega)]
  rw[I]at o;have a0:=R9 0 a.2;go_enter func43,ntmps43
  go_wp2_with (go_at_call 71;refine o.mono ?_;rintro e w1 ⟨rfl,i⟩;have l:=Hd i;clear i)
  go_ret;exact⟨rfl,l⟩
 ·rw[decide_eq_true (by omega)]
  have h4:((a.1:Int) != 0)=true:=by simp;omega
  have a0:=R9 a.1 a.2;go_enter func43,ntmps43
  go_wp2_with (go_at_call 71;refine o.mono ?_;rintro e w1 ⟨rfl,i⟩;have l:=Hd i;clear i)
  go_ret;exact⟨rfl,l⟩
def ZJ{t:Int}{b:Bool}(h:() 43 #[(i,0),t] w fun e w'=>e=.returned (.bool b)/\Below w w w') :
  () 24 #[(i,0),t] w fun e w'=>e=.returned (.bool b)/\Below w w w':=by
 have o:=Hd h;clear h;go_enter func24,ntmps24
 go_wp2_with (go_at_call 43;refine o.mono ?_;rintro e p ⟨rfl,j⟩;have l:=Hd j;clear j)
 go_ret;exact⟨rfl,l⟩
def FP(w w':World)(j nv:Value):Prop:=∀B n v i,w.ownsRow B 3 1 v n i->(∀b,v.ownBlock=some b->j.ownBlock≠some b/\nv.ownBlock≠some b)->w'.ownsRow B 3 1 v n i
theorem Kq{n:Nat}{e:TypeId}{s:Nat}{v i:Value}{xs:List Value}(h:w.ownsRow B e s v n xs)(j:w.grownBy w' i.ownBlock)(l:∀b,v.ownBlock=some b->i.ownBlock≠some b):w'.ownsRow B e s v n xs:=by
 refine h.kept j ?_;cases o:v.ownBlock with
 | none=>exact .inl rfl
 | some b=>exact .inr fun e=>l b o e.symm
def Cw.VD{P:World}{t:Nat}{U:List Nat}{q:Nat}{R v':Value}(h:Cw P W t tb rb st U T ov steps R nv)(q1:j.ownsRow P 3 1 v' (st.length+1) (st.reverse.map AV++[AV q]))(I:AI P [3] W j)(J:W.grownBy j R.ownBlock/\(v'.ownBlock=R.ownBlock\/v'.ownBlock=some W.heap.size))(hf:st.length+1<=10000) :
  Cw P (j.setCell (t,1) v') t tb rb (q::st) U T ov steps v' nv/\FP W (j.setCell (t,1) v') R nv:=by
 have i:=I.Ap h.box (.inr (by decide));have o:AI P [72] j (j.setCell (t,1) v'):=(AI.refl _ _ j).EH i h.lo (by simp) 1 _;obtain⟨av,t1,t2⟩:=h.tree.box;refine⟨⟨by simpa using i.Be 1 v',⟨⟨av,o.Ap (I.Ap t1 (.inr (by decide))) (.inr (by decide)),Ce (Ce t2 I (by decide)) o (by decide)⟩,fun p C=>Ce (Kq (h.tree.kids p C) J.1 fun b i=>h.Kb p C b i) o (by decide),h.tree.lo,h.tree.B7⟩,by simpa using Ce q1 o (by decide),Ce (Kq h.nodes J.1 fun b i e=>h.ap b e i) o (by decide),fun p C b i e=>?_,h.JH,fun b i e=>?_,h.lo,h.GL,(h.base.trans (I.below h.base.size)).trans (o.below (AW h.base.size I.size)),h.lt,by simpa using hf,h.B7.2⟩,fun B n v xs hv a0=>Ce (Kq hv J.1 fun b i=>(a0 b i).1) o (by decide)⟩
 ·rcases J.2 with l|l
  ·exact h.Kb p C b i (l.symm.trans e)
  ·rw[l]at e
   have:=(BY (h.tree.kids p C) b i).1;cases e
   omega
 ·rcases J.2 with l|l
  ·exact h.ap b (l.symm.trans i) e
  ·rw[l]at i
   have:=(BY h.nodes b e).1;cases i
   omega
def Cw.Vw{R:World}{t:Nat}{I:List Nat}{q:Nat}{U v':Value}(h:Cw R W t tb rb st I T ov steps U nv)(q1:j.ownsRow R 3 1 v' (I.length+1) (I.reverse.map AV++[AV q]))(J:AI R [3] W j)(P:W.grownBy j nv.ownBlock/\(v'.ownBlock=nv.ownBlock\/v'.ownBlock=some W.heap.size))(hf:I.length+1<=10000) :
  Cw R (j.setCell (t,2) v') t tb rb st (q::I) T ov steps U v'/\FP W (j.setCell (t,2) v') U nv:=by
 have i:=J.Ap h.box (.inr (by decide));have o:AI R [72] j (j.setCell (t,2) v'):=(AI.refl _ _ j).EH i h.lo (by simp) 2 _;obtain⟨av,t1,t2⟩:=h.tree.box;refine⟨⟨by simpa using i.Be 2 v',⟨⟨av,o.Ap (J.Ap t1 (.inr (by decide))) (.inr (by decide)),Ce (Ce t2 J (by decide)) o (by decide)⟩,fun p C=>Ce (Kq (h.tree.kids p C) P.1 fun b i=>h.JH p C b i) o (by decide),h.tree.lo,h.tree.B7⟩,Ce (Kq h.G5 P.1 fun b i=>h.ap b i) o (by decide),by simpa using Ce q1 o (by decide),h.Kb,fun p C b i e=>?_,fun b i e=>?_,h.lo,h.GL,(h.base.trans (J.below h.base.size)).trans (o.below (AW h.base.size J.size)),h.lt,h.B7.1,by simpa using hf,h.B7.2.2⟩,fun B n v xs hv a0=>Ce (Kq hv P.1 fun b i=>(a0 b i).2) o (by decide)⟩
 ·rcases P.2 with l|l
  ·exact h.JH p C b i (l.symm.trans e)
  ·rw[l]at e
   have:=(BY (h.tree.kids p C) b i).1;cases e
   omega
 ·rcases P.2 with l|l
  ·exact h.ap b i (l.symm.trans e)
  ·rw[l]at e
   have:=(BY h.G5 b i).1;cases e
   omega
def Cw.grow{l:World}{I:Nat}{P:List Nat}{T':List (Nd×Value)}{R:Bool}{U:Value}(h:Cw j W I tb rb st P T R steps U nv)(ht:Ee j l rb T')(i:AI j [155,102] W l)(J:∀p∈T',∀b,p.2.ownBlock=some b->∃q∈T,q.2.ownBlock=some b):Cw j l I tb rb st P T' R steps U nv:=
 ⟨i.Ap h.box (.inr (by decide)),ht,Ce h.G5 i (by decide),Ce h.nodes i (by decide),fun p t b o=>by obtain⟨q,C,e⟩:=J p t b o;exact h.Kb q C b e,fun p t b o=>by obtain⟨q,C,e⟩:=J p t b o;exact h.JH q C b e,h.ap,h.lo,h.GL,h.base.trans (i.below h.base.size),h.lt,h.B7⟩
def Cw.step{l:World}{o:List Nat}{p:Bool}{t:Value}(h:Cw l W i tb rb st o T p steps t nv)(C:steps<1000000) :
  Cw l (W.setCell (i,5) (.int .i64 ((steps:Int)+1))) i tb rb st o T p (steps+1) t nv/\AI l [72] W (W.setCell (i,5) (.int .i64 ((steps:Int)+1))):=by
 have j:AI l [72] W (W.setCell (i,5) (.int .i64 ((steps:Int)+1))):=(AI.refl _ _ W).EH h.box h.lo (by simp) 5 _;exact⟨⟨by simpa using h.box.Be 5 (.int .i64 ((steps:Int)+1)),h.tree.keeps j (by decide) (by decide) (by decide),Ce h.G5 j (by decide),Ce h.nodes j (by decide),h.Kb,h.JH,h.ap,h.lo,h.GL,h.base.trans (j.below h.base.size),h.lt,h.B7.1,h.B7.2.1,C⟩,j⟩
def FP.keeps{i:Value}(h:FP w w' i nv)(o:AI B L w' j)(l:3 ∉ L):FP w j i nv:=fun B n v C t p=>Ce (h B n v C t p) o l
def FP.of{o:Value}(j:AI B L w w')(i:3 ∉ L):FP w w' o nv:=fun _ _ _ _ l _=>Ce l j i
def FP.then{C:World}{i t p:Value}(h:FP w w' i nv)(J:Gv w i t)(P:Gv w nv p)(R:FP w' C t p):FP w C i nv:=fun B n v I o l=>R B n v I (h B n v I o l) fun b j=>by
 have a0:=(BY o b j).1;obtain⟨T,U⟩:=l b j;refine⟨fun e=>?_,fun e=>?_⟩
 ·rcases J b e with h|h
  ·exact T h
  ·omega
 ·rcases P b e with h|h
  ·exact U h
  ·omega
def Ca.push(c:Ca)(t l q:Nat):Ca:=⟨q::c.st,c.tr.length::c.ns,c.tr++[⟨t,l,-1,[],true,false⟩]⟩
def Wm(J w:World)(t tb rb:Nat)(T:List (Nd×Value))(I:Bool)(C:Nat)(o nv:Value)(c:Ca)(w':World):Prop:=∃i l p j,Cw J w' t tb rb c.st c.ns i I l p j/\i.map (·.1)=c.tr/\l<=C/\FP w w' o nv/\Gv w o p/\Gv w nv j/\Mv w T i
def iX{t l:Int}{J tv:Value}{steps:Int}(h:Ah w i 72 #[(tb,0),J,nv,tv,.bool false,steps])(t5:w.cell? (tb,5)=some (.int .i64 (pz.nt:Nat)))(tl:tb<w.heap.size)(o:1<=t->t<=pz.nt->() 43 #[(i,0),t] w fun e w'=>e=.returned (.bool false)/\Below w w w') :
  () 35 #[(i,0),t,l] w fun e w'=>∃k:Int,k≠0/\e=.returned k/\Below w w w':=by
 have P:=Ah.cell h 0;have R:=Ah.cell h 4;have xl:=h.lt;simp at P R;clear h;generalize pz.nt=I at *;by_cases T:t<1
 ·go_enter func35,ntmps35
  go_wp2_with fail
  go_ret;exact⟨1,by decide,rfl,Below.refl _ _⟩
 by_cases U:(I:Int)<t
 ·go_enter func35,ntmps35
  go_wp2_with fail
  go_ret;exact⟨1,by decide,rfl,Below.refl _ _⟩
 have C:=Hd (o (by omega) (by omega));clear o;go_enter func35,ntmps35
 go_wp2_with (go_at_call 43;refine C.mono ?_;rintro e w1 ⟨rfl,j⟩;have p:=Hd j;clear j)
 go_ret;exact⟨3,by decide,rfl,p⟩
def kK{R:World}{c:Ca}{T0:List (Nd×Value)}{sv:Value}(h:Cw R w i tb rb c.st c.ns T0 false steps sv nv)(hT:T0.map (·.1)=c.tr)(h1:c.st.length=c.ns.length+1){t f aj l:Nat}{o:It×Ca}(ch:0<t)(ht:t<=pz.nt)(hc:() 43 #[(i,0),t] w fun e w'=>e=.returned (.bool true)/\Below w w w')(hz:Hp pz AQ Bs t f c=some o)(bk:∀s∈c.st,s<AQ.length)(c6:steps+f<=aj)(bd:aj<=900000)(bm:o.2.st.length<=9000/\o.2.ns.length<=9000/\o.2.tr.length<=90000) :
  () 35 #[(i,0),t,l] w fun e w'=>e=.returned (.int .i64 0)/\Wm R w i tb rb T0 false (aj+1) sv nv (o.2.push t l o.1.2) w':=by
 obtain⟨AT,nT,cT,AN,nN,cN,AR,nR,cR,gs,Ar,cr,nn,Aa,na,ca,Ag,ng,cg,au,-,-,-⟩:=(h.GL.later h.base).use;have hE:=h.box;have x0:=Ah.cell hE 0;have x4:=Ah.cell hE 4;have xl:=hE.lt;have t5:=Ah.cell au 5;have tl:=au.lt;simp at x0 x4 t5;have HC:=Hd hc;have bx:Hid (∀y,Below w w y->() 52 #[(i,0),t] y (Oq R y i tb rb T0 false aj sv nv o)):=Hd (fun y hy=>VL (h.later hy) hT (AW h.base.size hy.size) h1 ht hz bk c6 bd);have ar:=Hd bm;have HW:=Hd h.base.size;have HL:=Hd bd;clear h hE au hc hT h1 hz bk bm
 generalize pz.nt=nt at *;have h1:¬((t:Int)<1):=by omega
 have h2:¬((nt:Int)<(t:Int)):=by omega
 go_enter func35,ntmps35
 go_upto_region 10 with(first
  | (go_at_call 43;(with_reducible refine HC.out.mono ?_);rintro e w1 ⟨rfl,p⟩;have b1:=Hd p;have bu:=Hd (bx _ p);clear p)
  | (
    go_at_call 52;(with_reducible refine bu.out.mono ?_);rintro e w2 ⟨rfl,T1,b0,cb,c8,ba,a6,bj,bc,be,bf,bh⟩
    have bp:=Hd ba;have b9:=Hd a6;have b8:=Hd bj;have b3:=Hd bc;have bq:Hid (Gv w1 sv cb/\Gv w1 nv c8/\Mv w1 T0 T1):=Hd ⟨be,bf,bh⟩;clear ba a6 bj bc be bf bh))
 have a9:=Hd (Ah.new w2 106 #[o.1.1,o.1.2]);have ak:=Hd (AG w2 (.cells #[o.1.1,o.1.2] 106));have ad:=Hd (bp.later ak);generalize w2.alloc (.cells #[o.1.1,o.1.2] 106)=T at *;generalize w2.heap.size=a3 at a9 ⊢;obtain⟨As,cs,bl⟩:=CG ad.G5;obtain⟨I,ax⟩:∃n,o.2.st.length=n:=⟨_,rfl⟩
 rw[ax]at bl;subst bl;have aq:=Hd ax;have cd:I<=9000:=by have:=ar.out;omega
 have aa:Hid (∀y,Below T T y->(fun y:World=>(y.cell? (i,1)=some (.slice As I cs)/\i<y.heap.size)/\y.cell? (a3,1)=some (.int .i64 o.1.2)/\a3<y.heap.size) y):=Hd (fun y hy=>by have U:=ad.box.below hy ad.box.lt;have e2:=a9.below hy a9.lt;exact⟨⟨U.cell 1,U.lt⟩,e2.cell 1,e2.lt⟩)
 clear x0 x4 xl t5 tl ax;refine DU 11 (fun y:World=>(y.cell? (i,1)=some (.slice As I cs)/\i<y.heap.size)/\y.cell? (a3,1)=some (.int .i64 o.1.2)/\a3<y.heap.size) (by kernel_rfl) ?_;have C:(fun y:World=>(y.cell? (i,1)=some (.slice As I cs)/\i<y.heap.size)/\y.cell? (a3,1)=some (.int .i64 o.1.2)/\a3<y.heap.size) T.drew:=aa _ (Below.refl _ _).drew;refine AA 0 C ?_;simp only[Aw,Ay];refine AA 1 C ?_;simp only[Aw,Ay];refine AA 2 C ?_;simp only[Aw,Ay];refine AA 3 C ?_;simp only[Aw,Ay];refine AA 4 C ?_;simp only[Aw,Ay]
 refine AA 5 C ?_;simp only[Aw,Ay];refine AA 6 C ?_;simp only[Aw,Ay];clear C;have a1:Hid (Below T T (T.alloc (.cells #[o.1.2] 3)).drew):=Hd (AG T _).drew;refine Bk 7 (by kernel_rfl) rfl rfl (fun K j=>?_);go_simp;refine j _ _ (fun _=>aa _ a1) ?_;clear j K;refine FX 8 (by kernel_rfl) rfl rfl rfl (fun K j=>?_);have ae:=Hd (ad.later a1);refine EI Iq (.tmp 43) (.tmp 46) rfl (base:=R.heap.size) (n:=I) (m:=1) (N:=I+1) (v:=.slice As I cs) (src:=.slice (T,0) 1 1) (xs:=o.2.st.reverse.map AV) (news:=[AV o.1.2]) rfl rfl (by have h:=ae.G5;rwa [aq.out]at h) (AY.Ap (c:=1) (Ah.drew (Ah.new T 3 _)) rfl (by simp[AV,Value.oneCell'])) rfl (by unfold maxLen;omega) (by omega) ae.base.size ?_
 intro A5 c5 w5 q1 q2 q3;have HP:=Hd (ae.VD (q:=o.1.2) (v':=.slice A5 (I+1) c5) (by rw[aq.out];exact q1) q2 q3 (by rw[aq.out];omega));have br:=Hd q3.2;have a7:=q2.Ap ae.box (.inr (by decide));have ha5:=q2.Ap (a9.below a1 a9.lt) (.inr (by decide));have ah:(fun y:World=>(y.cell? (i,1)=some (.slice As I cs)/\i<y.heap.size)/\y.cell? (a3,1)=some (.int .i64 o.1.2)/\a3<y.heap.size) w5:=⟨⟨a7.cell 1,a7.lt⟩,ha5.cell 1,ha5.lt⟩
 have b6:=Hd q2;have x1:=Ah.cell a7 1;have f1:=Ah.frozen a7 1;have xl:=a7.lt;simp at x1;clear q1 q2 q3 a7 ha5;refine j _ _ (fun _=>ah) ?_;clear j K;simp only[Aw,Ay];refine Bk 9 (by kernel_rfl) rfl rfl (fun K j=>?_);go_simp;refine j _ _ (fun _=>ah) ?_;clear j K;refine Bk 10 (by kernel_rfl) rfl rfl (fun K j=>?_);go_simp;refine j _ _ (fun _=>ah) ?_;clear j K;refine Bk 11 (by kernel_rfl) rfl rfl (fun K j=>?_);go_simp;refine j _ _ (fun h=>absurd rfl h) ?_;clear j K;refine Dy (by kernel_rfl) ?_ _;go_upto_region 11 with fail
 have a5:=Hd HP.1;have bv:=Hd HP.2;have bo:Hid (T.heap.size<=w5.heap.size):=Hd (AW a1.size b6.size);have c7:(w5.setCell (i,1) (.slice A5 (I+1) c5)).heap.size=w5.heap.size:=by simp
 clear HP b6 ah x1 f1 xl aa;generalize w5.setCell (i,1) (.slice A5 (I+1) c5)=W6 at *;obtain⟨An,cn,bi⟩:=CG a5.nodes;obtain⟨J,aw⟩:∃n,o.2.ns.length=n:=⟨_,rfl⟩
 rw[aw]at bi;subst bi;have an:=Hd aw;have cc:J<=9000:=by have:=ar.out;omega
 obtain⟨tl,ay⟩:∃n,o.2.tr.length=n:=⟨_,rfl⟩
 have bz:=Hd ay;have a6:T1.length=tl:=by rw[<-ay,<-b9.out,lM]
 have c0:=Hd a6;have cj:tl<=90000:=by have:=ar.out;omega
 have b5:=Hd (Zj (s:=t) (l:=l) (a5.later (Below.refl _ W6).drew).tree (a5.later (Below.refl _ W6).drew).base.size (by rw[c0.out];omega));rw[a6]at b5;have aa:Hid (∀y,Below W6 W6 y->(fun y:World=>y.cell? (i,2)=some (.slice An J cn)/\y.cell? (i,3)=some (.pointer (rb,0))/\i<y.heap.size) y):=Hd (fun y hy=>by have U:=a5.box.below hy a5.box.lt;exact⟨U.cell 2,U.cell 3,U.lt⟩)
 clear aw ay a6;refine DU 16 (fun y:World=>y.cell? (i,2)=some (.slice An J cn)/\y.cell? (i,3)=some (.pointer (rb,0))/\i<y.heap.size) (by kernel_rfl) ?_;have C:(fun y:World=>y.cell? (i,2)=some (.slice An J cn)/\y.cell? (i,3)=some (.pointer (rb,0))/\i<y.heap.size) W6.drew:=aa _ (Below.refl _ _).drew;refine AA 0 C ?_;simp only[Aw,Ay];refine AA 1 C ?_;simp only[Aw,Ay];refine AA 2 C ?_;simp only[Aw,Ay];refine AA 3 C ?_;simp only[Aw,Ay];refine AA 4 C ?_;simp only[Aw,Ay];refine AA 5 C ?_
 simp only[Aw,Ay];refine AA 6 C ?_;simp only[Aw,Ay];refine AA 7 C ?_;simp only[Aw,Ay];refine AA 8 C ?_;simp only[Aw,Ay];refine AA 9 C ?_;simp only[Aw,Ay];refine AA 10 C ?_;simp only[Aw,Ay];clear C;refine Bk 11 (by kernel_rfl) rfl rfl (fun K j=>?_);go_simp;refine b5.mono ?_;rintro e w7 ⟨rfl,bn,av⟩;have bb:Cw R w7 i tb rb (o.1.2::o.2.st) o.2.ns (T1++[(⟨t,l,-1,[],true,false⟩,.slice none 0 0)]) false b0 (.slice A5 (I+1) c5) (.slice An J cn):=(a5.later (Below.refl _ W6).drew).grow bn av (fun az P b p=>by
  rcases mA.1 P with P|P
  ·exact⟨az,P,p⟩
  ·rw[mS.1 P]at p
   cases p)
 have al:=Hd bb;have b4:Hid (AI R [155,102] W6 w7):=Hd ((AI.AJ (Below.refl _ W6).drew).trans av);have b7:Hid (∀y,Below w7 w7 y->(fun y:World=>y.cell? (i,2)=some (.slice An J cn)/\y.cell? (i,3)=some (.pointer (rb,0))/\i<y.heap.size) y):=Hd (fun y hy=>by have U:=al.box.below hy al.box.lt;exact⟨U.cell 2,U.cell 3,U.lt⟩)
 clear bn av bb;refine j _ _ (fun _=>b7 w7 (Below.refl _ _)) ?_;clear j K;have ab:=Hd (AG w7 (.cells #[tl] 3));refine Bk 12 (by kernel_rfl) rfl rfl (fun K j=>?_);go_simp;refine j _ _ (fun _=>b7 _ ab) ?_;clear j K;refine FX 13 (by kernel_rfl) rfl rfl rfl (fun K j=>?_);have af:=Hd (al.later ab);refine EI Iq (.tmp 54) (.tmp 62) rfl (base:=R.heap.size) (n:=J) (m:=1) (N:=J+1) (v:=.slice An J cn) (src:=.slice (w7,0) 1 1) (xs:=o.2.ns.reverse.map AV) (news:=[AV tl]) rfl rfl (by have h:=af.nodes;rwa [an.out]at h) (AY.Ap (c:=1) (Ah.new w7 3 _) rfl (by simp[AV,Value.oneCell'])) rfl (by unfold maxLen;omega) (by omega) af.base.size ?_
 intro A9 c9 w9 q1 q2 q3;have ao:=Hd (af.Vw (q:=tl) (v':=.slice A9 (J+1) c9) (by rw[an.out];exact q1) q2 q3 (by rw[an.out];omega));have bt:=Hd q3.2;have a0:=q2.Ap af.box (.inr (by decide));have ai:(fun y:World=>y.cell? (i,2)=some (.slice An J cn)/\y.cell? (i,3)=some (.pointer (rb,0))/\i<y.heap.size) w9:=⟨a0.cell 2,a0.cell 3,a0.lt⟩
 have x2:=Ah.cell a0 2;have f2:=Ah.frozen a0 2;have xl:=a0.lt;simp at x2;clear q1 q2 q3 a0;refine j _ _ (fun _=>ai) ?_;clear j K;simp only[Aw,Ay];refine Bk 14 (by kernel_rfl) rfl rfl (fun K j=>?_);go_simp;refine j _ _ (fun _=>ai) ?_;clear j K;refine Bk 15 (by kernel_rfl) rfl rfl (fun K j=>?_);go_simp;refine j _ _ (fun _=>ai) ?_;clear j K;refine Bk 16 (by kernel_rfl) rfl rfl (fun K j=>?_);go_simp;refine j _ _ (fun h=>absurd rfl h) ?_;clear j K;refine Dy (by kernel_rfl) ?_ _;have ag:=Hd ao.1;have bw:=Hd ao.2;clear ao ai x2 f2 xl
 generalize w9.setCell (i,2) (.slice A9 (J+1) c9)=WA at *;have x5:=Ah.cell ag.box 5;have f5:=Ah.frozen ag.box 5;have xl:=ag.box.lt;simp at x5;have cf:(b0:Int)<=900000:=by have:=b8.out;have:=HL.out;omega
 have b2:=Hd (ag.step (by omega));go_wp2_with fail
 go_ret;have s1:=b1.size;have s2:=b3.size;have s3:=ak.size;have s5:=bo.out;have s7:=b4.size;have s6:=c7;have s4:=a1.size;have hn:=bq.out;have n1:Gv w sv (.slice As I cs):=fun b p=>(hn.1 b p).imp_right fun h=>by omega
 have n2:Gv w nv (.slice An J cn):=fun b p=>(hn.2.1 b p).imp_right fun h=>by omega
 have n3:Gv w sv (.slice A5 (I+1) c5):=fun b p=>by
  rcases br.out with e|e
  ·exact n1 b (e.symm.trans p)
  ·rw[e]at p
   cases p
   exact .inr (by omega)
 refine⟨rfl,T1++[(⟨t,l,-1,[],true,false⟩,.slice none 0 0)],b0+1,.slice A5 (I+1) c5,.slice A9 (J+1) c9,?_,?_,?_,?_,n3,fun b p=>?_,fun az P b p=>?_⟩
 ·have h:=b2.1
  rw[<-bz.out]at h;exact h
 ·show _=o.2.tr++_
  rw[By,b9.out];rfl
 ·have:=b8.out
  omega
 ·have a2:FP w w2 sv nv:=(FP.of (AI.AJ (B:=R.heap.size) (T:=[]) b1) (by simp)).keeps b3 (by decide)
  have a4:=(a2.keeps (AI.AJ (B:=R.heap.size) (T:=[]) ak) (by simp)).keeps (AI.AJ (B:=R.heap.size) (T:=[]) a1) (by simp);have a8:=((a4.then n1 n2 bv).keeps b4 (by decide)).keeps (AI.AJ (B:=R.heap.size) (T:=[]) ab) (by simp);exact(a8.then n3 n2 bw).keeps b2.2 (by decide)
 ·rcases bt.out with e|e
  ·exact n2 b (e.symm.trans p)
  ·rw[e]at p
   cases p
   exact .inr (by have:=ab.size;omega)
 ·rcases mA.1 P with P|P
  ·exact(hn.2.2 az P b p).imp_right fun h=>by omega
  ·rw[mS.1 P]at p
   cases p
end Go.Proofs.YtlogpnoioimhjaaGreatDoor
