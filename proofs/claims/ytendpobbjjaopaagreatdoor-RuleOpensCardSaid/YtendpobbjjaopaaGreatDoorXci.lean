/- . -/
import Derived.Test.YtendpobbjjaopaaGreatDoorXca
import Derived.Test.YtendpobbjjaopaaGreatDoorXad
set_option linter.all false
set_option maxRecDepth 100000
set_option maxHeartbeats 16000000
namespace Go.Proofs.YtendpobbjjaopaaGreatDoor
open Go.RowKit Go.Proofs.Tryz
open Value renaming slice→oG,int→oH,pointer→oI,string→oJ,bool→oK
open Option renaming some→oM,none→oN
open IntKind renaming i64→oO
open Ending renaming returned→oQ
open World renaming cell?→oT
open Go renaming World→oU,Value→oV
variable{w:oU}{ev v:oV}{P:Int->Bool}{p:Bool}{s:ByteArray}
def Ni(s:ByteArray)(i:Nat):Bool:=i != 0&&Lib.hasPrefix (CB.getD i []) s.data.toList
def Ey(s:ByteArray)(k:Nat):List Nat:=(List.range k).filter (Ni s)
def N2(s:ByteArray)(k:Nat):Ey s (k+1)=Ey s k++if Ni s k then[k] else[]:=by unfold Ey;rw[List.range_succ,List.filter_append];congr 1;simp[List.filter_cons]
def Nq(s:ByteArray)(k:Nat):(Ey s k).length<=k:=by have:=List.length_filter_le (Ni s) (List.range k);rwa [List.length_range]at this
def IE(w:oU)(v:oV)(l:List Nat)(w':oU):Prop:=w'.ownsRow w.heap.size 3 1 v l.length (l.map fun k=>oH oO (k:Nat))/\Below w.heap.size w w'
def cH(hT:D9 w)(s:ByteArray):Calls Tryz.prog 24 #[oJ s] w fun e w'=>∃v,e=oQ v/\IE w v (Ey s 18) w':=by
 have HB:Hid (∀k,Ey s (k+1)=Ey s k++if (k != 0&&Lib.hasPrefix (CB.getD k []) s.data.toList)=true then[k] else[]):=Hd (N2 s);have a1:=Hd (Nq s);have C:∀k y,Calls Tryz.prog 31 #[oJ (bs (CB.getD k [])),oJ s] y fun e w'=>e=oQ (oK (Lib.hasPrefix (CB.getD k []) s.data.toList))/\w'=y:=fun k y=>Tryz.strings_HasPrefix (bs (CB.getD k [])) s y
 have i:∀k,k<18->oT w ⟨0,k,oN⟩=oM (oJ (bs (CB.getD k []))):=fun k I=>by rw[hT.1 k I,dG,eG (show k<CB.length from I)];rfl
 obtain⟨T,a2⟩:∃T:Nat->ByteArray,∀k,bs (CB.getD k [])=T k:=⟨_,fun _=>rfl⟩
 simp only[a2]at C i;clear a2 hT;generalize Ey s=L at *;obtain⟨H,hH⟩:∃H:Nat->Bool,∀k,Lib.hasPrefix (CB.getD k []) s.data.toList=H k:=⟨_,fun _=>rfl⟩
 simp only[hH]at C HB;clear hH;have HP:=Hd C;have c0:=i 0 nY;have c1:=i 1 nY;have c2:=i 2 nY;have c3:=i 3 nY;have c4:=i 4 nY;have c5:=i 5 nY;have c6:=i 6 nY;have c7:=i 7 nY;have c8:=i 8 nY;have c9:=i 9 nY;have ca:=i 10 nY;have cb:=i 11 nY;have cc:=i 12 nY;have cd:=i 13 nY;have ce:=i 14 nY;have cf:=i 15 nY;have cg:=i 16 nY;have ch:=i 17 nY;clear i C;go_enter func24,ntmps24
 go_wp2;obtain⟨X,hX⟩:∃X:Array oV,#[oJ (T 0),oJ (T 1),oJ (T 2),oJ (T 3),oJ (T 4),oJ (T 5),oJ (T 6),oJ (T 7),oJ (T 8),oJ (T 9),oJ (T 10),oJ (T 11),oJ (T 12),oJ (T 13),oJ (T 14),oJ (T 15),oJ (T 16),oJ (T 17)]=X:=⟨_,rfl⟩
 have HI:Hid (∀k:Nat,k<18->∀y,(Instr.index 100 (.agg X) (oH oO k)).run Tryz.prog y=.ok (oJ (T k)) y):=Hd fun k I y=>by
  rw[<-hX];have e:k=0\/k=1\/k=2\/k=3\/k=4\/k=5\/k=6\/k=7\/k=8\/k=9\/k=10\/k=11\/k=12\/k=13\/k=14\/k=15\/k=16\/k=17:=by omega
  rcases e with rfl|rfl|rfl|rfl|rfl|rfl|rfl|rfl|rfl|rfl|rfl|rfl|rfl|rfl|rfl|rfl|rfl|rfl<;>rfl
 rw[hX];clear hX;clear c0 c1 c2 c3 c4 c5 c6 c7 c8 c9 ca cb cc cd ce cf cg ch;go_loopw [3,4,5,7] (fun a7 _ _ a0 wr=>∃k:Nat,k<=18/\a0=oH oO k/\Hid (IE w a7 (L k) wr)) (fun _ _ _ a0 _=>18-(intOf a0).toNat)
 case atStart=>exact⟨0,AX _,rfl,Hd (by have:L 0=[]:=List.eq_nil_of_length_eq_zero (Nat.le_zero.1 (a1.out 0));rw[this];exact⟨⟨rfl,.inl ⟨rfl,rfl⟩⟩,Below.refl _ _⟩)⟩
 case round=>
  obtain⟨k,I,rfl,o⟩:=hrel;obtain⟨A,c,rfl⟩:=CG o.out.1;by_cases a5:k<18
  ·have hl:=a1.out k
   have hb:=HB.out k;have R:=Hd o.out.1;have U:=Hd o.out.2;obtain⟨n,J⟩:∃n,(L k).length=n:=⟨_,rfl⟩
   have t:=Hd (HP.out k);have a9:=HI.out k a5;have a4:=Hd (Lu 3 (oH oO (k:Nat)) rfl);rw[J]at R hl ⊢;have a8:(k:Int)<18:=by omega
   have j:Hid ((k != 0&&H k)=false->IE w (oG A n c) (L (k+1)) wr):=Hd (fun h=>by rw[hb,h];simp only[Bool.false_eq_true,if_false,List.append_nil];exact⟨by rw[J];exact R.out,U.out⟩);have l:Hid ((k != 0&&H k)=true->∀P c' w',w'.ownsRow w.heap.size 3 1 (oG P (n+1) c') (n+1) ((L k).map (fun k=>oH oO (k:Nat))++[oH oO (k:Nat)])->Below w.heap.size w w'->IE w (oG P (n+1) c') (L (k+1)) w'):=Hd (fun h P c' w' h1 h2=>by rw[hb,h,if_pos rfl];exact⟨by rw[Cb,J,BB];exact h1,h2⟩)
   clear hb J o;have a6:=U.out.size;by_cases h0:k=0
   ·have hz:((k:Int) != 0)=false:=by rw[h0];rfl
    replace j:=Hd (j.out (by rw[h0];rfl));clear h0 l;go_wp2;go_roundw
    case rel=>exact⟨k+1,nX,oD,j⟩
    case measure=>simp[intOf];omega
   ·have hz:((k:Int) != 0)=true:=by simpa using h0
    have a3:(k != 0)=true:=by simpa using h0
    rw[a3]at j l;clear h0 a3;cases p:H k with
    | false=>
     rw[p]at t;replace j:=Hd (j.out (by rw[p];rfl));clear p l;go_wp2_with (go_at_call 31;refine(t.out _).mono ?_;rintro e w1 ⟨rfl,rfl⟩)
     go_roundw
     case rel=>exact⟨k+1,nX,oD,j⟩
     case measure=>simp[intOf];omega
    | true=>
     rw[p]at t l;clear p j;go_wp2_with (first
      | (go_at_call 31;refine(t.out _).mono ?_;rintro e w1 ⟨rfl,rfl⟩)
      | (
       at_builtin;refine DC Md (.tmp 18) (.tmp 20) rfl rfl (base:=w.heap.size) (n:=n) (m:=1) (N:=n+1) (xs:=(L k).map (fun k=>oH oO (k:Nat))) (news:=[oH oO (k:Nat)]) rfl rfl (R.out.alloc _) (a4.out _) rfl oB nX oC ?_
       intro A6 c6 w6 r1 r2 r3;have HF:=Hd (l.out rfl _ _ _ r1 ((U.out.alloc a6 _).trans (r2.below oC)));clear r1 r2 r3))
     go_roundw
     case rel=>exact⟨k+1,nX,oD,HF⟩
     case measure=>simp[intOf];omega
  ·obtain rfl:k=18:=by omega
   go_wp2;go_ret;exact⟨_,rfl,o.out⟩
def gU{b:Nat}(C:D9 w)(h:Fo w ev P)(j:Ah w b 26 #[ev])(op:Int) :
  Calls Tryz.prog 25 #[oH oO op,oI (oM ⟨b,0,oN⟩)] w fun e w'=>e=oQ (oK (P (Gr op)))/\Below w.heap.size w w':=by
 obtain⟨I,t,o⟩:∃I:oU->Prop,(∀w',I w'->Below w.heap.size w w')/\(∀w',Below w.heap.size w w'->I w'):=⟨_,fun _ h=>h,fun _ h=>h⟩
 have hI:I w.drew:=o _ (Below.refl _ _).drew;have a0:Nonempty (Wd I):=⟨⟨_,hI⟩⟩
 have i:=Hd (fun x:Wd I=>t _ x.ok);have p:=fun y:Wd I=>(j.below (i.out y) j.lt).cell 0
 have U:=fun y:Wd I=>(j.below (i.out y) j.lt).lt
 simp at p;have J:=Hd (fun y:Wd I=>T8 (I:=I) (v:=oH oO (Gr op)) ((UT op (C.later (i.out y))).mono fun e w' l=>⟨l.1,l.2▸y.ok⟩));have R:=Hd (fun y:Wd I=>T8 (I:=I) (v:=oK (P (Gr op))) ((h (Gr op) y.w (i.out y)).mono fun e w' l=>⟨l.1,o _ ((i.out y).trans (l.2.mono (i.out y).size))⟩));clear C h j t o;generalize Gr op=q at *;generalize P q=r at *;go_enter func25,ntmps25
 go_wp2;refine Y7 I nZ nZ hI ?_;repeat (go_big_quiet_step (first|(go_at_call 26;exact J.out _)|(go_at_call 20;exact R.out _)))
 refine wpQuiet_nil ?_;rintro _ ⟨x,rfl⟩;have T:=Hd (i.out x);clear p U;go_wp2;go_ret;exact⟨rfl,T.out⟩
def JX(P:Int->Bool)(s:ByteArray):Bool:=(Ey s 18).any fun k=>P (Gr k)
def aC{B b:Nat}(hT:D9 w)(h:Fo w ev P)(i:Ah w b 26 #[ev]){l:List Nat}(hl:l.length<=18)(hr:w.ownsRow B 3 1 v l.length (l.map fun k=>oH oO (k:Nat))) :
  Calls Tryz.prog 23 #[v,.func (.func 25) #[] #[oI (oM ⟨b,0,oN⟩)]] w fun e w'=>e=oQ (oK (l.any fun k=>P (Gr k)))/\Below w.heap.size w w':=by
 obtain⟨A,c,rfl⟩:=CG hr;have HF:=Hd fun y (hy:Below w.heap.size w y) (op:Int)=>gU (hT.later hy) (h.later hy) (i.below hy i.lt) op
 have HR:=Hd hr;obtain⟨F,hF⟩:∃F:Nat->Bool,∀k:Nat,P (Gr k)=F k:=⟨_,fun _=>rfl⟩
 simp only[hF];have a2:=Hd hF;obtain⟨n,hn⟩:∃n,l.length=n:=⟨_,rfl⟩
 rw[hn]at hl ⊢;have I:=Hd hn;clear hT h i hr hF hn;have HX:Hid (Calls Tryz.prog 46 #[oG A n c,.func (.func 25) #[] #[oI (oM ⟨b,0,oN⟩)]] w fun e w'=>(∃k:Int,e=oQ (oH oO k)/\decide (0<=k)=l.any F)/\Below w.heap.size w w'):=Hd (by
  go_enter func46,ntmps46
  go_wp2;go_loopw [5,8] (fun _ a1 wr=>∃k:Nat,k<=n/\a1=oH oO k/\Hid (l.any F=(l.drop k).any F)/\Hid (Below w.heap.size w wr)) (fun _ a1 _=>n-(intOf a1).toNat)
  case atStart=>exact⟨0,AX _,rfl,Hd rfl,Hd (Below.refl _ _)⟩
  case round=>
   obtain⟨k,hk,rfl,T,j⟩:=hrel;by_cases a3:k<n
   ·have a0:k<l.length:=by rw[I.out];exact a3
    have o:=T.out;rw[List.drop_eq_getElem_cons a0,List.any_cons]at o;obtain⟨g,rfl,J,hc⟩:∃g,A=oM ⟨g,0,oN⟩/\g<w.heap.size/\oT w ⟨g,k,oN⟩=oM (oH oO (l[k]:Nat)):=by
     rcases Bj HR.out with⟨-,e⟩|⟨g,c',e,-,J,-⟩
     ·rw[I.out]at e
      omega
     ·cases e
      refine⟨g,rfl,J,?_⟩;rw[Bh HR.out k (by rw[I.out];omega),pG,eG a0];rfl
    have d0:=(j.out.cell (p:=⟨g,k,oN⟩) J).trans hc;have dl:=A0 J j.out.size;have U:=HF.out wr j.out (l[k]:Nat);rw[a2.out]at U;generalize l[k]=x at *;have C:=Hd U;clear U a0 T;have a4:=j;cases t:F x with
    | true=>
     rw[t]at C o;have p:=Hd o;clear o t;go_wp2_with (go_at_call 25;refine C.out.mono ?_;rintro e w2 ⟨rfl,i⟩;have R:=Hd (j.out.trans (i.mono j.out.size));clear i)
     go_ret;exact⟨⟨k,rfl,by rw[p.out];exact decide_eq_true nX⟩,R.out⟩
    | false=>
     rw[t,Bool.false_or]at o;rw[t]at C;have p:=Hd o;clear o t;go_wp2_with (go_at_call 25;refine C.out.mono ?_;rintro e w2 ⟨rfl,i⟩;have R:=Hd (j.out.trans (i.mono j.out.size));clear i)
     go_roundw
     case rel=>exact⟨k+1,nX,oD,p,R⟩
     case measure=>simp[intOf];omega
   ·obtain rfl:k=n:=by omega
    have o:=T.out;rw[List.drop_of_length_le (by rw[I.out];exact Ay _)]at o;have p:=Hd o;clear o;go_wp2;go_ret;exact⟨⟨-1,rfl,by rw[p.out];rfl⟩,j.out⟩)
 go_enter func23,ntmps23
 go_wp2_with (go_at_call 46;refine HX.out.mono ?_;rintro e w1 ⟨⟨k,rfl,hk⟩,i⟩;have j:=Hd i;have HK:=Hd hk;clear i hk)
 go_ret;exact⟨by rw[<-HK.out];rfl,j.out⟩
def Oz{p:Option Addr}(j:D9 w)(h:Fo w (.pointer p) P)(s:ByteArray):Calls Tryz.prog 8 #[.pointer p,oJ s] w fun e w'=>e=oQ (oK (JX P s))/\Below w.heap.size w w':=by
 have h0:=AG w (.cells #[.pointer p] 26);have C:=Ah.new w 26 #[.pointer p];have T:=Hd (cH (j.later h0) s);have J:=Hd fun y v (i:IE (w.alloc (.cells #[.pointer p] 26)) v (Ey s 18) y)=>aC (j.later (h0.trans (i.2.mono h0.size))) (h.later (h0.trans (i.2.mono h0.size))) (C.below i.2 oA) (Nq s 18) i.1
 have l:=Hd h0;clear j h h0 C;unfold JX;go_enter func8,ntmps8
 go_wp2_with (first
  | (go_at_call 24;refine T.out.mono ?_;rintro e U ⟨v,rfl,i⟩;have R:=Hd (J.out _ _ i);have o:=Hd (l.out.trans (i.2.mono l.out.size));clear i)
  | (go_at_call 23;refine R.out.mono ?_;rintro e w2 ⟨rfl,t⟩;have I:=Hd (o.out.trans (t.mono o.out.size));clear t))
 go_ret;exact⟨rfl,I.out⟩
def JW(w:oU)(v:oV)(P:Int->Bool):Prop:=(∃b c,v=oG (oM ⟨b,0,oN⟩) 39 c/\b<w.heap.size/\∀k:Nat,k<39->oT w ⟨b,k,oN⟩=oM (oK (P k)))/\∀t,t<0\/39<=t->P t=false
def JW.later{y:oU}(h:JW w v P)(j:Below w.heap.size w y):JW y v P:=by obtain⟨⟨b,c,rfl,i,l⟩,o⟩:=h;exact⟨⟨b,c,rfl,A0 i j.size,fun k p=>(j.cell (p:=⟨b,k,oN⟩) i).trans (l k p)⟩,o⟩
def Mq(h:JW w v P)(t:Int):Calls Tryz.prog 28 #[v,oH oO t] w fun e w'=>e=oQ (oK (P t))/\w=w':=by
 obtain⟨⟨b,c,rfl,l,i⟩,j⟩:=h;by_cases h0:0<=t/\t<39
 ·obtain⟨k,rfl⟩:=Int.eq_ofNat_of_zero_le h0.1
  have C:=i k nX;have J:(k:Int)<39:=by omega
  have I:(0:Int)<=(k:Int):=by omega
  generalize P k=x at *;clear i j h0;go_enter func28,ntmps28
  go_wp2_with fail
  go_ret;exact⟨rfl,rfl⟩
 ·rw[j t nX]
  clear i j;by_cases o:0<=t
  ·have p:¬t<39:=by omega
   clear h0;go_enter func28,ntmps28
   go_wp2_with fail
   go_ret;exact⟨rfl,rfl⟩
  ·clear h0
   go_enter func28,ntmps28
   go_wp2_with fail
   go_ret;exact⟨rfl,rfl⟩
def F4(F:Nat->Bool)(k:Nat):Nat->Bool
 | 0=>false
 | n+1=>F k||F4 F (k+1) n
def Vo(F:Nat->Bool)(k:Nat)(h:k<39):F4 F k (39-k)=(F k||F4 F (k+1) (39-(k+1))):=by rw[show 39-k=(39-(k+1))+1 by omega];rfl
def JV(s:ByteArray)(k:Nat):Bool:=Lib.hasPrefix (Co.getD (k-23) []) s.data.toList
def LZ(P:Int->Bool)(s:ByteArray)(p:Bool):Bool:=P 1||(p&&((P 3&&(s.toList.isEmpty||Ek s.data.toList))||((P 4&&G5 s.data.toList)||F4 (fun k=>JV s k&&P k) 23 16)))
def Zz(k:Nat)(i:23<=k)(j:k<39):Ms k=bs (Co.getD (k-23) []):=by unfold Ms;rw[if_neg nX,if_neg nX,if_neg nX,if_neg nX,if_neg nX,if_pos ⟨nX,nX⟩,show ((k:Int)-23).toNat=k-23 by omega]
def bH{g:Nat}(hT:D9 w)(h:Fo w ev P)(hs:s.size<=9223372036854775807)(hm:∀y,Below w.heap.size w y->Calls Tryz.prog 10 #[oI (oM ⟨g,0,oN⟩)] y fun e w'=>e=oQ (.tuple #[oJ s,oK p])/\w'=y) :
  Calls Tryz.prog 11 #[ev,oI (oM ⟨g,0,oN⟩)] w fun e w'=>e=oQ (oK (LZ P s p))/\Below w.heap.size w w':=by
 have HM:=Hd hm;have H1:=Hd fun y (C:Below w.heap.size w y)=>h 1 y C
 have H3:=Hd fun y (C:Below w.heap.size w y)=>h 3 y C
 have H4:=Hd fun y (C:Below w.heap.size w y)=>h 4 y C
 have HK:=Hd fun(k:Nat) y (C:Below w.heap.size w y)=>h k y C
 have HN:=Hd (Nk s hs);have HD:=Hd (mc s hs);have HS:=Hd fun(k:Nat) (h1:23<=k) (h2:k<39) y (C:Below w.heap.size w y)=>(Zz k h1 h2)▸jA (k:Int) nX (hT.later C)
 have hP:∀k y,Calls Tryz.prog 31 #[oJ (bs (Co.getD (k-23) [])),oJ s] y fun e w'=>e=oQ (oK (JV s k))/\w'=y:=fun k y=>Tryz.strings_HasPrefix (bs (Co.getD (k-23) [])) s y
 have HP:=Hd hP;have HA:=Hd (Vo (fun k=>JV s k&&P k));unfold LZ;clear h hT hm hs hP;obtain⟨F,hF⟩:∃F:Nat->Bool,∀k:Nat,P k=F k:=⟨_,fun _=>rfl⟩
 obtain⟨W,hW⟩:∃W:Nat->Bool,∀k,JV s k=W k:=⟨_,fun _=>rfl⟩
 obtain⟨a4,a5⟩:∃a4:Nat->ByteArray,∀k,bs (Co.getD (k-23) [])=a4 k:=⟨_,fun _=>rfl⟩
 simp only[hF,hW,a5]at HK HP HA HS ⊢;clear hF hW a5;generalize P 1=b1,P 3=R,P 4=b4,Ek s.data.toList=bn,G5 s.data.toList=bd at *;generalize aa:s.toList.isEmpty=be at *;generalize hL:F4 (fun k=>W k&&F k) 23 16=L at *;have a7:Hid (L=F4 (fun k=>W k&&F k) 23 (39-23)):=Hd hL.symm;clear hL;obtain⟨V,hV⟩:∃V,(b1||(p&&((R&&(be||bn))||((b4&&bd)||L))))=V:=⟨_,rfl⟩
 rw[hV];have HV:=Hd hV;clear hV;have i:=Hd (Below.refl w.heap.size w);cases b1
 case true=>
  go_enter func11,ntmps11
  go_wp2_with (go_at_call 20;refine(H1.out _ i.out).mono ?_;rintro e l ⟨rfl,j⟩;replace i:=Hd (i.out.trans (j.mono i.out.size));clear j)
  go_ret;exact⟨by rw[<-HV.out];rfl,i.out⟩
 cases p
 case false=>
  go_enter func11,ntmps11
  go_wp2_with (first
   | (go_at_call 20;refine(H1.out _ i.out).mono ?_;rintro e l ⟨rfl,j⟩;replace i:=Hd (i.out.trans (j.mono i.out.size));clear j)
   | (go_at_call 10;refine(HM.out _ i.out).mono ?_;rintro e l ⟨rfl,rfl⟩))
  go_ret;exact⟨by rw[<-HV.out];rfl,i.out⟩
 have h1:(R=true/\be=true)\/(R=true/\be=false/\bn=true)\/(R=true/\be=false/\bn=false/\True)\/(R=false/\True):=by cases R<;>cases be<;>cases bn<;>simp
 have h2:(b4=true/\bd=true)\/(b4=true/\bd=false)\/b4=false:=by cases b4<;>cases bd<;>simp
 rcases h1 with⟨rfl,rfl⟩|⟨rfl,rfl,rfl⟩|⟨rfl,rfl,rfl,mk⟩|⟨rfl,mk⟩
 case' inr.inr.inl=>rcases h2 with⟨rfl,rfl⟩|⟨rfl,rfl⟩|rfl
 case' inr.inr.inr=>rcases h2 with⟨rfl,rfl⟩|⟨rfl,rfl⟩|rfl
 all_goals
  go_enter func11,ntmps11
  go_wp2_with (first
   | (go_at_call 20;(first|(with_reducible refine(H1.out _ i.out).mono ?_)|(with_reducible refine(H3.out _ i.out).mono ?_)|(with_reducible refine(H4.out _ i.out).mono ?_));rintro e l ⟨rfl,j⟩;replace i:=Hd (i.out.trans (j.mono i.out.size));clear j)
   | (go_at_call 10;refine(HM.out _ i.out).mono ?_;rintro e l ⟨rfl,rfl⟩)
   | (go_at_call 29;refine(HN.out _).mono ?_;rintro e l ⟨rfl,j⟩;replace i:=Hd (i.out.trans (j.mono i.out.size));clear j)
   | (go_at_call 30;refine(HD.out _).mono ?_;rintro e l ⟨rfl,j⟩;replace i:=Hd (i.out.trans (j.mono i.out.size));clear j))
  first
   | (
    go_ret;exact⟨by rw[<-HV.out];rfl,i.out⟩)
   | (
    go_loopw [7] (fun a3 wr=>∃k:Nat,23<=k/\k<=39/\a3=oH oO k/\Hid (L=F4 (fun k=>W k&&F k) k (39-k))/\Hid (Below w.heap.size w wr)) (fun a3 _=>39-(intOf a3).toNat)
    case atStart=>exact⟨23,nX,nX,rfl,a7,i⟩
    case round=>
     obtain⟨k,a8,hk,rfl,HL,t⟩:=hrel;by_cases a6:k<39
     ·have o:=HL.out
      rw[HA.out k a6]at o;have a9:(k:Int)<=38:=by omega
      have a2:=Hd (HS.out k a8 a6 _ t.out);have U:=Hd (HP.out k);have a0:=Hd (HK.out k);cases J:W k
      ·rw[J]at U
       simp only[J,Bool.false_and,Bool.false_or]at o;have I:Hid (L=F4 (fun k=>W k&&F k) (k+1) (39-(k+1))):=Hd o;clear o J;go_wp2_with (first
        | (go_at_call 32;refine a2.out.mono ?_;rintro e l ⟨rfl,rfl⟩)
        | (go_at_call 31;refine(U.out _).mono ?_;rintro e l ⟨rfl,rfl⟩))
       go_roundw
       case rel=>exact⟨k+1,nX,nX,oD,I,t⟩
       case measure=>simp[intOf];omega
      ·rw[J]at U
       simp only[J,Bool.true_and]at o;cases T:F k
       ·rw[T]at a0
        simp only[T,Bool.false_or]at o;have I:Hid (L=F4 (fun k=>W k&&F k) (k+1) (39-(k+1))):=Hd o;clear o J T;go_wp2_with (first
         | (go_at_call 32;refine a2.out.mono ?_;rintro e l ⟨rfl,rfl⟩)
         | (go_at_call 31;refine(U.out _).mono ?_;rintro e l ⟨rfl,rfl⟩)
         | (go_at_call 20;refine(a0.out _ t.out).mono ?_;rintro e l ⟨rfl,j⟩;have a1:=Hd (t.out.trans (j.mono t.out.size));clear j))
        go_roundw
        case rel=>exact⟨k+1,nX,nX,oD,I,a1⟩
        case measure=>simp[intOf];omega
       ·rw[T]at a0
        simp only[T,Bool.true_or]at o;have I:Hid (L=true):=Hd o;clear o J T;go_wp2_with (first
         | (go_at_call 32;refine a2.out.mono ?_;rintro e l ⟨rfl,rfl⟩)
         | (go_at_call 31;refine(U.out _).mono ?_;rintro e l ⟨rfl,rfl⟩)
         | (go_at_call 20;refine(a0.out _ t.out).mono ?_;rintro e l ⟨rfl,j⟩;have a1:=Hd (t.out.trans (j.mono t.out.size));clear j))
        go_ret;exact⟨by rw[<-HV.out,I.out];rfl,a1.out⟩
     ·obtain rfl:k=39:=by omega
      have I:Hid (L=false):=Hd HL.out;go_wp2;go_ret;exact⟨by rw[<-HV.out,I.out];rfl,t.out⟩)
def lN(s t:ByteArray)(w:oU):Calls Tryz.prog 35 #[oJ s,oJ t] w fun e w'=>e=oQ (oK (Lib.hasPrefix s.data.toList t.data.toList))/\w=w':=by
 have i:=Lib.hasPrefix_raw s t;rw[<-i];clear i;by_cases h:t.size<=s.size
 ·rw[decide_eq_true h,Bool.true_and]
  have j:(t.size:Int)<=(s.size:Int):=by omega
  go_enter func35,ntmps35
  go_wp2;go_ret;exact⟨rfl,rfl⟩
 ·rw[decide_eq_false h,Bool.false_and]
  have j:¬(t.size:Int)<=(s.size:Int):=by omega
  go_enter func35,ntmps35
  go_wp2;go_ret;exact⟨rfl,rfl⟩
def dO(s t:ByteArray)(w:oU):Calls Tryz.prog 48 #[oJ s,oJ t] w fun e w'=>e=oQ (oK (Lib.hasPrefix s.data.toList t.data.toList))/\w=w':=by
 have i:=Lib.hasPrefix_raw s t;rw[<-i];clear i;by_cases h:t.size<=s.size
 ·rw[decide_eq_true h,Bool.true_and]
  have j:(t.size:Int)<=(s.size:Int):=by omega
  go_enter func48,ntmps48
  go_wp2;go_ret;exact⟨rfl,rfl⟩
 ·rw[decide_eq_false h,Bool.false_and]
  have j:¬(t.size:Int)<=(s.size:Int):=by omega
  go_enter func48,ntmps48
  go_wp2;go_ret;exact⟨rfl,rfl⟩
def kV(k:Nat):Hk k=bs (CB.getD k []):=by unfold Hk;rw[if_neg nX,Int.toNat_natCast]
def nO(s:ByteArray):Ey s 1=[]:=by rw[show (1:Nat)=0+1 from rfl,N2];rfl
def aO(w:oU)(s:ByteArray):Calls Tryz.prog 27 #[oJ s] w fun e w'=>∃v,e=oQ v/\IE w v (Ey s 18) w':=by
 have HB:Hid (∀k,Ey s (k+1)=Ey s k++if (k != 0&&Lib.hasPrefix (CB.getD k []) s.data.toList)=true then[k] else[]):=Hd (N2 s);have a5:=Hd (Nq s);have H1:=Hd (nO s);have t:∀k y,Calls Tryz.prog 48 #[oJ (bs (CB.getD k [])),oJ s] y fun e w'=>e=oQ (oK (Lib.hasPrefix (CB.getD k []) s.data.toList))/\y=w':=fun k y=>dO (bs (CB.getD k [])) s y
 have T:∀(k:Nat) y,Calls Tryz.prog 49 #[oH oO k] y fun e w'=>e=oQ (oJ (bs (CB.getD k [])))/\y=w':=fun k y=>kV k▸mE k y
 obtain⟨a1,a2⟩:∃a1:Nat->ByteArray,∀k,bs (CB.getD k [])=a1 k:=⟨_,fun _=>rfl⟩
 simp only[a2]at t T;clear a2;generalize Ey s=L at *;obtain⟨H,hH⟩:∃H:Nat->Bool,∀k,Lib.hasPrefix (CB.getD k []) s.data.toList=H k:=⟨_,fun _=>rfl⟩
 simp only[hH]at t HB;clear hH;have HP:=Hd t;have HT:=Hd T;clear t T;go_enter func27,ntmps27
 go_wp2;go_loopw [3,4] (fun a9 i wr=>∃k:Nat,1<=k/\k<=18/\i=oH oO k/\Hid (IE w a9 (L k) wr)) (fun _ i _=>18-(intOf i).toNat)
 case atStart=>exact⟨1,nX,nX,rfl,Hd (by rw[H1.out];exact⟨⟨rfl,.inl ⟨rfl,rfl⟩⟩,Below.refl _ _⟩)⟩
 case round=>
  obtain⟨k,ab,hk,rfl,l⟩:=hrel;obtain⟨A,c,rfl⟩:=CG l.out.1;by_cases ad:k<18
  ·have hl:=a5.out k
   have j:=HB.out k;have J:=Hd l.out.1;have P:=Hd l.out.2;obtain⟨n,o⟩:∃n,(L k).length=n:=⟨_,rfl⟩
   have p:=Hd (HP.out k);have a0:=Hd (HT.out k);have a6:=Hd (Lu 3 (oH oO (k:Nat)) rfl);rw[o]at J hl ⊢;have aa:(k:Int)<=17:=by omega
   have a7:(k != 0)=true:=by simp;omega
   rw[a7,Bool.true_and]at j;have a8:=P.out.size;cases C:H k with
   | false=>
    rw[C]at p j;have a3:Hid (IE w (oG A n c) (L (k+1)) wr):=Hd (by rw[j];simp only[Bool.false_eq_true,if_false,List.append_nil];exact⟨by rw[o];exact J.out,P.out⟩);clear C j o l;go_wp2_with (first
     | (go_at_call 49;refine(a0.out _).mono ?_;rintro e U ⟨rfl,rfl⟩)
     | (go_at_call 48;refine(p.out _).mono ?_;rintro e U ⟨rfl,rfl⟩))
    go_roundw
    case rel=>exact⟨k+1,nX,nX,oD,a3⟩
    case measure=>simp[intOf];omega
   | true=>
    rw[C]at p j;have a4:Hid (∀I R w',w'.ownsRow w.heap.size 3 1 (oG I (n+1) R) (n+1) ((L k).map (fun k=>oH oO (k:Nat))++[oH oO (k:Nat)])->Below w.heap.size w w'->IE w (oG I (n+1) R) (L (k+1)) w'):=Hd (fun I R w' h1 h2=>by rw[j,if_pos rfl];exact⟨by rw[Cb,o,BB];exact h1,h2⟩)
    clear C j o l;go_wp2_with (first
     | (go_at_call 49;refine(a0.out _).mono ?_;rintro e U ⟨rfl,rfl⟩)
     | (go_at_call 48;refine(p.out _).mono ?_;rintro e U ⟨rfl,rfl⟩)
     | (
      at_builtin;refine DC Md (.tmp 13) (.tmp 15) rfl rfl (base:=w.heap.size) (n:=n) (m:=1) (N:=n+1) (xs:=(L k).map (fun k=>oH oO (k:Nat))) (news:=[oH oO (k:Nat)]) rfl rfl (J.out.alloc _) (a6.out _) rfl oB nX oC ?_
      intro A6 c6 w6 r1 r2 r3;have HF:=Hd (a4.out _ _ _ r1 ((P.out.alloc a8 _).trans (r2.below oC)));clear r1 r2 r3))
    go_roundw
    case rel=>exact⟨k+1,nX,nX,oD,HF⟩
    case measure=>simp[intOf];omega
  ·obtain rfl:k=18:=by omega
   go_wp2;go_ret;exact⟨_,rfl,l.out⟩
def kU{x:Nat}(h:x∈Ey s 18):1<=x/\x<18:=by unfold Ey at h;rw[List.mem_filter,List.mem_range]at h;refine⟨Nat.pos_of_ne_zero ?_,h.1⟩;rintro rfl;exact absurd h.2 (by simp[Ni])
def jM(h:JW w v P)(s:ByteArray):Calls Tryz.prog 9 #[v,oJ s] w fun e w'=>e=oQ (oK (JX P s))/\Below w.heap.size w w':=by
 have HM:=Hd (aO w s);have HC:=Hd fun y (hy:Below w.heap.size w y) (x:Nat) (h1:1<=x) (h2:x<18)=>(show P (5+(x:Int))=P (Gr x) by unfold Gr;rw[if_pos (show 1<=(x:Int)/\(x:Int)<=17 by omega)])▸Mq (h.later hy) (5+(x:Int))
 have HX:=Hd fun x=>kU (s:=s) (x:=x)
 unfold JX;clear h;obtain⟨F,hF⟩:∃F:Nat->Bool,∀k:Nat,P (Gr k)=F k:=⟨_,fun _=>rfl⟩
 simp only[hF]at HC ⊢;clear hF;have a0:=Hd (Nq s 18);generalize Ey s 18=l at *;obtain⟨n,U⟩:∃n,l.length=n:=⟨_,rfl⟩
 have C:=Hd U;go_enter func9,ntmps9
 go_wp2_with (go_at_call 27;refine HM.out.mono ?_;rintro e w1 ⟨v1,rfl,J⟩;obtain⟨A,c,rfl⟩:=CG J.1;have HR:=Hd J.1;have R:=Hd J.2;clear J)
 have a1:=a0.out;rw[U]at a1;clear U
 go_loop [6] (fun i=>∃k:Nat,k<=n/\i=oH oO k/\Hid (l.any F=(l.drop k).any F)) (fun i=>n-(intOf i).toNat)
 case atStart=>exact⟨0,AX _,rfl,Hd rfl⟩
 case round=>
  obtain⟨k,hk,rfl,T⟩:=hrel;by_cases a2:k<n
  ·have I:k<l.length:=by rw[C.out];exact a2
   have j:=T.out;rw[List.drop_eq_getElem_cons I,List.any_cons]at j;obtain⟨a3,a4⟩:=HX.out l[k] (List.getElem_mem I);obtain⟨g,rfl,hg,hc⟩:∃g,A=oM ⟨g,0,oN⟩/\g<w1.heap.size/\oT w1 ⟨g,k,oN⟩=oM (oH oO (l[k]:Nat)):=by
    rcases Bj HR.out with⟨-,e⟩|⟨g,c',e,-,hg,-⟩
    ·rw[C.out]at e
     omega
    ·cases e
     refine⟨g,rfl,hg,?_⟩;rw[Bh HR.out k (by rw[C.out];omega),pG,eG I];rfl
   have t:=Hd (HC.out w1 R.out l[k] a3 a4);generalize l[k]=x at *;have a5:(x:Int)<=17:=by omega
   clear I T;cases p:F x with
   | true=>
    rw[p]at t j;have o:=Hd j;clear j p;go_wp2_with (go_at_call 28;refine t.out.mono ?_;rintro e w2 ⟨rfl,rfl⟩)
    go_ret;exact⟨by rw[o.out];rfl,R.out⟩
   | false=>
    rw[p,Bool.false_or]at j;rw[p]at t;have o:=Hd j;clear j p;go_wp2_with (go_at_call 28;refine t.out.mono ?_;rintro e w2 ⟨rfl,rfl⟩)
    go_round
    case rel=>exact⟨k+1,nX,oD,o⟩
    case measure=>simp[intOf];omega
  ·obtain rfl:k=n:=by omega
   have j:=T.out;rw[List.drop_of_length_le (by rw[C.out];exact Ay _)]at j;have o:=Hd j;clear j;go_wp2;go_ret;exact⟨by rw[o.out];rfl,R.out⟩
def Wa(h:JW w v P)(hs:s.size<=9223372036854775807) :
  Calls Tryz.prog 12 #[v,oJ s,oK p] w fun e w'=>e=oQ (oK (LZ P s p))/\Below w.heap.size w w':=by
 have H1:=Hd (Mq h 1);have H3:=Hd (Mq h 3);have H4:=Hd fun y (hy:Below w.heap.size w y)=>Mq (h.later hy) 4
 have HK:=Hd fun(k:Nat) y (hy:Below w.heap.size w y)=>(show P (23+(k:Int))=P ((k+23:Nat):Int) by congr 1;omega)▸Mq (h.later hy) (23+(k:Int))
 have HN:=Hd (lQ s hs);have HD:=Hd (cJ s hs);have HW:=Hd (WH w);have hP:∀k y,Calls Tryz.prog 35 #[oJ (bs (Co.getD (k-23) [])),oJ s] y fun e w'=>e=oQ (oK (JV s k))/\y=w':=fun k y=>lN (bs (Co.getD (k-23) [])) s y
 have HP:=Hd hP;have hC:∀k,k<16->(w.alloc (.cells Nt 9)).cell? ⟨w.heap.size,k,oN⟩=oM (oJ (bs (Co.getD (k+23-23) []))):=fun k hk=>by rw[(Ah.new w 9 Nt).cell k,Nat.add_sub_cancel];unfold Nt;rw[List.getElem?_toArray,pG,dG,eG (show k<Co.length from hk)];rfl
 have HA:=Hd (Vo (fun k=>JV s k&&P k));unfold LZ;clear h hs hP;obtain⟨F,hF⟩:∃F:Nat->Bool,∀k:Nat,P k=F k:=⟨_,fun _=>rfl⟩
 obtain⟨W,hW⟩:∃W:Nat->Bool,∀k,JV s k=W k:=⟨_,fun _=>rfl⟩
 obtain⟨a1,a2⟩:∃a1:Nat->ByteArray,∀k,bs (Co.getD (k-23) [])=a1 k:=⟨_,fun _=>rfl⟩
 simp only[a2]at hC;simp only[hF,hW,a2]at HK HP HA ⊢;have a4:=Hd hC;clear hF hW a2 hC;generalize P 1=b1,P 3=t,P 4=b4,Ek s.data.toList=bn,G5 s.data.toList=bd at *;generalize aa:s.toList.isEmpty=R at *;generalize hL:F4 (fun k=>W k&&F k) 23 16=L at *;have a7:Hid (L=F4 (fun k=>W k&&F k) (0+23) (39-(0+23))):=Hd hL.symm;clear hL;obtain⟨V,hV⟩:∃V,(b1||(p&&((t&&(R||bn))||((b4&&bd)||L))))=V:=⟨_,rfl⟩
 rw[hV];have J:=Hd hV;clear hV;cases b1
 case true=>
  go_enter func12,ntmps12
  go_wp2_with (go_at_call 28;refine H1.out.mono ?_;rintro e i ⟨rfl,rfl⟩)
  go_ret;exact⟨by rw[<-J.out];rfl,Below.refl _ _⟩
 cases p
 case false=>
  go_enter func12,ntmps12
  go_wp2_with (go_at_call 28;refine H1.out.mono ?_;rintro e i ⟨rfl,rfl⟩)
  go_ret;exact⟨by rw[<-J.out];rfl,Below.refl _ _⟩
 have h1:(t=true/\R=true)\/(t=true/\R=false/\bn=true)\/(t=true/\R=false/\bn=false/\True)\/(t=false/\True):=by cases t<;>cases R<;>cases bn<;>simp
 rcases h1 with⟨rfl,rfl⟩|⟨rfl,rfl,rfl⟩|⟨rfl,rfl,rfl,mk⟩|⟨rfl,mk⟩
 all_goals
  go_enter func12,ntmps12
  go_wp2_with (first
   | (go_at_call 28;(first|(with_reducible refine H1.out.mono ?_)|(with_reducible refine H3.out.mono ?_));rintro e i ⟨rfl,rfl⟩)
   | (go_at_call 33;refine(HN.out _).mono ?_;rintro e i ⟨rfl,rfl⟩)
   | (
    go_at_call 34;refine HW.out.mono ?_;rintro e i ⟨rfl,a0⟩
    have a6:Hid (∀k,k<16->oT i ⟨w.heap.size,k,oN⟩=oM (oJ (a1 (k+23)))):=Hd (by rw[a0];exact a4.out);have T:Hid (Below w.heap.size w i):=Hd (by rw[a0];exact AG _ _);have ab:w.heap.size<i.heap.size:=by rw[a0];simp
    clear a0))
  first
   | (
    go_ret;exact⟨by rw[<-J.out];rfl,Below.refl _ _⟩)
   | (
    clear a4 HW
    go_loop [8] (fun a3=>∃k:Nat,k<=16/\a3=oH oO k/\Hid (L=F4 (fun k=>W k&&F k) (k+23) (39-(k+23)))) (fun a3=>16-(intOf a3).toNat)
    case atStart=>exact⟨0,nX,rfl,a7⟩
    case round=>
     obtain⟨k,hk,rfl,HL⟩:=hrel;by_cases a8:k<16
     ·have j:=HL.out
      rw[HA.out (k+23) nX,Nat.add_right_comm]at j;have a9:(k:Int)<16:=by omega
      have hc:=a6.out k a8;have I:=Hd (HP.out (k+23));have U:=Hd (HK.out k _ T.out);cases o:W (k+23)
      ·rw[o]at I
       simp only[o,Bool.false_and,Bool.false_or]at j;have l:Hid (L=F4 (fun k=>W k&&F k) (k+1+23) (39-(k+1+23))):=Hd j;clear j o;go_wp2_with (go_at_call 35;refine(I.out _).mono ?_;rintro e i ⟨rfl,rfl⟩)
       go_round
       case rel=>exact⟨k+1,nX,oD,l⟩
       case measure=>simp[intOf];omega
      ·rw[o]at I
       simp only[o,Bool.true_and]at j;cases C:F (k+23)
       ·rw[C]at U
        simp only[C,Bool.false_or]at j;have l:Hid (L=F4 (fun k=>W k&&F k) (k+1+23) (39-(k+1+23))):=Hd j;clear j o C;go_wp2_with (first
         | (go_at_call 35;refine(I.out _).mono ?_;rintro e i ⟨rfl,rfl⟩)
         | (go_at_call 28;refine U.out.mono ?_;rintro e i ⟨rfl,rfl⟩))
        go_round
        case rel=>exact⟨k+1,nX,oD,l⟩
        case measure=>simp[intOf];omega
       ·rw[C]at U
        simp only[C,Bool.true_or]at j;have l:Hid (L=true):=Hd j;clear j o C;go_wp2_with (first
         | (go_at_call 35;refine(I.out _).mono ?_;rintro e i ⟨rfl,rfl⟩)
         | (go_at_call 28;refine U.out.mono ?_;rintro e i ⟨rfl,rfl⟩))
        go_ret;exact⟨by rw[<-J.out,l.out];cases b4<;>cases bd<;>rfl,T.out⟩
     ·obtain rfl:k=16:=by omega
      have l:Hid (L=false):=Hd HL.out;have a5:=Hd (H4.out _ T.out);cases b4<;>cases bd
      all_goals
       go_wp2_with (first
        | (go_at_call 28;refine a5.out.mono ?_;rintro e i ⟨rfl,rfl⟩)
        | (go_at_call 36;refine(HD.out _).mono ?_;rintro e i ⟨rfl,rfl⟩))
       go_ret;exact⟨by rw[<-J.out,l.out];rfl,T.out⟩)
