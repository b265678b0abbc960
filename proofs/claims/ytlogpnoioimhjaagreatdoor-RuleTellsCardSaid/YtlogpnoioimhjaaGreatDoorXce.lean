/- Can an operator that begins so come?. -/
import Derived.Test.YtlogpnoioimhjaaGreatDoorXcc
import Derived.Test.YtlogpnoioimhjaaGreatDoorXad
set_option linter.all false
set_option maxRecDepth 100000
set_option maxHeartbeats 16000000
namespace Go.Proofs.YtlogpnoioimhjaaGreatDoor
open Go.RowKit Go.Proofs.Tryz
variable{w:World}{P:Int->Bool}
def NZ(s:ByteArray)(i:Nat):Bool:=i != 0&&Lib.hasPrefix (Dn.getD i []) s.data.toList
def Ip(s:ByteArray)(k:Nat):List Nat:=(List.range k).filter (NZ s)
def YD(s:ByteArray)(k:Nat):Ip s (k+1)=Ip s k++if NZ s k then[k] else[]:=by unfold Ip;rw[List.range_succ,List.filter_append];congr 1;simp[List.filter_cons]
def R6(s:ByteArray)(k:Nat):(Ip s k).length<=k:=by have:=List.length_filter_le (NZ s) (List.range k);rwa [List.length_range]at this
def Lu(w:World)(v:Value)(l:List Nat)(w':World):Prop:=w'.ownsRow w.heap.size 3 1 v l.length (l.map fun k=>.int .i64 (k:Nat))/\Below w.heap.size w w'
def aM(hT:Ei w)(s:ByteArray):Calls Tryz.prog 33 #[.string s] w fun e w'=>∃v,e=.returned v/\Lu w v (Ip s 18) w':=by
 have HB:Hid (∀k,Ip s (k+1)=Ip s k++if (k != 0&&Lib.hasPrefix (Dn.getD k []) s.data.toList)=true then[k] else[]):=Hd (YD s);have a1:=Hd (R6 s);have C:∀k y,Calls Tryz.prog 29 #[.string (bs (Dn.getD k [])),.string s] y fun e w'=>e=.returned (.bool (Lib.hasPrefix (Dn.getD k []) s.data.toList))/\w'=y:=fun k y=>Tryz.strings_HasPrefix (bs (Dn.getD k [])) s y
 have i:∀k,k<18->w.cell? ⟨1,k,none⟩=some (.string (bs (Dn.getD k []))):=fun k I=>by rw[hT.1 k I,dG,eG (show k<Dn.length from I)];rfl
 obtain⟨T,a2⟩:∃T:Nat->ByteArray,∀k,bs (Dn.getD k [])=T k:=⟨_,fun _=>rfl⟩
 simp only[a2]at C i;clear a2 hT;generalize Ip s=L at *;obtain⟨H,hH⟩:∃H:Nat->Bool,∀k,Lib.hasPrefix (Dn.getD k []) s.data.toList=H k:=⟨_,fun _=>rfl⟩
 simp only[hH]at C HB;clear hH;have HP:=Hd C;have c0:=i 0 (by decide);have c1:=i 1 (by decide);have c2:=i 2 (by decide);have c3:=i 3 (by decide);have c4:=i 4 (by decide);have c5:=i 5 (by decide);have c6:=i 6 (by decide);have c7:=i 7 (by decide);have c8:=i 8 (by decide);have c9:=i 9 (by decide);have ca:=i 10 (by decide);have cb:=i 11 (by decide);have cc:=i 12 (by decide);have cd:=i 13 (by decide);have ce:=i 14 (by decide);have cf:=i 15 (by decide);have cg:=i 16 (by decide);have ch:=i 17 (by decide);clear i C;go_enter func33,ntmps33
 go_wp2;obtain⟨X,hX⟩:∃X:Array Value,#[.string (T 0),.string (T 1),.string (T 2),.string (T 3),.string (T 4),.string (T 5),.string (T 6),.string (T 7),.string (T 8),.string (T 9),.string (T 10),.string (T 11),.string (T 12),.string (T 13),.string (T 14),.string (T 15),.string (T 16),.string (T 17)]=X:=⟨_,rfl⟩
 have HI:Hid (∀k:Nat,k<18->∀y,(Instr.index 104 (.agg X) (.int .i64 k)).run Tryz.prog y=.ok (.string (T k)) y):=Hd fun k I y=>by
  rw[<-hX];have e:k=0\/k=1\/k=2\/k=3\/k=4\/k=5\/k=6\/k=7\/k=8\/k=9\/k=10\/k=11\/k=12\/k=13\/k=14\/k=15\/k=16\/k=17:=by omega
  rcases e with rfl|rfl|rfl|rfl|rfl|rfl|rfl|rfl|rfl|rfl|rfl|rfl|rfl|rfl|rfl|rfl|rfl|rfl<;>rfl
 rw[hX];clear hX;clear c0 c1 c2 c3 c4 c5 c6 c7 c8 c9 ca cb cc cd ce cf cg ch;go_loopw [3,4,5,7] (fun a7 _ _ a0 wr=>∃k:Nat,k<=18/\a0=.int .i64 k/\Hid (Lu w a7 (L k) wr)) (fun _ _ _ a0 _=>18-(intOf a0).toNat)
 case atStart=>exact⟨0,AX _,rfl,Hd (by have:L 0=[]:=List.eq_nil_of_length_eq_zero (Nat.le_zero.1 (a1.out 0));rw[this];exact⟨⟨rfl,.inl ⟨rfl,rfl⟩⟩,Below.refl _ _⟩)⟩
 case round=>
  obtain⟨k,I,rfl,o⟩:=hrel;obtain⟨A,c,rfl⟩:=CG o.out.1;by_cases a5:k<18
  ·have hl:=a1.out k
   have hb:=HB.out k;have R:=Hd o.out.1;have U:=Hd o.out.2;obtain⟨n,J⟩:∃n,(L k).length=n:=⟨_,rfl⟩
   have t:=Hd (HP.out k);have a9:=HI.out k a5;have a4:=Hd (L9 3 (.int .i64 (k:Nat)) rfl);rw[J]at R hl ⊢;have a8:(k:Int)<18:=by omega
   have j:Hid ((k != 0&&H k)=false->Lu w (.slice A n c) (L (k+1)) wr):=Hd (fun h=>by rw[hb,h];simp only[Bool.false_eq_true,if_false,List.append_nil];exact⟨by rw[J];exact R.out,U.out⟩);have l:Hid ((k != 0&&H k)=true->∀P c' w',w'.ownsRow w.heap.size 3 1 (.slice P (n+1) c') (n+1) ((L k).map (fun k=>.int .i64 (k:Nat))++[.int .i64 (k:Nat)])->Below w.heap.size w w'->Lu w (.slice P (n+1) c') (L (k+1)) w'):=Hd (fun h P c' w' h1 h2=>by rw[hb,h,if_pos rfl];exact⟨by rw[B8,J,By];exact h1,h2⟩)
   clear hb J o;have a6:=U.out.size;by_cases h0:k=0
   ·have hz:((k:Int) != 0)=false:=by rw[h0];rfl
    replace j:=Hd (j.out (by rw[h0];rfl));clear h0 l;go_wp2;go_roundw
    case rel=>exact⟨k+1,by omega,by go_num,j⟩
    case measure=>simp[intOf];omega
   ·have hz:((k:Int) != 0)=true:=by simpa using h0
    have a3:(k != 0)=true:=by simpa using h0
    rw[a3]at j l;clear h0 a3;cases p:H k with
    | false=>
     rw[p]at t;replace j:=Hd (j.out (by rw[p];rfl));clear p l;go_wp2_with (go_at_call 29;refine(t.out _).mono ?_;rintro e w1 ⟨rfl,rfl⟩)
     go_roundw
     case rel=>exact⟨k+1,by omega,by go_num,j⟩
     case measure=>simp[intOf];omega
    | true=>
     rw[p]at t l;clear p j;go_wp2_with (first
      | (go_at_call 29;refine(t.out _).mono ?_;rintro e w1 ⟨rfl,rfl⟩)
      | (
       at_builtin;refine Dc Mb (.tmp 18) (.tmp 20) rfl rfl (base:=w.heap.size) (n:=n) (m:=1) (N:=n+1) (xs:=(L k).map (fun k=>.int .i64 (k:Nat))) (news:=[.int .i64 (k:Nat)]) rfl rfl (R.out.alloc _) (a4.out _) rfl (by unfold maxLen;omega) (by omega) (by simp;omega) ?_
       intro A6 c6 w6 r1 r2 r3;have HF:=Hd (l.out rfl _ _ _ r1 ((U.out.alloc a6 _).trans (r2.below (by simp;omega))));clear r1 r2 r3))
     go_roundw
     case rel=>exact⟨k+1,by omega,by go_num,HF⟩
     case measure=>simp[intOf];omega
  ·obtain rfl:k=18:=by omega
   go_wp2;go_ret;exact⟨_,rfl,o.out⟩
def Wx{b:Nat}{p:Value}(J:Ei w)(h:EZ w p P)(j:Ah w b 31 #[p])(op:Int) :
  Calls Tryz.prog 34 #[.int .i64 op,.pointer (some ⟨b,0,none⟩)] w fun e w'=>e=.returned (.bool (P (FJ op)))/\Below w.heap.size w w':=by
 obtain⟨I,C,o⟩:∃I:World->Prop,(∀w',I w'->Below w.heap.size w w')/\(∀w',Below w.heap.size w w'->I w'):=⟨_,fun _ h=>h,fun _ h=>h⟩
 have hI:I w.drew:=o _ (Below.refl _ _).drew;have a0:Nonempty (Wd I):=⟨⟨_,hI⟩⟩
 have i:=Hd (fun x:Wd I=>C _ x.ok);have t:=fun y:Wd I=>(j.below (i.out y) j.lt).cell 0
 have gl:=fun y:Wd I=>(j.below (i.out y) j.lt).lt
 simp at t;have R:=Hd (fun y:Wd I=>KI (I:=I) (v:=.int .i64 (FJ op)) ((NL op (J.later (i.out y))).mono fun e w' l=>⟨l.1,l.2▸y.ok⟩));have T:=Hd (fun y:Wd I=>KI (I:=I) (v:=.bool (P (FJ op))) ((h (FJ op) y.w (i.out y)).mono fun e w' l=>⟨l.1,o _ ((i.out y).trans (l.2.mono (i.out y).size))⟩));clear J h j C o;generalize FJ op=q at *;generalize P q=r at *;go_enter func34,ntmps34
 go_wp2;refine Uf I (by kernel_rfl) (by kernel_rfl) hI ?_;repeat (go_big_quiet_step (first|(go_at_call 25;exact R.out _)|(go_at_call 24;exact T.out _)))
 refine wpQuiet_nil ?_;rintro _ ⟨x,rfl⟩;have U:=Hd (i.out x);clear t gl;go_wp2;go_ret;exact⟨rfl,U.out⟩
def K0(P:Int->Bool)(s:ByteArray):Bool:=(Ip s 18).any fun k=>P (FJ k)
def aA{B b:Nat}{ev v:Value}(hT:Ei w)(h:EZ w ev P)(i:Ah w b 31 #[ev]){l:List Nat}(hl:l.length<=18)(hr:w.ownsRow B 3 1 v l.length (l.map fun k=>.int .i64 (k:Nat))) :
  Calls Tryz.prog 32 #[v,.func (.func 34) #[] #[.pointer (some ⟨b,0,none⟩)]] w fun e w'=>e=.returned (.bool (l.any fun k=>P (FJ k)))/\Below w.heap.size w w':=by
 obtain⟨A,c,rfl⟩:=CG hr;have HF:=Hd fun y (hy:Below w.heap.size w y) (op:Int)=>Wx (hT.later hy) (h.later hy) (i.below hy i.lt) op
 have HR:=Hd hr;obtain⟨F,hF⟩:∃F:Nat->Bool,∀k:Nat,P (FJ k)=F k:=⟨_,fun _=>rfl⟩
 simp only[hF];have a2:=Hd hF;obtain⟨n,hn⟩:∃n,l.length=n:=⟨_,rfl⟩
 rw[hn]at hl ⊢;have I:=Hd hn;clear hT h i hr hF hn;have HX:Hid (Calls Tryz.prog 51 #[.slice A n c,.func (.func 34) #[] #[.pointer (some ⟨b,0,none⟩)]] w fun e w'=>(∃k:Int,e=.returned (.int .i64 k)/\decide (0<=k)=l.any F)/\Below w.heap.size w w'):=Hd (by
  go_enter func51,ntmps51
  go_wp2;go_loopw [5,8] (fun _ a1 wr=>∃k:Nat,k<=n/\a1=.int .i64 k/\Hid (l.any F=(l.drop k).any F)/\Hid (Below w.heap.size w wr)) (fun _ a1 _=>n-(intOf a1).toNat)
  case atStart=>exact⟨0,AX _,rfl,Hd rfl,Hd (Below.refl _ _)⟩
  case round=>
   obtain⟨k,hk,rfl,T,j⟩:=hrel;by_cases a3:k<n
   ·have a0:k<l.length:=by rw[I.out];exact a3
    have o:=T.out;rw[List.drop_eq_getElem_cons a0,List.any_cons]at o;obtain⟨g,rfl,J,hc⟩:∃g,A=some ⟨g,0,none⟩/\g<w.heap.size/\w.cell? ⟨g,k,none⟩=some (.int .i64 (l[k]:Nat)):=by
     rcases Bi HR.out with⟨-,e⟩|⟨g,c',e,-,J,-⟩
     ·rw[I.out]at e
      omega
     ·cases e
      refine⟨g,rfl,J,?_⟩;rw[Bh HR.out k (by rw[I.out];omega),pG,eG a0];rfl
    have d0:=(j.out.cell (p:=⟨g,k,none⟩) J).trans hc;have dl:=Ba J j.out.size;have U:=HF.out wr j.out (l[k]:Nat);rw[a2.out]at U;generalize l[k]=x at *;have C:=Hd U;clear U a0 T;have a4:=j;cases t:F x with
    | true=>
     rw[t]at C o;have p:=Hd o;clear o t;go_wp2_with (go_at_call 34;refine C.out.mono ?_;rintro e w2 ⟨rfl,i⟩;have R:=Hd (j.out.trans (i.mono j.out.size));clear i)
     go_ret;exact⟨⟨k,rfl,by rw[p.out];exact decide_eq_true (by omega)⟩,R.out⟩
    | false=>
     rw[t,Bool.false_or]at o;rw[t]at C;have p:=Hd o;clear o t;go_wp2_with (go_at_call 34;refine C.out.mono ?_;rintro e w2 ⟨rfl,i⟩;have R:=Hd (j.out.trans (i.mono j.out.size));clear i)
     go_roundw
     case rel=>exact⟨k+1,by omega,by go_num,p,R⟩
     case measure=>simp[intOf];omega
   ·obtain rfl:k=n:=by omega
    have o:=T.out;rw[List.drop_of_length_le (by rw[I.out];exact AF _)]at o;have p:=Hd o;clear o;go_wp2;go_ret;exact⟨⟨-1,rfl,by rw[p.out];rfl⟩,j.out⟩)
 go_enter func32,ntmps32
 go_wp2_with (go_at_call 51;refine HX.out.mono ?_;rintro e w1 ⟨⟨k,rfl,hk⟩,i⟩;have j:=Hd i;have HK:=Hd hk;clear i hk)
 go_ret;exact⟨by rw[<-HK.out];rfl,j.out⟩
def Oh{p:Option Addr}(j:Ei w)(h:EZ w (.pointer p) P)(s:ByteArray):Calls Tryz.prog 12 #[.pointer p,.string s] w fun e w'=>e=.returned (.bool (K0 P s))/\Below w.heap.size w w':=by
 have h0:=AG w (.cells #[.pointer p] 31);have C:=Ah.new w 31 #[.pointer p];have T:=Hd (aM (j.later h0) s);have J:=Hd fun y v (i:Lu (w.alloc (.cells #[.pointer p] 31)) v (Ip s 18) y)=>aA (j.later (h0.trans (i.2.mono h0.size))) (h.later (h0.trans (i.2.mono h0.size))) (C.below i.2 (by simp)) (R6 s 18) i.1
 have l:=Hd h0;clear j h h0 C;unfold K0;go_enter func12,ntmps12
 go_wp2_with (first
  | (go_at_call 33;refine T.out.mono ?_;rintro e U ⟨v,rfl,i⟩;have R:=Hd (J.out _ _ i);have o:=Hd (l.out.trans (i.2.mono l.out.size));clear i)
  | (go_at_call 32;refine R.out.mono ?_;rintro e w2 ⟨rfl,t⟩;have I:=Hd (o.out.trans (t.mono o.out.size));clear t))
 go_ret;exact⟨rfl,I.out⟩
end Go.Proofs.YtlogpnoioimhjaaGreatDoor
