/- What a token is. -/
import Derived.Test.YtlogpnoioimhjaaGreatDoorXcb
set_option linter.all false
set_option maxRecDepth 100000
set_option maxHeartbeats 16000000
namespace Go.Proofs.YtlogpnoioimhjaaGreatDoor
open Go.RowKit Go.Proofs.Tryz
variable{w:World}{ev i:Value}{P:Int->Bool}{A:Option Addr}{k:Int}{s:ByteArray}
def Ask(w:World)(i:Value)(t:Int)(b:Bool):Prop:=∀y,Below w.heap.size w y->Calls Tryz.prog 24 #[i,.int .i64 t] y fun e j=>e=.returned (.bool b)/\Below y.heap.size y j
def Ask.later{y:World}{t:Int}{b:Bool}(h:Ask w i t b)(j:Below w.heap.size w y):Ask y i t b:=fun z l=>h z (j.trans (l.mono j.size))
def EZ(w:World)(i:Value)(P:Int->Bool):Prop:=∀t,Ask w i t (P t)
def EZ.later{y:World}(h:EZ w i P)(j:Below w.heap.size w y):EZ y i P:=fun t=>(h t).later j
def Fu(P:Int->Bool):Int:=if P 3&&P 14 then 1 else if P 3 then 3 else if P 14&&P 1 then 2 else 0
def LH{l:Value}(o:Ei w)(h:EZ w l P):Calls Tryz.prog 9 #[l] w fun e w'=>e=.returned (.int .i64 (Fu P))/\Below w.heap.size w w':=by
 have J:Hid (Calls Tryz.prog 25 #[.int .i64 9] w fun e w'=>e=.returned (.int .i64 14)/\w=w'):=Hd (NL 9 o);have C:=Hd fun y (j:Below w.heap.size w y)=>h 14 y j
 have I:=Hd fun y (j:Below w.heap.size w y)=>h 3 y j
 have t:=Hd fun y (j:Below w.heap.size w y)=>h 1 y j
 unfold Fu;clear h o;generalize P 3=U,P 14=T,P 1=R at *;cases U<;>cases T<;>cases R
 all_goals
  have i:=Hd (Below.refl w.heap.size w);go_enter func9,ntmps9
  go_wp2_with (first
   | (go_at_call 25;refine J.out.mono ?_;rintro e w1 ⟨rfl,rfl⟩)
   | (
    go_at_call 24;(first|(with_reducible refine(C.out _ i.out).mono ?_)|(with_reducible refine(I.out _ i.out).mono ?_)|(with_reducible refine(t.out _ i.out).mono ?_));rintro e w1 ⟨rfl,p⟩
    replace i:=Hd (i.out.trans (p.mono i.out.size));clear p))
  go_ret;exact⟨rfl,i.out⟩
def JN(P:Int->Bool)(s:ByteArray):Bool:=Dj s != 0&&(Fu P==1||(Fu P != 2&&P (Dj s)))
def dT{R:Value}(J:Ei w)(h:EZ w R P)(s:ByteArray):Calls Tryz.prog 41 #[R,.string s] w fun e w'=>e=.returned (.int .i64 (if JN P s then Dj s else 0))/\Below w.heap.size w w':=by
 have o:=Hd (VC s J);have t:=Hd (LH J h);have T:=Hd fun y (U:Below w.heap.size w y)=>h (Dj s) y U
 unfold JN;clear J h;generalize Dj s=r at *;generalize Fu P=q at *;generalize P r=b at *;obtain⟨V,hV⟩:∃V,(if (r != 0&&(q==1||(q != 2&&b)))=true then r else 0)=V:=⟨_,rfl⟩
 rw[hV];have p:=Hd hV;clear hV;cases b
 all_goals
  by_cases h0:r=0
  ·subst h0
   go_enter func41,ntmps41
   go_wp2_with (go_at_call 67;refine o.out.mono ?_;rintro e l ⟨rfl,rfl⟩)
   go_ret;exact⟨by rw[<-p.out];rfl,Below.refl _ _⟩
  have a0:(r==0)=false:=by simpa using h0
  by_cases C:q=1
  ·subst C
   go_enter func41,ntmps41
   go_wp2_with (first
    | (go_at_call 67;refine o.out.mono ?_;rintro e l ⟨rfl,rfl⟩)
    | (go_at_call 9;refine t.out.mono ?_;rintro e l ⟨rfl,i⟩;have j:=Hd i;clear i))
   go_ret;exact⟨by rw[<-p.out];simp[h0],j.out⟩
  have a1:(q==1)=false:=by simpa using C
  by_cases I:q=2
  ·subst I
   go_enter func41,ntmps41
   go_wp2_with (first
    | (go_at_call 67;refine o.out.mono ?_;rintro e l ⟨rfl,rfl⟩)
    | (go_at_call 9;refine t.out.mono ?_;rintro e l ⟨rfl,i⟩;have j:=Hd i;clear i))
   go_ret;exact⟨by rw[<-p.out];simp,j.out⟩
  have a2:(q==2)=false:=by simpa using I
  go_enter func41,ntmps41
  go_wp2_with (first
   | (go_at_call 67;refine o.out.mono ?_;rintro e l ⟨rfl,rfl⟩)
   | (go_at_call 9;refine t.out.mono ?_;rintro e l ⟨rfl,i⟩;have j:=Hd i;clear i)
   | (go_at_call 24;refine(T.out _ j.out).mono ?_;rintro e l ⟨rfl,i⟩;replace j:=Hd (j.out.trans (i.mono j.out.size));clear i))
  go_ret;exact⟨by rw[<-p.out];simp[h0,C,I],j.out⟩
def G1(P:Int->Bool)(n:Nat)(k:Int)(s:ByteArray):Int:=if Hw n k&&JN P s then Dj s else if IW n k s&&P 2 then 2 else if Hw n k&&(D3 s.data.toList&&P 3) then 3 else 1
def TO(hT:Ei w)(h:EZ w ev P){n c:Nat}(t:EX w A n c k s) :
  Calls Tryz.prog 23 #[ev,.agg #[.slice A n c]] w fun e w'=>e=.returned (.int .i64 (G1 P n k s))/\Below w.heap.size w w':=by
 have I:=AG w (.cells #[.slice A n c] 24);have o:∀y,Below (w.alloc (.cells #[.slice A n c] 24)).heap.size (w.alloc (.cells #[.slice A n c] 24)) y->Below w.heap.size w y:=fun y j=>I.trans (j.mono I.size)
 have R:Hid (∀y,Below (w.alloc (.cells #[.slice A n c] 24)).heap.size (w.alloc (.cells #[.slice A n c] 24)) y->y.cell? ⟨w.heap.size,0,none⟩=some (.slice A n c)/\w.heap.size<y.heap.size):=Hd fun y j=>by have h:=(Ah.new w 24 #[.slice A n c]).below j (by simp);exact⟨h.cell 0,h.lt⟩
 have J:=Hd fun y j=>UZ (t.later (o y j))
 have HA:Hid (∀y,_->Calls Tryz.prog 42 #[.agg #[.slice A n c]] y fun e w'=>(∃x A N a1,e=.returned (.tuple #[.string x,.agg #[.slice A N a1],.bool (IW n k s)]))/\Below y.heap.size y w'):=Hd fun y j=>cY (t.later (o y j))
 have HR:=Hd fun y j=>dT (hT.later (o y j)) (h.later (o y j)) s
 have HN:=Hd fun y=>OV s t.len y
 have H2:=Hd fun y j=>h 2 y (o y j)
 have H3:=Hd fun y j=>h 3 y (o y j)
 have HE:=Hd fun y j=>(o y j)
 have a0:JN P s=true->(Dj s==0)=false:=fun h=>by unfold JN at h;rw[Bool.and_eq_true]at h;simpa using h.1
 unfold G1;unfold Jt at J;clear h hT t o I;generalize JN P s=br,Dj s=r,IW n k s=ba,Hw n k=C,D3 s.data.toList=bn,P 2=T,P 3=U at *;have i:=Hd (Below.refl (w.alloc (.cells #[.slice A n c] 24)).heap.size (w.alloc (.cells #[.slice A n c] 24)));obtain⟨V,hV⟩:∃V,(if (C&&br)=true then r else if (ba&&T)=true then 2 else if (C&&(bn&&U))=true then 3 else 1)=V:=⟨_,rfl⟩
 rw[hV];have HV:=Hd hV;clear hV;cases C<;>cases ba<;>cases T<;>(try (cases br<;>(try (have a2:=a0 rfl))<;>cases bn<;>cases U))
 all_goals
  clear a0;go_enter func23,ntmps23
  go_wp2_with (first
   | (go_at_call 22;refine(J.out _ i.out).mono ?_;rintro e p ⟨rfl,l⟩;replace i:=Hd (i.out.trans (l.mono i.out.size));obtain⟨d1,l1⟩:=R.out _ i.out;clear l)
   | (go_at_call 41;refine(HR.out _ i.out).mono ?_;rintro e p ⟨rfl,l⟩;replace i:=Hd (i.out.trans (l.mono i.out.size));obtain⟨d1,l1⟩:=R.out _ i.out;clear l)
   | (go_at_call 42;refine(HA.out _ i.out).mono ?_;rintro e p ⟨⟨x,A1,N1,C1,rfl⟩,l⟩;replace i:=Hd ((i.out.trans (l.mono i.out.size)).trans ((AG p (.cells #[.slice A1 N1 C1] 24)).mono (i.out.trans (l.mono i.out.size)).size));clear l)
   | (go_at_call 27;refine(HN.out _).mono ?_;rintro e p ⟨rfl,l⟩;replace i:=Hd (i.out.trans (l.mono i.out.size));clear l)
   | (go_at_call 24;(first|(with_reducible refine(H2.out _ i.out).mono ?_)|(with_reducible refine(H3.out _ i.out).mono ?_));rintro e p ⟨rfl,l⟩;replace i:=Hd (i.out.trans (l.mono i.out.size));clear l))
  go_ret;exact⟨by rw[<-HV.out];rfl,HE.out _ i.out⟩
def EM(K op:Int)(A:Option Addr)(n c:Nat)(N:ByteArray):Value:=.agg #[.int .i64 K,.int .i64 op,.slice A n c,.string N]
def Ir(P:Int->Bool)(K op:Int)(n:Nat)(k:Int)(s:ByteArray):Int:=if K=4 then 5 else if K=3 then FJ op else if K=2 then 4 else if K=1 then G1 P n k s else 0
def Kn(w:World)(cs:Array Value):Below w.heap.size w (w.alloc (.cells cs 26))/\∀y,Below (w.alloc (.cells cs 26)).heap.size (w.alloc (.cells cs 26)) y->Below w.heap.size w y/\Ah y w.heap.size 26 cs:=by have h:=AG w (.cells cs 26);exact⟨h,fun y i=>⟨h.trans (i.mono h.size),(Ah.new w 26 cs).below i (by simp)⟩⟩
def OX{p:Value}(l:Ei w)(h:EZ w p P){n c:Nat}(C:EX w A n c k s)(K op:Int)(N:ByteArray) :
  Calls Tryz.prog 13 #[p,EM K op A n c N] w fun e w'=>e=.returned (.int .i64 (Ir P K op n k s))/\Below w.heap.size w w':=by
 obtain⟨h0,j⟩:=Kn w #[.int .i64 K,.int .i64 op,.slice A n c,.string N];have HW:=Hd (TO (l.later h0) (h.later h0) (C.later h0));have HO:=Hd (NL op (l.later h0));have i:=(j _ (Below.refl _ _)).2;have x0:=i.cell 0;have x1:=i.cell 1;have x2:=i.cell 2;simp at x0 x1 x2;have HE:=Hd fun y hy=>(j y hy).1
 have o:=Hd h0;unfold Ir EM;clear h0 j i l h C;have hK:K=4\/K=3\/K=2\/K=1\/((K==4)=false/\(K==3)=false/\(K==2)=false/\(K==1)=false/\¬K=4/\¬K=3/\¬K=2/\¬K=1):=by simp;omega
 rcases hK with rfl|rfl|rfl|rfl|⟨k4,k3,k2,k1,T,R,J,I⟩
 case inr.inr.inr.inr=>rw[if_neg T,if_neg R,if_neg J,if_neg I];clear T R J I;go_enter func13,ntmps13;go_wp2_with fail;go_ret;exact⟨rfl,o.out⟩
 all_goals
  go_enter func13,ntmps13
  go_wp2_with (first
   | (go_at_call 25;refine HO.out.mono ?_;rintro e w1 ⟨rfl,rfl⟩)
   | (go_at_call 23;refine HW.out.mono ?_;rintro e w1 ⟨rfl,t⟩;have U:=Hd (HE.out _ t);clear t))
  go_ret;first|exact⟨rfl,U.out⟩|exact⟨rfl,o.out⟩
def IC(P:Int->Bool)(K:Int)(n:Nat)(k:Int)(s:ByteArray)(i:Bool):Bool:=K==1&&(Hw n k&&((G1 P n k s==1||G1 P n k s==3)&&(Fu P==1||(i&&P 1))))
def Ka(b:Bool)(s:ByteArray):Value:=.tuple #[.string (if b then s else⟨#[]⟩),.bool b]
def Pm(R:Ei w)(h:EZ w ev P){n c:Nat}(U:EX w A n c k s)(K op:Int)(N:ByteArray)(C:Bool) :
  Calls Tryz.prog 8 #[ev,EM K op A n c N,.bool C] w fun e w'=>e=.returned (Ka (IC P K n k s C) s)/\Below w.heap.size w w':=by
 obtain⟨h0,o⟩:=Kn w #[.int .i64 K,.int .i64 op,.slice A n c,.string N];have HX:Hid (∀y,Below (w.alloc (.cells #[.int .i64 K,.int .i64 op,.slice A n c,.string N] 26)).heap.size (w.alloc (.cells #[.int .i64 K,.int .i64 op,.slice A n c,.string N] 26)) y->y.cell? ⟨w.heap.size,0,none⟩=some (.int .i64 K)/\y.cell? ⟨w.heap.size,2,none⟩=some (.slice A n c)/\w.heap.size<y.heap.size):=Hd fun y j=>by have h:=(o y j).2;exact⟨h.cell 0,h.cell 2,h.lt⟩
 have HP:=Hd fun y j=>UZ (U.later (o y j).1)
 have HW:=Hd fun y j=>TO (R.later (o y j).1) (h.later (o y j).1) (U.later (o y j).1)
 have HL:=Hd fun y j=>LH (R.later (o y j).1) (h.later (o y j).1)
 have H1:=Hd fun y j=>h 1 y (o y j).1
 have HE:=Hd fun y j=>(o y j).1
 have i:=Hd (Below.refl (w.alloc (.cells #[.int .i64 K,.int .i64 op,.slice A n c,.string N] 26)).heap.size (w.alloc (.cells #[.int .i64 K,.int .i64 op,.slice A n c,.string N] 26)));obtain⟨d0,d2,dl⟩:=HX.out _ i.out;unfold IC Ka EM;unfold Jt at HP;clear h0 o R h U;generalize G1 P n k s=q,Fu P=p,Hw n k=t,P 1=J at *;obtain⟨V,hV⟩:∃V,(Value.tuple #[.string (if (K==1&&(t&&((q==1||q==3)&&(p==1||(C&&J)))))=true then s else⟨#[]⟩),.bool (K==1&&(t&&((q==1||q==3)&&(p==1||(C&&J)))))])=V:=⟨_,rfl⟩
 rw[hV];have HV:=Hd hV;clear hV;have hK:K=1\/((K==1)=false/\(K != 1)=true):=by simp;omega
 have hq:K=1->t=true->(q=1\/q=3\/((q==1)=false/\(q==3)=false/\(q != 1)=true/\(q != 3)=true)):=fun _ _=>by simp;omega
 have T:K=1->t=true->(q=1\/q=3)->p=1\/(p==1)=false:=fun _ _ _=>by simp;omega
 rcases hK with rfl|⟨k1,k2⟩<;>cases t<;>(try (rcases hq rfl rfl with rfl|rfl|⟨q1,q3,q4,q5⟩))<;>(try (rcases T rfl rfl (.inl rfl) with rfl|I))<;>(try (rcases T rfl rfl (.inr rfl) with rfl|I))<;>(try (have:=I;cases C))<;>(try (have:=I;cases J));all_goals
  clear hq T;try clear this
  go_enter func8,ntmps8
  go_wp2_with (first
   | (go_at_call 22;refine(HP.out _ i.out).mono ?_;rintro e w1 ⟨rfl,l⟩;replace i:=Hd (i.out.trans (l.mono i.out.size));obtain⟨d0,d2,dl⟩:=HX.out _ i.out;clear l)
   | (go_at_call 23;refine(HW.out _ i.out).mono ?_;rintro e w1 ⟨rfl,l⟩;replace i:=Hd (i.out.trans (l.mono i.out.size));clear l)
   | (go_at_call 9;refine(HL.out _ i.out).mono ?_;rintro e w1 ⟨rfl,l⟩;replace i:=Hd (i.out.trans (l.mono i.out.size));clear l)
   | (go_at_call 24;refine(H1.out _ i.out).mono ?_;rintro e w1 ⟨rfl,l⟩;replace i:=Hd (i.out.trans (l.mono i.out.size));clear l))
  go_ret2
  exact⟨by rw[<-HV.out];first|rfl|simp[k1]|simp[q1,q3]|simp[I],HE.out _ i.out⟩
end Go.Proofs.YtlogpnoioimhjaaGreatDoor
