/- The document's side. -/
import Derived.Test.YtlogpnoioimhjaaGreatDoorXcc
set_option linter.all false
set_option maxRecDepth 100000
set_option maxHeartbeats 16000000
namespace Go.Proofs.YtlogpnoioimhjaaGreatDoor
open Go.RowKit Go.Proofs.Tryz
variable{w:World}{v:Value}{P:Int->Bool}{A:Option Addr}{k:Int}{s:ByteArray}
def II(w:World)(v:Value)(P:Int->Bool):Prop:=(∃b c,v=.slice (some ⟨b,0,none⟩) 39 c/\b<w.heap.size/\∀k:Nat,k<39->w.cell? ⟨b,k,none⟩=some (.bool (P k)))/\∀t,t<0\/39<=t->P t=false
def II.later{y:World}(h:II w v P)(j:Below w.heap.size w y):II y v P:=by obtain⟨⟨b,c,rfl,i,l⟩,o⟩:=h;exact⟨⟨b,c,rfl,Ba i j.size,fun k p=>(j.cell (p:=⟨b,k,none⟩) i).trans (l k p)⟩,o⟩
def JD(h:II w v P)(t:Int):Calls Tryz.prog 37 #[v,.int .i64 t] w fun e w'=>e=.returned (.bool (P t))/\w=w':=by
 obtain⟨⟨b,c,rfl,l,i⟩,j⟩:=h;by_cases h0:0<=t/\t<39
 ·obtain⟨k,rfl⟩:=Int.eq_ofNat_of_zero_le h0.1
  have C:=i k (by omega);have J:(k:Int)<39:=by omega
  have I:(0:Int)<=(k:Int):=by omega
  generalize P k=x at *;clear i j h0;go_enter func37,ntmps37
  go_wp2_with fail
  go_ret;exact⟨rfl,rfl⟩
 ·rw[j t (by omega)]
  clear i j;by_cases o:0<=t
  ·have p:¬t<39:=by omega
   clear h0;go_enter func37,ntmps37
   go_wp2_with fail
   go_ret;exact⟨rfl,rfl⟩
  ·clear h0
   go_enter func37,ntmps37
   go_wp2_with fail
   go_ret;exact⟨rfl,rfl⟩
def NC(h:II w v P):Calls Tryz.prog 18 #[v] w fun e w'=>e=.returned (.int .i64 (Fu P))/\w=w':=by
 have j:=Hd (JD h 14);have l:=Hd (JD h 3);have i:=Hd (JD h 1);unfold Fu;clear h;generalize P 3=t,P 14=p,P 1=o at *;cases t<;>cases p<;>cases o
 all_goals
  go_enter func18,ntmps18
  go_wp2_with (go_at_call 37;(first|(with_reducible refine j.out.mono ?_)|(with_reducible refine l.out.mono ?_)|(with_reducible refine i.out.mono ?_));rintro e C ⟨rfl,rfl⟩)
  go_ret;exact⟨rfl,rfl⟩
def bZ:Dj ⟨#[]⟩=0:=by decide +kernel
def iC(s:ByteArray):0<=Dj s:=by unfold Dj;split<;>omega
def Vo(h:II w v P){n c:Nat}(hw:EX w A n c k s) :
  Calls Tryz.prog 38 #[v,.agg #[.slice A n c]] w fun e w'=>e=.returned (.int .i64 (G1 P n k s))/\Below w.heap.size w w':=by
 have a0:=AG w (.cells #[.slice A n c] 24);have t:∀y,Below (w.alloc (.cells #[.slice A n c] 24)).heap.size (w.alloc (.cells #[.slice A n c] 24)) y->Below w.heap.size w y:=fun y j=>a0.trans (j.mono a0.size)
 have HX:Hid (∀y,Below (w.alloc (.cells #[.slice A n c] 24)).heap.size (w.alloc (.cells #[.slice A n c] 24)) y->y.cell? ⟨w.heap.size,0,none⟩=some (.slice A n c)/\w.heap.size<y.heap.size):=Hd fun y j=>by have h:=(Ah.new w 24 #[.slice A n c]).below j (by simp);exact⟨h.cell 0,h.lt⟩
 have HP:=Hd fun y j=>QA (hw.later (t y j))
 have HA:Hid (∀y,_->Calls Tryz.prog 55 #[.agg #[.slice A n c]] y fun e w'=>(∃x A N a2,e=.returned (.tuple #[.string x,.agg #[.slice A N a2],.bool (IW n k s)]))/\Below y.heap.size y w'):=Hd fun y j=>Vk (hw.later (t y j))
 have HR:=Hd fun y=>Tv s y
 have a1:=Hd fun y=>Tv ⟨#[]⟩ y
 rw[bZ]at a1;have HN:=Hd fun y=>SZ s hw.len y
 have HL:=Hd fun y j=>NC (h.later (t y j))
 have HK:=Hd fun y j=>JD (h.later (t y j)) (Dj s)
 have H2:=Hd fun y j=>JD (h.later (t y j)) 2
 have H3:=Hd fun y j=>JD (h.later (t y j)) 3
 have HE:=Hd fun y j=>(t y j)
 have a3:=iC s;unfold G1 JN;unfold Jt at HP;clear h hw t a0;generalize P (Dj s)=br at *;generalize Fu P=p,Dj s=r,IW n k s=I,Hw n k=l,D3 s.data.toList=J,P 2=T,P 3=U at *;have i:=Hd (Below.refl (w.alloc (.cells #[.slice A n c] 24)).heap.size (w.alloc (.cells #[.slice A n c] 24)));obtain⟨V,hV⟩:∃V,(if (l&&(r != 0&&(p==1||(p != 2&&br))))=true then r else if (I&&T)=true then 2 else if (l&&(J&&U))=true then 3 else 1)=V:=⟨_,rfl⟩
 rw[hV];have HV:=Hd hV;clear hV;have ha:I=false\/(I=true/\T=false)\/(I=true/\T=true):=by cases I<;>cases T<;>simp
 have hn:J=false\/(J=true/\U=false)\/(J=true/\U=true):=by cases J<;>cases U<;>simp
 have hr:(l=false/\True)\/(l=true/\r=0/\True)\/(l=true/\(r != 0)=true/\0<r/\p=1)\/(l=true/\(r != 0)=true/\0<r/\p=2/\True)\/(l=true/\(r != 0)=true/\0<r/\(p==1)=false/\(p != 2)=true/\br=false/\True)\/(l=true/\(r != 0)=true/\0<r/\(p==1)=false/\(p != 2)=true/\br=true):=by cases l<;>cases br<;>simp<;>omega
 rcases hr with⟨rfl,mk⟩|⟨rfl,rfl,mk⟩|⟨rfl,R,r2,rfl⟩|⟨rfl,R,r2,rfl,mk⟩|⟨rfl,R,r2,p1,p2,rfl,mk⟩|⟨rfl,R,r2,p1,p2,rfl⟩ <;>
  (try (have _:=mk;rcases ha with rfl|⟨rfl,rfl⟩|⟨rfl,rfl⟩<;>rcases hn with rfl|⟨rfl,rfl⟩|⟨rfl,rfl⟩))
 all_goals
  try clear ha hn
  try clear mk
  go_enter func38,ntmps38
  go_wp2_with (first
   | (go_at_call 36;refine(HP.out _ i.out).mono ?_;rintro e C ⟨rfl,o⟩;replace i:=Hd (i.out.trans (o.mono i.out.size));obtain⟨d1,l1⟩:=HX.out _ i.out;clear o)
   | (go_at_call 54;(first|(with_reducible refine(a1.out _).mono ?_)|(with_reducible refine(HR.out _).mono ?_));rintro e C ⟨rfl,o⟩;replace i:=Hd (i.out.trans (o.mono i.out.size));obtain⟨d1,l1⟩:=HX.out _ i.out;clear o)
   | (go_at_call 18;refine(HL.out _ i.out).mono ?_;rintro e C ⟨rfl,rfl⟩)
   | (go_at_call 55;refine(HA.out _ i.out).mono ?_;rintro e C ⟨⟨x,A1,N1,C1,rfl⟩,o⟩;replace i:=Hd ((i.out.trans (o.mono i.out.size)).trans ((AG C (.cells #[.slice A1 N1 C1] 24)).mono (i.out.trans (o.mono i.out.size)).size));clear o)
   | (go_at_call 56;refine(HN.out _).mono ?_;rintro e C ⟨rfl,rfl⟩)
   | (go_at_call 37;(first|(with_reducible refine(H2.out _ i.out).mono ?_)|(with_reducible refine(H3.out _ i.out).mono ?_)|(with_reducible refine(HK.out _ i.out).mono ?_));rintro e C ⟨rfl,rfl⟩))
  go_ret;exact⟨by rw[<-HV.out];first|rfl|simp[R,p1,p2]|simp[R],HE.out _ i.out⟩
def TX(h:II w v P){n c:Nat}(p:EX w A n c k s)(K op:Int)(N:ByteArray) :
  Calls Tryz.prog 19 #[v,EM K op A n c N] w fun e w'=>e=.returned (.int .i64 (Ir P K op n k s))/\Below w.heap.size w w':=by
 obtain⟨h0,j⟩:=Kn w #[.int .i64 K,.int .i64 op,.slice A n c,.string N];have HW:=Hd (Vo (h.later h0) (p.later h0));have U:=Hd (SR op (w.alloc (.cells #[.int .i64 K,.int .i64 op,.slice A n c,.string N] 26)));have i:=(j _ (Below.refl _ _)).2;have x0:=i.cell 0;have x1:=i.cell 1;have x2:=i.cell 2;simp at x0 x1 x2;have T:=Hd fun y hy=>(j y hy).1
 have l:=Hd h0;unfold Ir EM;clear h0 j i h p;have hK:K=4\/K=3\/K=2\/K=1\/((K==4)=false/\(K==3)=false/\(K==2)=false/\(K==1)=false/\¬K=4/\¬K=3/\¬K=2/\¬K=1):=by simp;omega
 rcases hK with rfl|rfl|rfl|rfl|⟨k4,k3,k2,k1,J,I,C,t⟩
 case inr.inr.inr.inr=>rw[if_neg J,if_neg I,if_neg C,if_neg t];clear J I C t;go_enter func19,ntmps19;go_wp2_with fail;go_ret;exact⟨rfl,l.out⟩
 all_goals
  go_enter func19,ntmps19
  go_wp2_with (first
   | (go_at_call 14;refine U.out.mono ?_;rintro e w1 ⟨rfl,rfl⟩)
   | (go_at_call 38;refine HW.out.mono ?_;rintro e w1 ⟨rfl,o⟩;have R:=Hd (T.out _ o);clear o))
  go_ret;first|exact⟨rfl,R.out⟩|exact⟨rfl,l.out⟩
def Xw(h:II w v P){n c:Nat}(U:EX w A n c k s)(K op:Int)(N:ByteArray)(C:Bool) :
  Calls Tryz.prog 17 #[v,EM K op A n c N,.bool C] w fun e w'=>e=.returned (Ka (IC P K n k s C) s)/\Below w.heap.size w w':=by
 obtain⟨h0,l⟩:=Kn w #[.int .i64 K,.int .i64 op,.slice A n c,.string N];have J:Hid (∀y,Below (w.alloc (.cells #[.int .i64 K,.int .i64 op,.slice A n c,.string N] 26)).heap.size (w.alloc (.cells #[.int .i64 K,.int .i64 op,.slice A n c,.string N] 26)) y->y.cell? ⟨w.heap.size,0,none⟩=some (.int .i64 K)/\y.cell? ⟨w.heap.size,1,none⟩=some (.int .i64 op)/\y.cell? ⟨w.heap.size,2,none⟩=some (.slice A n c)/\y.cell? ⟨w.heap.size,3,none⟩=some (.string N)/\w.heap.size<y.heap.size):=Hd fun y j=>by have h:=(l y j).2;exact⟨h.cell 0,h.cell 1,h.cell 2,h.cell 3,h.lt⟩
 have HP:=Hd fun y j=>QA (U.later (l y j).1)
 have HW:=Hd fun y j=>TX (h.later (l y j).1) (U.later (l y j).1) K op N
 have HL:=Hd fun y j=>NC (h.later (l y j).1)
 have H1:=Hd fun y j=>JD (h.later (l y j).1) 1
 have HE:=Hd fun y j=>(l y j).1
 have i:=Hd (Below.refl (w.alloc (.cells #[.int .i64 K,.int .i64 op,.slice A n c,.string N] 26)).heap.size (w.alloc (.cells #[.int .i64 K,.int .i64 op,.slice A n c,.string N] 26)));obtain⟨d0,d1,d2,d3,dl⟩:=J.out _ i.out;unfold IC Ka EM;unfold Jt at HP;have a0:K=1->Ir P K op n k s=G1 P n k s:=fun h=>by subst h;rfl
 clear h0 l h U;generalize Ir P K op n k s=u at *;generalize G1 P n k s=q,Fu P=p,Hw n k=o,P 1=R at *;obtain⟨V,hV⟩:∃V,(Value.tuple #[.string (if (K==1&&(o&&((q==1||q==3)&&(p==1||(C&&R)))))=true then s else⟨#[]⟩),.bool (K==1&&(o&&((q==1||q==3)&&(p==1||(C&&R)))))])=V:=⟨_,rfl⟩
 rw[hV];have HV:=Hd hV;clear hV;have hK:K=1\/((K==1)=false/\(K != 1)=true):=by simp;omega
 have hu:K=1->u=q:=a0;clear a0;have hq:K=1->o=true->(q=1\/q=3\/((q==1)=false/\(q==3)=false/\(q != 1)=true/\(q != 3)=true)):=fun _ _=>by simp;omega
 have T:K=1->o=true->(q=1\/q=3)->p=1\/((p==1)=false/\(p != 1)=true):=fun _ _ _=>by simp;omega
 unfold EM at HW;rcases hK with rfl|⟨k1,k2⟩<;>(try (have:=hu rfl;subst this))<;>cases o<;>(try (rcases hq rfl rfl with rfl|rfl|⟨q1,q3,q4,q5⟩))<;>(try (rcases T rfl rfl (.inl rfl) with rfl|⟨I,p2⟩))<;>(try (rcases T rfl rfl (.inr rfl) with rfl|⟨I,p2⟩))<;>(try (have:=I;cases C))<;>(try (have:=I;cases R));all_goals
  clear hq T hu;try clear this
  go_enter func17,ntmps17
  go_wp2_with (first
   | (go_at_call 36;refine(HP.out _ i.out).mono ?_;rintro e w1 ⟨rfl,t⟩;replace i:=Hd (i.out.trans (t.mono i.out.size));obtain⟨d0,d1,d2,d3,dl⟩:=J.out _ i.out;clear t)
   | (go_at_call 19;refine(HW.out _ i.out).mono ?_;rintro e w1 ⟨rfl,t⟩;replace i:=Hd (i.out.trans (t.mono i.out.size));obtain⟨d0,d1,d2,d3,dl⟩:=J.out _ i.out;clear t)
   | (go_at_call 18;refine(HL.out _ i.out).mono ?_;rintro e w1 ⟨rfl,rfl⟩)
   | (go_at_call 37;refine(H1.out _ i.out).mono ?_;rintro e w1 ⟨rfl,rfl⟩))
  go_ret2
  exact⟨by rw[<-HV.out];first|rfl|simp[k1]|simp[q1,q3]|simp[I],HE.out _ i.out⟩
end Go.Proofs.YtlogpnoioimhjaaGreatDoor
