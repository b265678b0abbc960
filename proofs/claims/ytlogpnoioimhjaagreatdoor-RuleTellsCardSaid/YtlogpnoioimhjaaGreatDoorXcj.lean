/- An engine that took what can come. -/
import Derived.Test.YtlogpnoioimhjaaGreatDoorXci
import Derived.Test.YtlogpnoioimhjaaGreatDoorXcd
set_option linter.all false
set_option maxRecDepth 100000
set_option maxHeartbeats 16000000
namespace Go.Proofs.YtlogpnoioimhjaaGreatDoor
open Go.RowKit
def X7:El Tryz.prog 45 4 1 1:=El.of (z:=.bool false) Tryz.underlying45 (by kernel_rfl) rfl (by decide)
def I5(c:Ca)(k:Nat):List Value:=(List.range k).map fun i=>.bool (EV c (i:Nat))
def Vc(c:Ca)(k:Nat):I5 c (k+1)=I5 c k++[.bool (EV c (k:Nat))]:=by unfold I5;rw[List.range_succ,By];rfl
def jX(w:World)(e:Ending)(w':World):Prop:=∃i v P,e=.returned (.tuple #[.pointer (some ⟨i,0,none⟩),v])/\Below w.heap.size w w'/\EZ w' (.pointer (some ⟨i,0,none⟩)) P/\II w' v P
def dH{w:World}{tb:Nat}(h:Fx w tb){A:Option Addr}{n ca:Nat}(hn:n<=40)(hl:∀k,k<n->∃b off,A=some ⟨b,off,none⟩/\b<w.heap.size/\∃x:Int,w.cell? ⟨b,off+k,none⟩=some (.int .i64 x)) :
  Calls Tryz.prog 16 #[.pointer (some ⟨tb,0,none⟩),.slice A n ca] w (jX w):=by
 have a0:=Hd (Pu h (Po h));have HL:=Hd hl;clear h hl;go_enter Tryz.func16,Tryz.ntmps16
 go_wp2_with (go_at_call 11;refine a0.out.mono ?_;rintro e w1 ⟨R,rb,sv,rfl,I,C⟩;have l:Hid (Gj w w1 R 0 G3):=Hd ⟨_,_,_,_,_,_,I,rfl,Ds.start,AF _⟩;clear I C a0)
 go_loopw [7] (fun i wr=>∃(k:Nat) (c:Ca),k<=n/\i=.int .i64 k/\Hid (Gj w wr R k c)) (fun i _=>n-(intOf i).toNat)
 case atStart=>exact⟨0,_,AX _,rfl,l⟩
 case round=>
  clear l;obtain⟨k,c,hk,rfl,l⟩:=hrel;by_cases ad:k<n
  ·obtain⟨b,off,rfl,a2,x,hx⟩:=HL.out k ad
   have d0:=(l.out.base.cell (p:=⟨b,off+k,none⟩) a2).trans hx;have dl:=Ba a2 l.out.base.size;have HP:=Hd (l.out.push (by omega) x k);clear hx l;go_wp2_with (go_at_call 35;refine HP.out.mono ?_;rintro e w2 ⟨⟨q,rfl⟩,c2,I⟩;have a5:=Hd I;clear I)
   go_roundw
   case rel=>exact⟨k+1,c2,by omega,by go_num,a5⟩
   case measure=>simp[intOf];omega
  ·obtain rfl:k=n:=by omega
   rename World=>o
   have U:=Hd l.out.base;have T:=l.out.can hn;have HC:=Hd fun y (hy:Below o.heap.size o y) (t:Int)=>T t y hy
   have a4:=Hd T;clear T l HL;obtain⟨F,hF⟩:∃F:Int->Bool,∀t,EV c t=F t:=⟨_,fun _=>rfl⟩
   have a1:∀k,I5 c (k+1)=I5 c k++[.bool (F (k:Nat))]:=fun k=>by rw[<-hF];exact Vc c k
   have a7:=Hd a1;simp only[hF]at HC;have af:=Hd hF;clear a1 hF;go_wp2;go_loopw [8,9] (fun ae i wr=>∃k:Nat,k<=39/\i=.int .i64 k/\Hid (wr.ownsRow o.heap.size 4 1 ae k (I5 c k))/\Hid (Below o.heap.size o wr)) (fun _ i _=>39-(intOf i).toNat)
   case atStart=>exact⟨0,by omega,rfl,Hd ⟨rfl,.inl ⟨rfl,rfl⟩⟩,Hd (Below.refl _ _)⟩
   case round=>
    obtain⟨j,ai,rfl,P,p⟩:=hrel;obtain⟨Ao,co,rfl⟩:=CG P.out;by_cases aj:j<39
    ·have ag:(j:Int)<=38:=by omega
     have aa:=Hd (HC.out _ p.out j);have ab:=Hd (L9 4 (.bool (F (j:Nat))) rfl);have a6:=Hd (a7.out j);generalize F (j:Nat)=x at *;go_wp2_with (first
      | (go_at_call 24;refine aa.out.mono ?_;rintro e w5 ⟨rfl,C⟩;have J:=Hd (p.out.trans (C.mono p.out.size));have a8:=Hd (AS P.out C);clear C)
      | (
       at_builtin;refine Dc X7 (.tmp 29) (.tmp 33) rfl rfl (base:=o.heap.size) (n:=j) (m:=1) (N:=j+1) (xs:=I5 c j) (news:=[.bool x]) rfl rfl (a8.out.alloc _) (ab.out _) rfl (by unfold maxLen;omega) (by omega) (by have:=J.out.size;simp;omega) ?_
       intro A6 c6 w6 r1 r2 r3;have a9:Hid (w6.ownsRow o.heap.size 4 1 (.slice A6 (j+1) c6) (j+1) (I5 c (j+1))):=Hd (by rw[a6.out];exact r1);have a3:=Hd ((J.out.alloc J.out.size _).trans (r2.below (by have:=J.out.size;simp;omega)));clear r1 r2 r3))
     go_roundw
     case rel=>exact⟨j+1,by omega,by go_num,a9,a3⟩
     case measure=>simp[intOf];omega
    ·obtain rfl:j=39:=by omega
     have ah:¬((39:Nat):Int)<=38:=by omega
     go_wp2
     go_ret2
     refine⟨R,_,EV c,rfl,U.out.trans (p.out.mono U.out.size),a4.out.later p.out,?_,dN c⟩;rcases Bi P.out with⟨-,e⟩|⟨g,c',e,-,hg,-⟩
     ·cases e
     ·cases e
      refine⟨g,co,rfl,hg,fun k hk=>?_⟩;rw[Bh P.out k (by omega)];unfold I5;rw[pG,List.getElem?_range hk];rfl
end Go.Proofs.YtlogpnoioimhjaaGreatDoor
