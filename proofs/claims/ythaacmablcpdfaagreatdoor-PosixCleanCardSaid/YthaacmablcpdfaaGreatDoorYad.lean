/- IndexFunc. Symbols of a grammar. What Check asks of each name and each ru. No two rules are the same. No two rules are the same. The rules of a left side. -/
import Derived.Test.YthaacmablcpdfaaGreatDoorYab
import Derived.Shelf.Abstract
import Derived.Deep.RegionWith
import Derived.BigQuiet
import Derived.Deep.QuietTactic
import Derived.Deep.RegionHeld3
import Derived.Test.YthaacmablcpdfaaGreatDoorYn
set_option linter.unusedVariables false
set_option maxRecDepth 100000
set_option maxHeartbeats 16000000
namespace Go.Proofs.YthaacmablcpdfaaGreatDoor
open Go.RowKit
theorem MR{o:Type}{p:o->Bool}{l:List o}{k:Nat}{x:o}(I:l[k]?=some x)(C:p x=false)(t:∀j y,j<k->l[j]?=some y->p y=false):∀j y,j<k+1->l[j]?=some y->p y=false:=by
 intro j y J i;by_cases e:j=k
 ·subst e
  rw[I]at i;cases i
  exact C
 ·exact t j y (by omega) i
theorem Ub{w:World}{v:Value}{l:List ByteArray}(H:Bj Bs w v l)(p:ByteArray->Bool)(g:Nat)(lb:Array Value)(eg:∀args y,(callFunc g args).run Tryz.prog y=.ok (.enter g args) y)
  (hp:∀x∈l,∀y,Below w.heap.size w y->Calls Tryz.prog g (#[Bs x]++lb) y (Bb y (p x))) :
  Calls Tryz.prog 181 #[v,.func (.func g) #[] lb] w fun e w'=>e=.returned (.int .i64 (Gp p l))/\Below w.heap.size w w':=by
 obtain⟨⟨A,c,rfl,hc⟩,hs⟩:=H;have HC:=Hd hc;have HP:=Hd hp;clear hc hp;go_enter Tryz.func181,Tryz.ntmps181
 go_wp2;go_loopw [5,8] (fun _ i wr=>∃k:Nat,k<=l.length/\i=.int .i64 k/\Hid (∀j y,j<k->l[j]?=some y->p y=false)/\Hid (Below w.heap.size w wr)) (fun _ i _=>l.length-(intOf i).toNat)
 case atStart=>exact⟨0,AP _,rfl,Hd (fun j y hj=>absurd hj (Nat.not_lt_zero _)),Hd (Below.refl _ w)⟩
 case round=>
  obtain⟨k,hk,rfl,P,o⟩:=hrel;by_cases a1:k<l.length
  ·have I:=eG a1
   generalize l[k]=x at I;have hm:=mG I;obtain⟨b,off,rfl,a2,a0⟩:=HC.out k x I;have a3:=(o.out.cell (p:=⟨b,off+k,none⟩) a2).trans a0;have J:=Hd (HP.out x hm wr o.out);simp only[Bs]at *;have U:=Hd I;clear I a0 hm;cases t:p x with
   | true=>
    rw[t]at J;have T:=Hd (LP U.out t P.out);clear t;go_wp2_with (go_at_fn g;refine J.out.mono ?_;rintro e w' ⟨rfl,C⟩;have R:=Hd (o.out.trans (C.mono o.out.size));clear C)
    go_ret;exact⟨by rw[T.out];rfl,R.out⟩
   | false=>
    rw[t]at J;have HN:=Hd (MR U.out t P.out);clear t;go_wp2_with (go_at_fn g;refine J.out.mono ?_;rintro e w' ⟨rfl,C⟩;have R:=Hd (o.out.trans (C.mono o.out.size));clear C)
    go_roundw
    case rel=>exact⟨k+1,by omega,by go_num,HN,R⟩
    case measure=>simp[intOf];omega
  ·obtain rfl:k=l.length:=by omega
   have T:=Hd (Mh P.out);go_wp2;go_ret;exact⟨by rw[T.out];rfl,o.out⟩
theorem Y8{w:World}{v:Value}{l:List ByteArray}(H:Bj Bs w v l)(p:ByteArray->Bool)(g:Nat)(lb:Array Value)(I:∀args y,(callFunc g args).run Tryz.prog y=.ok (.enter g args) y)
  (j:∀x∈l,∀y,Below w.heap.size w y->Calls Tryz.prog g (#[Bs x]++lb) y (Bb y (p x))) :
  Calls Tryz.prog 128 #[v,.func (.func g) #[] lb] w (Bb w (l.any p)):=by
 have C:=Hd (Ub H p g lb I j);have t:=Hd (Ls p l);generalize l.any p=a at *;generalize Gp p l=n at *;clear H j;go_enter Tryz.func128,Tryz.ntmps128
 go_wp2_with fail
 refine C.out.mono ?_;rintro e J ⟨rfl,i⟩;have o:=Hd i;clear i;go_wp2;go_ret;exact⟨BB (by rw[<-t.out]),o.out⟩
theorem fS(g:Nat)(lb:Array Value)(p:∀args y,(callFunc g args).run Tryz.prog y=.ok (.enter g args) y)(x:ByteArray)(b:Bool)(B:Nat)(w:World)(t:w.cell? ⟨B,0,none⟩=some (.func (.func g) #[] lb))
  (j:∀y,Below w.heap.size w y->Calls Tryz.prog g (#[Bs x]++lb) y (Bb y b)):Calls Tryz.prog 129 #[Bs x,.pointer (some ⟨B,0,none⟩)] w (Bb w (!b)):=by
 have o:=Hd (j w (Below.refl _ w));clear j;simp only[Bs]at *;go_enter Tryz.func129,Tryz.ntmps129
 go_wp2_with (go_at_fn g;refine o.out.mono ?_;rintro e C ⟨rfl,i⟩;have l:=Hd i;clear i)
 go_ret;exact⟨rfl,l.out⟩
theorem TH{w:World}{v:Value}{l:List ByteArray}(H:Bj Bs w v l)(p:ByteArray->Bool)(g:Nat)(lb:Array Value)(R:∀args y,(callFunc g args).run Tryz.prog y=.ok (.enter g args) y)
  (o:∀x∈l,∀y,Below w.heap.size w y->Calls Tryz.prog g (#[Bs x]++lb) y (Bb y (p x))) :
  Calls Tryz.prog 74 #[v,.func (.func g) #[] lb] w (Bb w (l.all p)):=by
 have I:=Hd (fun(a0:Obj)=>Y8 (H.later ((Below.refl _ w).alloc (AG _) a0)) (fun x=>!p x) 129 #[.pointer (some ⟨w.heap.size,0,none⟩)] (fun _ _=>by kernel_rfl));have P:Hid (∀t,∀x∈l,∀y,Below (w.alloc (.cells #[.func (.func g) #[] lb] t)).heap.size (w.alloc (.cells #[.func (.func g) #[] lb] t)) y->Calls Tryz.prog 129 (#[Bs x]++#[.pointer (some ⟨w.heap.size,0,none⟩)]) y (Bb y (!p x))):=Hd (by
  intro t x T y i;refine fS g lb R x (p x) w.heap.size y ?_ (fun z U=>o x T z ?_)
  ·exact(i.cell (p:=⟨w.heap.size,0,none⟩) (by simp)).trans ((Ah.new w t _).cell 0)
  ·exact Dm (i.trans (U.mono i.size)))
 have J:=Hd (MZ p l);clear H o;generalize l.all p=b at *;go_enter Tryz.func74,Tryz.ntmps74
 go_wp2_with fail
 refine(I.out _ (P.out _)).mono ?_;rintro e w' ⟨rfl,j⟩;have C:=Hd (Dm j);clear j;go_wp2;go_ret;exact⟨BB J.out,C.out⟩
theorem Vh{w:World}{v:Value}{l:List Int}(H:Bj BF w v l)(p:Int->Bool)(g:Nat)(lb:Array Value)(eg:∀args y,(callFunc g args).run Tryz.prog y=.ok (.enter g args) y)
  (hp:∀x∈l,∀y,Below w.heap.size w y->Calls Tryz.prog g (#[BF x]++lb) y (Bb y (p x))) :
  Calls Tryz.prog 209 #[v,.func (.func g) #[] lb] w fun e w'=>e=.returned (.int .i64 (Gp p l))/\Below w.heap.size w w':=by
 obtain⟨⟨A,c,rfl,hc⟩,hs⟩:=H;have HC:=Hd hc;have HP:=Hd hp;clear hc hp;go_enter Tryz.func209,Tryz.ntmps209
 go_wp2;go_loopw [5,8] (fun _ i wr=>∃k:Nat,k<=l.length/\i=.int .i64 k/\Hid (∀j y,j<k->l[j]?=some y->p y=false)/\Hid (Below w.heap.size w wr)) (fun _ i _=>l.length-(intOf i).toNat)
 case atStart=>exact⟨0,AP _,rfl,Hd (fun j y hj=>absurd hj (Nat.not_lt_zero _)),Hd (Below.refl _ w)⟩
 case round=>
  obtain⟨k,hk,rfl,P,o⟩:=hrel;by_cases a1:k<l.length
  ·have I:=eG a1
   generalize l[k]=x at I;have hm:=mG I;obtain⟨b,off,rfl,a2,a0⟩:=HC.out k x I;have a3:=(o.out.cell (p:=⟨b,off+k,none⟩) a2).trans a0;have J:=Hd (HP.out x hm wr o.out);simp only[BF]at *;have U:=Hd I;clear I a0 hm;cases t:p x with
   | true=>
    rw[t]at J;have T:=Hd (LP U.out t P.out);clear t;go_wp2_with (go_at_fn g;refine J.out.mono ?_;rintro e w' ⟨rfl,C⟩;have R:=Hd (o.out.trans (C.mono o.out.size));clear C)
    go_ret;exact⟨by rw[T.out];rfl,R.out⟩
   | false=>
    rw[t]at J;have HN:=Hd (MR U.out t P.out);clear t;go_wp2_with (go_at_fn g;refine J.out.mono ?_;rintro e w' ⟨rfl,C⟩;have R:=Hd (o.out.trans (C.mono o.out.size));clear C)
    go_roundw
    case rel=>exact⟨k+1,by omega,by go_num,HN,R⟩
    case measure=>simp[intOf];omega
  ·obtain rfl:k=l.length:=by omega
   have T:=Hd (Mh P.out);go_wp2;go_ret;exact⟨by rw[T.out];rfl,o.out⟩
theorem cF{w:World}{v:Value}{l:List Int}(H:Bj BF w v l)(p:Int->Bool)(g:Nat)(lb:Array Value)(I:∀args y,(callFunc g args).run Tryz.prog y=.ok (.enter g args) y)
  (j:∀x∈l,∀y,Below w.heap.size w y->Calls Tryz.prog g (#[BF x]++lb) y (Bb y (p x))) :
  Calls Tryz.prog 187 #[v,.func (.func g) #[] lb] w (Bb w (l.any p)):=by
 have C:=Hd (Vh H p g lb I j);have t:=Hd (Ls p l);generalize l.any p=a at *;generalize Gp p l=n at *;clear H j;go_enter Tryz.func187,Tryz.ntmps187
 go_wp2_with fail
 refine C.out.mono ?_;rintro e J ⟨rfl,i⟩;have o:=Hd i;clear i;go_wp2;go_ret;exact⟨BB (by rw[<-t.out]),o.out⟩
theorem fD(g:Nat)(lb:Array Value)(p:∀args y,(callFunc g args).run Tryz.prog y=.ok (.enter g args) y)(x:Int)(b:Bool)(B:Nat)(w:World)(t:w.cell? ⟨B,0,none⟩=some (.func (.func g) #[] lb))
  (j:∀y,Below w.heap.size w y->Calls Tryz.prog g (#[BF x]++lb) y (Bb y b)):Calls Tryz.prog 188 #[BF x,.pointer (some ⟨B,0,none⟩)] w (Bb w (!b)):=by
 have o:=Hd (j w (Below.refl _ w));clear j;simp only[BF]at *;go_enter Tryz.func188,Tryz.ntmps188
 go_wp2_with (go_at_fn g;refine o.out.mono ?_;rintro e C ⟨rfl,i⟩;have l:=Hd i;clear i)
 go_ret;exact⟨rfl,l.out⟩
theorem V5{w:World}{v:Value}{l:List Int}(H:Bj BF w v l)(p:Int->Bool)(g:Nat)(lb:Array Value)(R:∀args y,(callFunc g args).run Tryz.prog y=.ok (.enter g args) y)
  (o:∀x∈l,∀y,Below w.heap.size w y->Calls Tryz.prog g (#[BF x]++lb) y (Bb y (p x))) :
  Calls Tryz.prog 133 #[v,.func (.func g) #[] lb] w (Bb w (l.all p)):=by
 have I:=Hd (fun(a0:Obj)=>cF (H.later ((Below.refl _ w).alloc (AG _) a0)) (fun x=>!p x) 188 #[.pointer (some ⟨w.heap.size,0,none⟩)] (fun _ _=>by kernel_rfl));have P:Hid (∀t,∀x∈l,∀y,Below (w.alloc (.cells #[.func (.func g) #[] lb] t)).heap.size (w.alloc (.cells #[.func (.func g) #[] lb] t)) y->Calls Tryz.prog 188 (#[BF x]++#[.pointer (some ⟨w.heap.size,0,none⟩)]) y (Bb y (!p x))):=Hd (by
  intro t x T y i;refine fD g lb R x (p x) w.heap.size y ?_ (fun z U=>o x T z ?_)
  ·exact(i.cell (p:=⟨w.heap.size,0,none⟩) (by simp)).trans ((Ah.new w t _).cell 0)
  ·exact Dm (i.trans (U.mono i.size)))
 have J:=Hd (MZ p l);clear H o;generalize l.all p=b at *;go_enter Tryz.func133,Tryz.ntmps133
 go_wp2_with fail
 refine(I.out _ (P.out _)).mono ?_;rintro e w' ⟨rfl,j⟩;have C:=Hd (Dm j);clear j;go_wp2;go_ret;exact⟨BB J.out,C.out⟩
theorem Xl{w:World}{v:Value}{l:List Ru}(H:ET w v l)(p:Ru->Bool)(g:Nat)(lb:Array Value)(eg:∀args y,(callFunc g args).run Tryz.prog y=.ok (.enter g args) y)
  (hp:∀x∈l,∀y,Below w.heap.size w y->Calls Tryz.prog g (#[CY x]++lb) y (Bb y (p x))) :
  Calls Tryz.prog 180 #[v,.func (.func g) #[] lb] w fun e w'=>e=.returned (.int .i64 (Gp p l))/\Below w.heap.size w w':=by
 obtain⟨⟨A,c,rfl,hc⟩,hs⟩:=H;have HC:=Hd hc;have HP:=Hd hp;clear hc hp;go_enter Tryz.func180,Tryz.ntmps180
 go_wp2;go_loopw [5,8] (fun _ i wr=>∃k:Nat,k<=l.length/\i=.int .i64 k/\Hid (∀j y,j<k->l[j]?=some y->p y=false)/\Hid (Below w.heap.size w wr)) (fun _ i _=>l.length-(intOf i).toNat)
 case atStart=>exact⟨0,AP _,rfl,Hd (fun j y hj=>absurd hj (Nat.not_lt_zero _)),Hd (Below.refl _ w)⟩
 case round=>
  obtain⟨k,hk,rfl,P,o⟩:=hrel;by_cases a3:k<l.length
  ·have I:=eG a3
   generalize l[k]=x at I;have hm:=mG I;obtain⟨b,off,rfl,a1,a0,a2,_⟩:=HC.out k x I;have a4:=(o.out.cell (p:=⟨b,off+k*2,none⟩) a1).trans a0;have a5:=(o.out.cell (p:=⟨b,off+k*2+1,none⟩) a1).trans a2;have J:=Hd (HP.out x hm wr o.out);simp only[CY]at *;have U:=Hd I;clear I a0 hm;cases t:p x with
   | true=>
    rw[t]at J;have T:=Hd (LP U.out t P.out);clear t;go_wp2_with (go_at_fn g;refine J.out.mono ?_;rintro e w' ⟨rfl,C⟩;have R:=Hd (o.out.trans (C.mono o.out.size));clear C)
    go_ret;exact⟨by rw[T.out];rfl,R.out⟩
   | false=>
    rw[t]at J;have HN:=Hd (MR U.out t P.out);clear t;go_wp2_with (go_at_fn g;refine J.out.mono ?_;rintro e w' ⟨rfl,C⟩;have R:=Hd (o.out.trans (C.mono o.out.size));clear C)
    go_roundw
    case rel=>exact⟨k+1,by omega,by go_num,HN,R⟩
    case measure=>simp[intOf];omega
  ·obtain rfl:k=l.length:=by omega
   have T:=Hd (Mh P.out);go_wp2;go_ret;exact⟨by rw[T.out];rfl,o.out⟩
theorem Ry{w:World}{v:Value}{l:List Ru}(H:ET w v l)(p:Ru->Bool)(g:Nat)(lb:Array Value)(I:∀args y,(callFunc g args).run Tryz.prog y=.ok (.enter g args) y)
  (j:∀x∈l,∀y,Below w.heap.size w y->Calls Tryz.prog g (#[CY x]++lb) y (Bb y (p x))) :
  Calls Tryz.prog 126 #[v,.func (.func g) #[] lb] w (Bb w (l.any p)):=by
 have C:=Hd (Xl H p g lb I j);have t:=Hd (Ls p l);generalize l.any p=a at *;generalize Gp p l=n at *;clear H j;go_enter Tryz.func126,Tryz.ntmps126
 go_wp2_with fail
 refine C.out.mono ?_;rintro e J ⟨rfl,i⟩;have o:=Hd i;clear i;go_wp2;go_ret;exact⟨BB (by rw[<-t.out]),o.out⟩
theorem VL(g:Nat)(lb:Array Value)(t:∀args y,(callFunc g args).run Tryz.prog y=.ok (.enter g args) y)(x:Ru)(b:Bool)(B:Nat)(w:World)(p:w.cell? ⟨B,0,none⟩=some (.func (.func g) #[] lb))
  (j:∀y,Below w.heap.size w y->Calls Tryz.prog g (#[CY x]++lb) y (Bb y b)):Calls Tryz.prog 127 #[CY x,.pointer (some ⟨B,0,none⟩)] w (Bb w (!b)):=by
 have o:=Hd j;clear j;have C:B<w.heap.size:=World.block_lt_of_cell? w _ p;simp only[CY]at *;go_enter Tryz.func127,Tryz.ntmps127
 go_wp2_with (go_at_fn g;refine(o.out _ ((Below.refl _ w).alloc (AG _) _)).mono ?_;rintro e I ⟨rfl,i⟩;have l:=Hd (Dm i);clear i)
 go_ret;exact⟨rfl,l.out⟩
theorem QY{w:World}{v:Value}{l:List Ru}(H:ET w v l)(p:Ru->Bool)(g:Nat)(lb:Array Value)(R:∀args y,(callFunc g args).run Tryz.prog y=.ok (.enter g args) y)
  (o:∀x∈l,∀y,Below w.heap.size w y->Calls Tryz.prog g (#[CY x]++lb) y (Bb y (p x))) :
  Calls Tryz.prog 73 #[v,.func (.func g) #[] lb] w (Bb w (l.all p)):=by
 have I:=Hd (fun(a0:Obj)=>Ry (H.later ((Below.refl _ w).alloc (AG _) a0)) (fun x=>!p x) 127 #[.pointer (some ⟨w.heap.size,0,none⟩)] (fun _ _=>by kernel_rfl));have P:Hid (∀t,∀x∈l,∀y,Below (w.alloc (.cells #[.func (.func g) #[] lb] t)).heap.size (w.alloc (.cells #[.func (.func g) #[] lb] t)) y->Calls Tryz.prog 127 (#[CY x]++#[.pointer (some ⟨w.heap.size,0,none⟩)]) y (Bb y (!p x))):=Hd (by
  intro t x T y i;refine VL g lb R x (p x) w.heap.size y ?_ (fun z U=>o x T z ?_)
  ·exact(i.cell (p:=⟨w.heap.size,0,none⟩) (by simp)).trans ((Ah.new w t _).cell 0)
  ·exact Dm (i.trans (U.mono i.size)))
 have J:=Hd (MZ p l);clear H o;generalize l.all p=b at *;go_enter Tryz.func73,Tryz.ntmps73
 go_wp2_with fail
 refine(I.out _ (P.out _)).mono ?_;rintro e w' ⟨rfl,j⟩;have C:=Hd (Dm j);clear j;go_wp2;go_ret;exact⟨BB J.out,C.out⟩
theorem Ci.open_{w:World}{v:Value}{g:Gm}(h:Ci w v g):∃l t i o j p,v=.agg #[.slice l g.T.length t,.slice i g.N.length o,.slice j g.R.length p,.int .i64 g.s] /\
  Bj Bs w (.slice l g.T.length t) g.T/\Bj Bs w (.slice i g.N.length o) g.N/\ET w (.slice j g.R.length p) g.R:=by
 obtain⟨⟨vT,vN,vR,P,C,I,J⟩,hs⟩:=h;obtain⟨⟨l,t,rfl,U⟩,sT⟩:=id C;obtain⟨⟨i,o,rfl,R⟩,sN⟩:=id I;obtain⟨⟨j,p,rfl,T⟩,sR⟩:=id J;exact⟨l,t,i,o,j,p,P,C,I,J⟩
section
variable {w:World} {v:Value} {g:Gm}
theorem Mc(h:Ci w v g):Calls Tryz.prog 38 #[v] w fun e w'=>e=.returned (.int .i64 ((g.T.length:Int)+(g.N.length:Int)))/\Below w.heap.size w w':=by
 obtain⟨t,J,o,C,p,I,rfl,l,i,j⟩:=h.open_;have P:=h.small.2.2.1;have R:=h.small.2.2.2.1;clear h l i j;go_enter Tryz.func38,Tryz.ntmps38
 go_wp2;go_ret;exact⟨rfl,Ay _ _⟩
theorem Sb(h:Ci w v g)(s:Int):Calls Tryz.prog 70 #[v,.int .i64 s] w (Bb w (g.term s)):=by
 obtain⟨t,J,o,C,p,I,rfl,l,i,j⟩:=h.open_;clear h l i j;unfold Gm.term;generalize g.T.length=n;generalize g.N.length=m;go_enter Tryz.func70,Tryz.ntmps70
 go_wp2;all_goals go_ret
 all_goals exact⟨BB (by rw[Bool.eq_iff_iff];simp[*]<;>omega),Ay _ _⟩
theorem K0(h:Ci w v g)(s:Int):Calls Tryz.prog 40 #[v,.int .i64 s] w (Bb w (g.AV s)):=by
 have o:=Hd (fun y (I:Below w.heap.size w y)=>Mc (h.later I));obtain⟨R,cT,J,T,P,U,rfl,C,p,t⟩:=h.open_;clear h C p t;unfold Gm.AV;generalize g.T.length=n at *;generalize g.N.length=m at *;generalize g.R.length=r at *;generalize g.s=gs at *;by_cases j:(n:Int)<s
 ·rw[decide_eq_true j,Bool.true_and]
  go_enter Tryz.func40,Tryz.ntmps40
  go_wp2_with (go_at_call 38;refine(o.out _ (Ay _ _)).mono ?_;rintro e w' ⟨rfl,i⟩;have l:=Hd (Dm i);clear i)
  go_ret;exact⟨rfl,l.out⟩
 ·rw[decide_eq_false j,Bool.false_and]
  go_enter Tryz.func40,Tryz.ntmps40
  go_wp2;go_ret;exact⟨rfl,Ay _ _⟩
end
structure Cc(y:World)(B:Nat)(v:Value):Prop where
 lt:B<y.heap.size
 cell:∀j,j<4->y.cell? ⟨B,j,none⟩=v.cells[j]?
theorem Cc.later{y l:World}{B:Nat}{v:Value}(h:Cc y B v)(i:Below y.heap.size y l):Cc l B v:=
 ⟨A0 h.lt i.size,fun j o=>(i.cell (p:=⟨B,j,none⟩) h.lt).trans (h.cell j o)⟩
theorem Cc.new(w:World)(t:TypeId)(v:Value):Cc (w.alloc (.cells v.cells t)) w.heap.size v:=⟨by simp,fun j _=>(Ah.new w t _).cell j⟩
theorem Cc.four{y:World}{B:Nat}{a b c d:Value}(h:Cc y B (.agg #[a,b,c,d])):y.cell? ⟨B,0,none⟩=some a/\y.cell? ⟨B,1,none⟩=some b/\y.cell? ⟨B,2,none⟩=some c/\y.cell? ⟨B,3,none⟩=some d:=
 ⟨h.cell 0 (by omega),h.cell 1 (by omega),h.cell 2 (by omega),h.cell 3 (by omega)⟩
theorem UA{w y:World}{B:Nat}{v:Value}{g:Gm}(h:Ci w v g)(s:Int)(t:Below w.heap.size w y)(l:Cc y B v):Calls Tryz.prog 134 #[.int .i64 s,.pointer (some ⟨B,0,none⟩)] y (Bb y (g.sym s)):=by
 have R:=Hd (fun z (p:Below w.heap.size w z)=>Sb (h.later p) s);have P:=Hd (fun z (p:Below w.heap.size w z)=>K0 (h.later p) s);obtain⟨AT,cT,AN,cN,AR,cR,rfl,hT,U,hR⟩:=h.open_;have o:=Hd t;have J:=Hd l;have a0:=l.lt;obtain⟨T,c1,c2,c3⟩:=l.four;clear h hT U hR t l;unfold Gm.sym;generalize g.term s=a at *;generalize g.AV s=b at *;go_enter Tryz.func134,Tryz.ntmps134
 go_wp2_with fail
 refine(R.out _ o.out).mono ?_;rintro e w1 ⟨rfl,j⟩;have i:=Hd j;cases a with
 | true=>clear j;go_wp2;go_ret;exact⟨rfl,i.out⟩
 | false=>
  obtain⟨d0,d1,d2,d3⟩:=(J.out.later j).four;clear j T c1 c2 c3;go_wp2_with fail
  refine(P.out _ (o.out.trans (i.out.mono o.out.size))).mono ?_;rintro e w2 ⟨rfl,C⟩;have I:=Hd (i.out.trans (C.mono i.out.size));clear C;go_wp2;go_ret;exact⟨rfl,I.out⟩
theorem cV{w:World}{v u:Value}{g:Gm}{r:Ru}(h:Ci w v g)(p:Pm w u r):Calls Tryz.prog 80 #[v,u] w (Bb w (g.EN r)):=by
 have R:=Hd (fun z (j:Below w.heap.size w z)=>K0 (h.later j) r.left);have J:=Hd (Cc.new w 32 v);have C:Hid (∀z,Below w.heap.size w z->Cc z w.heap.size v->Calls Tryz.prog 133 #[r.v,.func (.func 134) #[] #[.pointer (some ⟨w.heap.size,0,none⟩)]] z (Bb z (r.right.all g.sym))):=Hd (by intro z j a0;exact V5 (p.right.later j) g.sym 134 #[.pointer (some ⟨w.heap.size,0,none⟩)] (fun _ _=>by kernel_rfl) (fun x hx y t=>UA h x (j.trans (t.mono j.size)) (a0.later t)))
 obtain⟨AT,cT,AN,cN,AR,cR,rfl,hT,T,U⟩:=h.open_;obtain⟨rfl,a1⟩:=p;unfold Gm.EN CY;clear h hT T U a1;generalize r.right.all g.sym=b at *;generalize r.left=rl at *;generalize r.v=rv at *;generalize g.AV rl=a at *;go_enter Tryz.func80,Tryz.ntmps80
 go_wp2_with fail
 refine(R.out _ ((Ay w _).trans ((Ay _ _).mono (by simp)))).mono ?_;rintro e w1 ⟨rfl,i⟩;have l:=Hd ((Ay w _).trans (((Ay _ _).trans (i.mono (by simp))).mono (by simp)));cases a with
 | false=>clear i;go_wp2;go_ret;exact⟨rfl,l.out⟩
 | true=>
  have P:=Hd ((J.out.later (Ay _ _)).later i);have e1:=(i.cell (p:=⟨w.heap.size+1,1,none⟩) (by simp)).trans (World.cell?_alloc_at _ _ _ _ (by simp));clear i;go_wp2_with fail
  refine(C.out _ l.out P.out).mono ?_;rintro e w2 ⟨rfl,o⟩;have I:=Hd (l.out.trans (o.mono l.out.size));clear o;go_wp2;go_ret;exact⟨rfl,I.out⟩
theorem VI(s:ByteArray)(t:s.size<=4611686018427387904)(w:World):Calls Tryz.prog 75 #[.string s] w (Bb w (Cg s.data.toList||Cl s.data.toList)):=by
 have o:=Hd (Sq s (by omega) w);have p:=Hd (YK s t);generalize Cg s.data.toList=a at *;generalize Cl s.data.toList=b at *;go_enter Tryz.func75,Tryz.ntmps75
 go_wp2_with fail
 refine o.out.mono ?_;rintro e C ⟨rfl,i⟩;have j:=Hd i;clear i;cases a with
 | true=>go_wp2;go_ret;exact⟨rfl,j.out⟩
 | false=>
  go_wp2_with fail
  refine(p.out _).mono ?_;rintro e I ⟨rfl,i⟩;have l:=Hd (j.out.trans (i.mono j.out.size));clear i;go_wp2;go_ret;exact⟨rfl,l.out⟩
theorem dP(r:Ru)(w:World)(j:Bj BF w r.v r.right):Calls Tryz.prog 72 #[CY r] w (Bb w (Gf r)):=by
 obtain⟨⟨A,c,i,_⟩,l⟩:=j;unfold Gf CY;rw[i];clear i;generalize r.right.length=n at *;generalize r.left=o at *;go_enter Tryz.func72,Tryz.ntmps72
 go_wp2;go_ret;exact⟨BB (by rw[decide_eq_decide];omega),Ay _ _⟩
theorem Vc{w y:World}{B:Nat}{v:Value}{g:Gm}{r:Ru}(h:Ci w v g)(p:Bj BF w r.v r.right)(l:Below w.heap.size w y)(i:Cc y B v):Calls Tryz.prog 79 #[CY r,.pointer (some ⟨B,0,none⟩)] y (Bb y (g.EN r)):=by
 have I:=Hd (fun z (t:Below w.heap.size w z)=>cV (h.later t) (⟨rfl,p.later t⟩:Pm z (CY r) r));obtain⟨AT,cT,T,cN,U,cR,rfl,R,J,P⟩:=h.open_;have j:=Hd l;have HG:=Hd i;have a0:=i.lt;obtain⟨c0,c1,c2,c3⟩:=i.four;clear h R J P l i p;unfold CY at *;generalize g.EN r=a at *;go_enter Tryz.func79,Tryz.ntmps79
 go_wp2_with fail
 refine(I.out _ (j.out.trans ((Ay _ _).mono j.out.size))).mono ?_;rintro e w1 ⟨rfl,o⟩;have C:=Hd (Dm o);clear o;go_wp2;go_ret;exact⟨rfl,C.out⟩
theorem Ia{B:Nat}{w w':World}(h:Below B w w')(n:Nat):Below B w (w'.drewN n):=⟨h.os,h.tape,h.output,h.size,h.block⟩
def JG(a b:List Int)(k:Nat):Prop:=∀j x y,j<k->a[j]?=some x->b[j]?=some y->x=y
theorem JG.next{a b:List Int}{k:Nat}{x y:Int}(h:JG a b k)(p:a[k]?=some x)(t:b[k]?=some y)(o:x=y):JG a b (k+1):=by
 intro j C I J i l;by_cases e:j=k
 ·subst e
  rw[p]at i;rw[t]at l;cases i;cases l;exact o
 ·exact h j C I (by omega) i l
theorem JG.all{a b:List Int}(l:a.length=b.length)(h:JG a b a.length):(a==b)=true:=by
 rw[beq_iff_eq];apply List.ext_getElem?;intro j;by_cases i:j<a.length
 ·rw[eG i,eG (by omega)]
  rw[h j _ _ i (eG i) (eG (by omega))]
 ·rw[nG (by omega),nG (by omega)]
theorem Si{a b:List Int}{k:Nat}{x y:Int}(l:a[k]?=some x)(i:b[k]?=some y)(j:¬x=y):(a==b)=false:=by
 rw[bN];rintro rfl;rw[l]at i;cases i
 exact j rfl
theorem fY{w:World}{u v:Value}{a b:List Int}(ha:Bj BF w u a)(j:Bj BF w v b):Calls Tryz.prog 136 #[u,v] w (Bb w (a==b)):=by
 obtain⟨⟨A,c,rfl,U⟩,ae⟩:=ha;obtain⟨⟨B,d,rfl,a0⟩,a7⟩:=j;have a3:=Hd U;have a4:=Hd a0;clear U a0;by_cases t:a.length=b.length
 ·rw[<-t]
  have J:=Hd t;clear t a7;go_enter Tryz.func136,Tryz.ntmps136
  go_wp2;go_loopw [5,13] (fun _ i wr=>∃k:Nat,k<=a.length/\i=.int .i64 k/\Hid (JG a b k)/\Hid (∃q,wr=w.drewN q)) (fun _ i _=>a.length-(intOf i).toNat)
  case atStart=>exact⟨0,AP _,rfl,Hd (fun af x y hj=>absurd hj (Nat.not_lt_zero _)),Hd ⟨0,rfl⟩⟩
  case round=>
   obtain⟨k,hk,rfl,P,o⟩:=hrel;by_cases a6:k<a.length
   ·have C:=eG a6
    have I:=eG (show k<b.length by have:=J.out;omega);generalize a[k]=x at C;generalize b[k]'(by have:=J.out;omega)=y at I;obtain⟨b1,a8,rfl,ab,a1⟩:=a3.out k x C;obtain⟨b2,a9,rfl,ad,a2⟩:=a4.out k y I;have R:=Hd C;have T:=Hd I;have e1:wr.cell? ⟨b1,a8+k,none⟩=some (.int .i64 x):=by obtain⟨q,rfl⟩:=o.out;exact a1
    have e2:wr.cell? ⟨b2,a9+k,none⟩=some (.int .i64 y):=by obtain⟨q,rfl⟩:=o.out;exact a2
    clear C I a1 a2;by_cases l:x=y
    ·have p:=Hd (P.out.next R.out T.out l)
     have j:(x != y)=false:=by simp[l]
     clear l;go_wp2;go_quiet (fail)
     have a5:Hid (∃q,wr.drewN nq=w.drewN q):=Hd (by obtain⟨q,hq⟩:=o.out;exact⟨q+nq,by rw[hq,World.drewN_drewN]⟩)
     go_wp2;go_roundw
     case rel=>exact⟨k+1,by omega,by go_num,p,a5⟩
     case measure=>simp[intOf];omega
    ·have p:=Hd (Si R.out T.out l)
     have j:(x != y)=true:=by simp[l]
     clear l;go_wp2;go_quiet (fail)
     go_wp2;go_ret;refine⟨BB p.out.symm,?_⟩;obtain⟨q,rfl⟩:=o.out;exact Ia (Ia (Below.refl _ w) _) _
   ·obtain rfl:k=a.length:=by omega
    have p:=Hd (P.out.all J.out);go_wp2;go_ret;refine⟨BB p.out.symm,?_⟩;obtain⟨q,rfl⟩:=o.out;exact Ia (Below.refl _ w) _
 ·have j:(a==b)=false:=by
   rw[bN];rintro rfl;exact t rfl
  rw[j];have aa:¬(a.length:Int)=(b.length:Int):=by omega
  clear t j;go_enter Tryz.func136,Tryz.ntmps136
  go_wp2;go_ret;exact⟨rfl,Below.refl _ w⟩
theorem FW{B:Nat}{w w':World}(h:Below B w w'):Below B w w'.drew:=⟨h.os,h.tape,h.output,h.size,h.block⟩
theorem Um{w:World}{a b:Ru}(ha:Bj BF w a.v a.right)(o:Bj BF w b.v b.right):Calls Tryz.prog 82 #[CY a,CY b] w (Bb w (CI a b)):=by
 have I:=Hd (fun z (t:Below w.heap.size w z)=>fY (ha.later t) (o.later t));clear ha o;unfold CI CY;generalize (a.right==b.right)=q at *;generalize a.v=J at *;generalize b.v=P at *;generalize a.left=i at *;generalize b.left=j at *;by_cases h:i=j
 ·have l:(i==j)=true:=by simp[h]
  rw[l,Bool.true_and];clear h;go_enter Tryz.func82,Tryz.ntmps82
  go_wp2_with fail
  refine(I.out _ ((Ay w _).trans ((Ay _ _).mono (by simp)))).mono ?_;rintro e R ⟨rfl,p⟩;have C:=Hd ((Ay w _).trans (((Ay _ _).trans (p.mono (by simp))).mono (by simp)));clear p;go_wp2;go_ret;exact⟨rfl,C.out⟩
 ·have l:(i==j)=false:=by simp[h]
  rw[l,Bool.false_and];clear h;go_enter Tryz.func82,Tryz.ntmps82
  go_wp2;go_ret;exact⟨rfl,((Ay w _).trans ((Ay _ _).mono (by simp)))⟩
theorem WX{y:World}{x r:Ru}{l p o b off n c i:Nat}(hF:y.cell? ⟨l,0,none⟩=some (.func (.func 82) #[] #[]))(J:y.cell? ⟨p,0,none⟩=some (.slice (some ⟨b,off,none⟩) n c))(hI:y.cell? ⟨o,0,none⟩=some (.int .i64 i))
  (hi:i<n) (I:y.cell? ⟨b,off+i*2,none⟩=some (.int .i64 r.left)) (T:y.cell? ⟨b,off+i*2+1,none⟩=some r.v) (hx:Bj BF y x.v x.right) (U:Bj BF y r.v r.right) :
  Calls Tryz.prog 135 #[CY x,.pointer (some ⟨l,0,none⟩),.pointer (some ⟨p,0,none⟩),.pointer (some ⟨o,0,none⟩)] y (Bb y (CI x r)):=by
 have HS:=Hd (fun z (hz:Below y.heap.size y z)=>Um (hx.later hz) (U.later hz));have lF:=World.block_lt_of_cell? y _ hF;have lL:=World.block_lt_of_cell? y _ J;have lI:=World.block_lt_of_cell? y _ hI;have lb:=World.block_lt_of_cell? y _ I;clear hx U;unfold CY at *;generalize CI x r=q at *;generalize x.left=t at *;generalize x.v=C at *;generalize r.left=rl at *;generalize r.v=rv at *;go_enter Tryz.func135,Tryz.ntmps135
 have R:Hid (∀j,Below (y.alloc (.cells #[.int .i64 t,C] 65)).heap.size (y.alloc (.cells #[.int .i64 t,C] 65)) j->j.cell? ⟨l,0,none⟩=some (.func (.func 82) #[] #[])/\j.cell? ⟨p,0,none⟩=some (.slice (some ⟨b,off,none⟩) n c)/\j.cell? ⟨o,0,none⟩=some (.int .i64 i)/\j.cell? ⟨b,off+i*2,none⟩=some (.int .i64 rl)/\j.cell? ⟨b,off+i*2+1,none⟩=some rv/\j.cell? ⟨y.heap.size,0,none⟩=some (.int .i64 t)/\j.cell? ⟨y.heap.size,1,none⟩=some C):=Hd (fun j h=>by
  have h0:=Dm h;exact⟨(h0.cell (p:=⟨l,0,none⟩) lF).trans hF,(h0.cell (p:=⟨p,0,none⟩) lL).trans J,(h0.cell (p:=⟨o,0,none⟩) lI).trans hI,(h0.cell (p:=⟨b,off+i*2,none⟩) lb).trans I,(h0.cell (p:=⟨b,off+i*2+1,none⟩) lb).trans T,
   (h.cell (p:=⟨y.heap.size,0,none⟩) (by simp)).trans ((Ah.new y _ _).cell 0),(h.cell (p:=⟨y.heap.size,1,none⟩) (by simp)).trans ((Ah.new y _ _).cell 1)⟩)
 clear hF J hI I T;go_wp2_with fail
 go_region_held3 (fun j=>j.cell? ⟨l,0,none⟩=some (.func (.func 82) #[] #[])/\j.cell? ⟨p,0,none⟩=some (.slice (some ⟨b,off,none⟩) n c)/\j.cell? ⟨o,0,none⟩=some (.int .i64 i)/\j.cell? ⟨b,off+i*2,none⟩=some (.int .i64 rl)/\j.cell? ⟨b,off+i*2+1,none⟩=some rv/\j.cell? ⟨y.heap.size,0,none⟩=some (.int .i64 t)/\j.cell? ⟨y.heap.size,1,none⟩=some C)
  (first|exact R.out _ HZ.out|exact R.out _ ⟨rfl,rfl,rfl,AG _,fun _ _=>rfl⟩)
  (first|(go_at_call 82;refine(HS.out _ (FW (Ay y _))).mono ?_;rintro e w2 ⟨rfl,P⟩;have a0:=Hd ((FW (Ay y _)).trans (P.mono (FW (Ay y _)).size));have HZ:=Hd ((FW (Below.refl _ _)).trans (P.mono (AG _)));clear P))
 all_goals go_wp2
 all_goals go_ret
 all_goals exact⟨rfl,a0.out⟩
def Ib(l:List Ru)(k:Nat):Prop:=∀(i j:Nat) (x r:Ru),i<k->j<i->l[j]?=some x->l[i]?=some r->CI x r=false
theorem Ib.next{l:List Ru}{k:Nat}{r:Ru}(h:Ib l k)(J:l[k]?=some r)(ha:((l.take k).any fun x=>CI x r)=false):Ib l (k+1):=by
 intro i j x P R p t o;by_cases e:i=k
 ·subst e
  rw[J]at o;cases o
  have C:x∈l.take i:=mG (i:=j) (by rw[List.getElem?_take,if_pos p];exact t);cases I:CI x r with
  | false=>rfl
  | true=>have:((l.take i).any fun x=>CI x r)=true:=List.any_eq_true.2 ⟨x,C,I⟩;rw[ha]at this;cases this
 ·exact h i j x P (by omega) p t o
open Classical in
theorem Ib.all{l:List Ru}(h:Ib l l.length):decide (Un l)=true:=by rw[decide_eq_true_eq];intro i j x r p t o;exact h i j x r (sG.1 o).1 p t o
theorem cS{l:List Ru}{k:Nat}{r:Ru}(I:l[k]?=some r)(ha:((l.take k).any fun x=>CI x r)=true):¬Un l:=by
 intro h;obtain⟨x,t,C⟩:=List.any_eq_true.1 ha;obtain⟨j,o,i⟩:=List.mem_iff_getElem.1 t;have p:j<k:=by rw[List.length_take]at o;omega
 have:=h k j x r p (by rw[<-i,List.getElem_take];exact eG _) I;rw[C]at this;cases this
def UK(w:World)(i:Value)(y:World):Prop:=Below w.heap.size w y/\w.heap.size+1<y.heap.size/\y.cell? ⟨w.heap.size,0,none⟩=some i/\y.cell? ⟨w.heap.size+1,0,none⟩=some (.func (.func 82) #[] #[])
theorem UK.later{w y z:World}{j:Value}(h:UK w j y)(i:Below y.heap.size y z):UK w j z:=
 ⟨h.1.trans (i.mono h.1.size),A0 h.2.1 i.size,(i.cell (p:=⟨w.heap.size,0,none⟩) (by have:=h.2.1;show w.heap.size<_;omega)).trans h.2.2.1,(i.cell (p:=⟨w.heap.size+1,0,none⟩) h.2.1).trans h.2.2.2⟩
open Classical in
theorem Qm{w w':World}{l:List Ru}{b:Bool}(h:decide (Un l)=b)(i:Below w.heap.size w w'):Bb w (decide (Un l)) (.returned (.bool b)) w':=⟨by rw[h],i⟩
open Classical in
theorem U6{w:World}{v:Value}{l:List Ru}(h:ET w v l):Calls Tryz.prog 81 #[v,.func (.func 82) #[] #[]] w (Bb w (decide (Un l))):=by
 have hl:=h;obtain⟨⟨A,c,rfl,U⟩,hs,a0⟩:=hl;have a3:Hid (∀k r b off,l[k]?=some r->A=some ⟨b,off,none⟩->∀y,UK w (.slice A l.length c) y->Calls Tryz.prog 126 #[.slice A k c,.func (.func 135) #[] #[.pointer (some ⟨w.heap.size+1,0,none⟩),.pointer (some ⟨w.heap.size,0,none⟩),.pointer (some ⟨y.heap.size,0,none⟩)]] (y.alloc (.cells #[.int .i64 k] 3)) (Bb (y.alloc (.cells #[.int .i64 k] 3)) ((l.take k).any fun x=>CI x r))):=Hd (by
  intro k r b off j P y hy;subst P;have hk:=(sG.1 j).1;have a1:=hy.later (Ay y (.cells #[.int .i64 k] 3));refine Ry ((h.take k (by omega) c ⟨by have:=(a0 _ _ _ rfl).1;omega,fun e=>by cases e⟩).later a1.1) (fun x=>CI x r) 135 _ (fun _ _=>by kernel_rfl) (fun x hx z hz=>?_);have p:=a1.later hz;obtain⟨b',a7,e,R,h1,h2,h3⟩:=U k r j;cases e
  refine WX (r:=r) (b:=b) (off:=off) (n:=l.length) (c:=c) (i:=k) p.2.2.2 p.2.2.1 ?_ hk ?_ ?_ ((h.mem (List.mem_of_mem_take hx)).later p.1) (h3.later p.1)
  ·exact(hz.cell (p:=⟨y.heap.size,0,none⟩) (by simp)).trans ((Ah.new y _ _).cell 0)
  ·exact(p.1.cell (p:=⟨b,off+k*2,none⟩) R).trans h1
  ·exact(p.1.cell (p:=⟨b,off+k*2+1,none⟩) R).trans h2)
 have a2:=Hd U;have a4:=(a0 _ _ _ rfl).1;clear h U a0;go_enter Tryz.func81,Tryz.ntmps81
 go_wp2;go_loopw [8] (fun i wr=>∃k:Nat,k<=l.length/\i=.int .i64 k/\Hid (Ib l k)/\Hid (UK w (.slice A l.length c) wr)) (fun i _=>l.length-(intOf i).toNat)
 case atStart=>exact⟨0,AP _,rfl,Hd (fun i a6 x r hi=>absurd hi (Nat.not_lt_zero _)),Hd ⟨(Ay w _).trans ((Ay _ _).mono (by simp)),by simp,(World.cell?_alloc_lt _ _ ⟨w.heap.size,0,none⟩ (by simp)).trans ((Ah.new w _ _).cell 0),by simp⟩⟩
 case round=>
  obtain⟨k,hk,rfl,HU,t⟩:=hrel;by_cases R:k<l.length
  ·have j:=eG R
   generalize l[k]=r at j;obtain⟨b,off,P,a5,_⟩:=a2.out k r j;have J:=Hd (a3.out k r b off j P wr t.out);have HR:=Hd j;obtain⟨c1,c2,c3,c4⟩:=t.out;have l1:w.heap.size<wr.heap.size:=by omega
   clear c1 j;subst P;cases o:(l.take k).any fun x=>CI x r with
   | false=>
    rw[o]at J;have C:=Hd (HU.out.next HR.out o);clear o;go_wp2_with fail
    refine J.out.mono ?_;rintro e w1 ⟨rfl,I⟩;have T:=Hd ((t.out.later (Ay wr _)).later I);clear I;go_wp2;go_roundw
    case rel=>exact⟨k+1,by omega,by go_num,C,T⟩
    case measure=>simp[intOf];omega
   | true=>
    rw[o]at J;have C:=Hd (cS HR.out o);clear o;go_wp2_with fail
    refine J.out.mono ?_;rintro e w1 ⟨rfl,I⟩;have T:=Hd ((t.out.later (Ay wr _)).later I);clear I;go_wp2;go_ret;exact Qm (decide_eq_false C.out) T.out.1
  ·obtain rfl:k=l.length:=by omega
   have C:=Hd HU.out.all;go_wp2;go_ret;exact Qm C.out t.out.1
theorem Tryz.aV:(Tryz.prog.info? 3).map (fun i=>(i.zero,i.size,i.bytes))=some (some (.int .i64 0),1,8):=by kernel_rfl
theorem Lt:El Tryz.prog 44 3 1 8:=El.of Tryz.underlying44 Tryz.aV rfl (by decide)
theorem AS{w w':World}{base:Nat}{e:TypeId}{size k:Nat}{v:Value}{xs:List Value}(h:w.ownsRow base e size v k xs)(o:Below w.heap.size w w'):w'.ownsRow base e size v k xs:=by
 refine⟨h.1,?_⟩;rcases h.2 with p|⟨g,cap,j,rfl,l,i,rest⟩
 ·exact .inl p
 ·exact .inr ⟨g,cap,j,rfl,l,by rw[o.block g (aG.1 i).1];exact i,rest⟩
def CE(T:TypeId)(w:World)(xs:List Value)(o:Value)(wr:World):Prop:=∃A c,o=.slice A xs.length c/\wr.ownsRow w.heap.size T 1 (.slice A xs.length c) xs.length xs/\Below w.heap.size w wr
theorem CE.nil(T:TypeId)(w:World):CE T w [] (.slice none 0 0) w:=⟨none,0,rfl,⟨rfl,.inl ⟨rfl,rfl⟩⟩,Below.refl _ _⟩
theorem Lz{T:TypeId}{w wr w2:World}{xs i:List Value}{A:Option Addr}{N c:Nat}(j:Below w.heap.size w wr)(l:xs.length+i.length=N)(o:w2.ownsRow w.heap.size T 1 (.slice A N c) N (xs++i))(p:AI w.heap.size [T] wr w2):CE T w (xs++i) (.slice A N c) w2:=by subst l;exact⟨A,c,by rw[B5],by rw[B5];exact o,j.trans (p.below j.size)⟩
theorem CE.later{T:TypeId}{w wr w2:World}{xs:List Value}{o:Value}(h:CE T w xs o wr)(j:Below wr.heap.size wr w2):CE T w xs o w2:=by obtain⟨A,c,p,l,i⟩:=h;exact⟨A,c,p,AS l j,i.trans (j.mono i.size)⟩
theorem CE.arr{C:Type}{E:C->Value}{T:TypeId}{w wr:World}{l:List C}{o:Value}(h:CE T w (l.map E) o wr)(J:l.length<=4611686018427387904):Bj E wr o l:=by
 obtain⟨A,c,rfl,i,U⟩:=h;rw[lM]at i ⊢;refine⟨⟨A,c,rfl,fun k x j=>?_⟩,J,fun P n' R e=>?_⟩
 ·rcases Bv i with⟨e,h0⟩|⟨b,cap,e,I,t,p,_⟩
  ·have:=(sG.1 j).1
   omega
  ·cases e
   have hk:=(sG.1 j).1;refine⟨b,0,rfl,t,?_⟩;rw[Nat.zero_add,Bf i k (by omega),pG,j];rfl
 ·cases e
  rcases Bv i with⟨e,h0⟩|⟨b,cap,e,I,t,p,_⟩
  ·simp only[Value.slice.injEq]at e
   exact⟨by omega,fun _=>e.2.2⟩
  ·cases e
   exact⟨p,fun e=>by cases e⟩
theorem Mq(T:TypeId)(u:Value)(i:u.oneCell'=true)(y:World):Bc (y.alloc (.cells #[u] T)) (.slice (some ⟨y.heap.size,0,none⟩) 1 1) 1 1 [u]:=
 Bc.An (c:=1) (cs:=[u]) (Ah.new y T _) rfl (fun x j=>by rw[mS.1 j];exact i)
theorem T4(T:TypeId)(u:Value)(i:u.oneCell'=true)(y:World)(o:Obj):Bc ((y.alloc o).alloc (.cells #[u] T)) (.slice (some ⟨y.heap.size+1,0,none⟩) 1 1) 1 1 [u]:=by have h:=Mq T u i (y.alloc o);rwa [show (y.alloc o).heap.size=y.heap.size+1 by simp]at h
def Dv(l:List Ru)(s:Int)(k:Nat):List Int:=((List.range k).filter fun i=>(l[i]?.map (Gm.left s)).getD false).map Int.ofNat
theorem Ns{l:List Ru}{s:Int}{k:Nat}{r:Ru}(i:l[k]?=some r):Dv l s (k+1)=Dv l s k++(if r.left=s then[(k:Int)] else[]):=by
 unfold Dv;rw[List.range_succ,List.filter_append,By];congr 1;by_cases h:r.left=s
 ·simp[List.filter,i,Gm.left,h]
 ·have j:(r.left==s)=false:=by simp[h]
  simp[List.filter,i,Gm.left,h,j]
theorem Nq{l:List Ru}{s:Int}{k:Nat}{r:Ru}(i:l[k]?=some r)(h:r.left=s):Dv l s (k+1)=Dv l s k++[(k:Int)]:=by rw[Ns i,if_pos h]
theorem Oq{l:List Ru}{s:Int}{k:Nat}{r:Ru}(i:l[k]?=some r)(h:¬r.left=s):Dv l s (k+1)=Dv l s k:=by rw[Ns i,if_neg h,List.append_nil]
theorem N9(l:List Ru)(s:Int)(k:Nat):(Dv l s k).length<=k:=by unfold Dv;rw[lM];have:=List.length_filter_le (fun i=>(l[i]?.map (Gm.left s)).getD false) (List.range k);rwa [List.length_range]at this
def OV(w:World)(v:Value)(xs:List Int)(e:Ending)(w':World):Prop:=∃o,e=.returned o/\CE 3 (w.alloc (.cells v.cells 32)) (xs.map BF) o w'
theorem Pc{w:World}{v:Value}{g:Gm}(h:Ci w v g)(s:Int):Calls Tryz.prog 83 #[v,.int .i64 s] w (OV w v (Dv g.R s g.R.length)):=by
 have af:=h.small.2.2.2.2.1;have HG:=Hd (Cc.new w 32 v);obtain⟨AT,cT,AN,cN,AR,cR,rfl,hT,hN,hR⟩:=h.open_;obtain⟨⟨A,c,hv,hc⟩,hs,a9⟩:=hR;cases hv
 have a5:=Hd hc;have ab:=Lt;clear h hT hN a9 hc;generalize g.R=l at *;generalize g.T.length=nT at *;generalize g.N.length=nN at *;generalize g.s=gs at *;go_enter Tryz.func83,Tryz.ntmps83
 go_wp2;go_loopw [5,11] (fun aa a1 wr=>∃k:Nat,k<=l.length/\a1=.int .i64 k/\CE 3 (w.alloc (.cells #[.slice AT nT cT,.slice AN nN cN,.slice AR l.length cR,.int .i64 gs] 32)) ((Dv l s k).map BF) aa wr) (fun _ a1 _=>l.length-(intOf a1).toNat)
 case atStart=>exact⟨0,AP _,rfl,CE.nil _ _⟩
 case round=>
  obtain⟨k,hk,rfl,A,oc,rfl,ho,p⟩:=hrel;have P:=Hd ho;have o:=Hd p;have a4:=p.size;have ae:=N9 l s k;have ad:w.heap.size<wr.heap.size:=by simp at a4;omega
  by_cases a7:k<l.length
  ·have j:=eG a7
   generalize l[k]=r at j;obtain⟨b,off,hA,a2,h1,T,h3⟩:=a5.out k r j;subst hA;obtain⟨⟨RA,rc,a3,_⟩,_⟩:=h3;rw[a3]at T;have U:Below w.heap.size w wr:=(Ay w _).trans (p.mono (by simp));have e1:=(U.cell (p:=⟨b,off+k*2,none⟩) a2).trans h1;have e2:=(U.cell (p:=⟨b,off+k*2+1,none⟩) a2).trans T;have R:=Hd (fun e=>Nq (s:=s) j e);have J:=Hd (fun e=>Oq (s:=s) j e);clear h1 T j ho p U a3;generalize r.left=t at *;generalize r.right.length=rn at *;by_cases i:t=s
   ·have a8:(t==s)=true:=by simp[i]
    have R:=Hd (R.out i);have HS:=Hd (T4 3 (.int .i64 k) rfl);clear i;generalize a0:(Dv l s k).map BF=C at *;have ag:C.length<=1048576:=by rw[<-a0,lM];omega
    have a6:=Hd a0;clear a0;go_wp2_with (at_builtin;refine DA Lt (.tmp 20) (.tmp 22) rfl rfl (base:=(w.alloc (.cells #[.slice AT nT cT,.slice AN nN cN,.slice (some ⟨b,off,none⟩) l.length cR,.int .i64 gs] 32)).heap.size) (n:=C.length) (m:=1) (N:=C.length+1) (xs:=C) (news:=[.int .i64 k]) rfl rfl ((P.out.alloc _).alloc _) (HS.out _ _) rfl (by unfold maxLen;omega) (by omega) (by simp at a4 ⊢;omega) ?_;intro A2 c2 w2 r1 r2 r3;have I:=Hd (Lz (o.out.trans (((Ay _ _).trans ((Ay _ _).mono (by simp))).mono o.out.size)) rfl r1 r2);clear r1 r2 r3)
    go_roundw
    case rel=>exact⟨k+1,by omega,by go_num,by rw[R.out,By,a6.out];exact I.out⟩
    case measure=>simp[intOf];omega
   ·have a8:(t==s)=false:=by simp[i]
    have J:=Hd (J.out i);have I:=Hd (CE.later ⟨A,oc,rfl,P.out,o.out⟩ (Ay _ (.cells #[.int .i64 t,.slice RA rn rc] 65)));clear i;go_wp2;go_roundw
    case rel=>exact⟨k+1,by omega,by go_num,by rw[J.out];exact I.out⟩
    case measure=>simp[intOf];omega
  ·obtain rfl:k=l.length:=by omega
   go_wp2;go_ret;exact⟨_,rfl,A,oc,rfl,P.out,o.out⟩
theorem VX{w:World}{v:Value}{g:Gm}(h:Ci w v g)(s:Int):Calls Tryz.prog 94 #[v,.int .i64 s] w (OV w v (Dv g.R s g.R.length)):=by
 have ae:=h.small.2.2.2.2.1;have HG:=Hd (Cc.new w 32 v);obtain⟨AT,cT,AN,cN,AR,cR,rfl,hT,hN,hR⟩:=h.open_;obtain⟨⟨A,c,hv,hc⟩,hs,a8⟩:=hR;cases hv
 have a4:=Hd hc;have aa:=Lt;clear h hT hN a8 hc;generalize g.R=l at *;generalize g.T.length=nT at *;generalize g.N.length=nN at *;generalize g.s=gs at *;go_enter Tryz.func94,Tryz.ntmps94
 go_wp2;go_loopw [5,6] (fun a9 a0 wr=>∃k:Nat,k<=l.length/\a0=.int .i64 k/\CE 3 (w.alloc (.cells #[.slice AT nT cT,.slice AN nN cN,.slice AR l.length cR,.int .i64 gs] 32)) ((Dv l s k).map BF) a9 wr) (fun _ a0 _=>l.length-(intOf a0).toNat)
 case atStart=>exact⟨0,AP _,rfl,CE.nil _ _⟩
 case round=>
  obtain⟨k,hk,rfl,A,oc,rfl,ho,j⟩:=hrel;have J:=Hd ho;have p:=Hd j;have a3:=j.size;have ad:=N9 l s k;obtain⟨d0,d1,d2,d3⟩:=(HG.out.later j).four;have ab:w.heap.size<wr.heap.size:=by simp at a3;omega
  by_cases a6:k<l.length
  ·have o:=eG a6
   generalize l[k]=r at o;obtain⟨b,off,hA,a1,h1,R,h3⟩:=a4.out k r o;subst hA;obtain⟨⟨RA,rc,a2,_⟩,_⟩:=h3;rw[a2]at R;have T:Below w.heap.size w wr:=(Ay w _).trans (j.mono (by simp));have e1:=(T.cell (p:=⟨b,off+k*2,none⟩) a1).trans h1;have e2:=(T.cell (p:=⟨b,off+k*2+1,none⟩) a1).trans R;have P:=Hd (fun e=>Nq (s:=s) o e);have I:=Hd (fun e=>Oq (s:=s) o e);clear h1 R o ho j T a2;generalize r.left=rl at *;generalize r.right.length=rn at *;by_cases i:rl=s
   ·have a7:(rl==s)=true:=by simp[i]
    have P:=Hd (P.out i);have HS:=Hd (Mq 3 (.int .i64 k) rfl);clear i;generalize U:(Dv l s k).map BF=t at *;have af:t.length<=1048576:=by rw[<-U,lM];omega
    have a5:=Hd U;clear U;go_wp2_with (at_builtin;refine DA Lt (.tmp 22) (.tmp 24) rfl rfl (base:=(w.alloc (.cells #[.slice AT nT cT,.slice AN nN cN,.slice (some ⟨b,off,none⟩) l.length cR,.int .i64 gs] 32)).heap.size) (n:=t.length) (m:=1) (N:=t.length+1) (xs:=t) (news:=[.int .i64 k]) rfl rfl (J.out.alloc _) (HS.out _) rfl (by unfold maxLen;omega) (by omega) (by simp at a3 ⊢;omega) ?_;intro A2 c2 w2 r1 r2 r3;have C:=Hd (Lz (p.out.trans ((Ay _ _).mono p.out.size)) rfl r1 r2);clear r1 r2 r3)
    go_roundw
    case rel=>exact⟨k+1,by omega,by go_num,by rw[P.out,By,a5.out];exact C.out⟩
    case measure=>simp[intOf];omega
   ·have a7:(rl==s)=false:=by simp[i]
    have I:=Hd (I.out i);have C:Hid (CE 3 _ _ _ _):=Hd ⟨A,oc,rfl,J.out,p.out⟩;clear i;go_wp2;go_roundw
    case rel=>exact⟨k+1,by omega,by go_num,by rw[I.out];exact C.out⟩
    case measure=>simp[intOf];omega
  ·obtain rfl:k=l.length:=by omega
   go_wp2;go_ret;exact⟨_,rfl,A,oc,rfl,J.out,p.out⟩
end Go.Proofs.YthaacmablcpdfaaGreatDoor
