/- IndexFunc. Symbols of a grammar. What Check asks of each name and each ru. No two rules are the same. No two rules are the same. The rules of a left side. -/
import Derived.Test.YthaacmablcpdfaaGreatDoorXab
import Derived.Shelf.Abstract
import Derived.Deep.RegionWith
import Derived.BigQuiet
import Derived.Deep.QuietTactic
import Derived.Deep.RegionHeld3
import Derived.Test.YthaacmablcpdfaaGreatDoorXnm
set_option linter.all false
set_option maxRecDepth 100000
set_option maxHeartbeats 16000000
namespace Go.Proofs.YthaacmablcpdfaaGreatDoor
open Go.RowKit
variable{o:Value}{k:Nat}{w w':World}{l:List Ru}{g:Gm}{r:Ru}{xs:List Value}{T:TypeId}{s:Int}
def Nh{o:Type}{p:o->Bool}{l:List o}{x:o}(I:l[k]?=some x)(C:p x=false)(t:∀j y,j<k->l[j]?=some y->p y=false):∀j y,j<k+1->l[j]?=some y->p y=false:=by
 intro j y J i;by_cases e:j=k
 ·subst e
  rw[I]at i;cases i
  exact C
 ·exact t j y (by omega) i
def gX{v:Value}{l:List ByteArray}(H:Bv Cd w v l)(p:ByteArray->Bool)(g:Nat)(lb:Array Value)(eg:∀args y,(callFunc g args).run Tryz.prog y=.ok (.enter g args) y)
  (hp:∀x∈l,∀y,Below w w y->() g (#[Cd x]++lb) y (Br y (p x))) :
  () 181 #[v,.func (.func g) #[] lb] w fun e w'=>e=.returned (.int .i64 (GV p l))/\Below w w w':=by
 obtain⟨⟨A,c,rfl,hc⟩,hs⟩:=H;have HC:=Hd hc;have HP:=Hd hp;clear hc hp;go_enter Tryz.func181,Tryz.ntmps181
 go_wp2;go_loopw [5,8] (fun _ i wr=>∃k:Nat,k<=l.length/\i=.int .i64 k/\Hid (∀j y,j<k->l[j]?=some y->p y=false)/\Hid (Below w w wr)) (fun _ i _=>l.length-(intOf i).toNat)
 case atStart=>exact⟨0,AZ _,rfl,Hd (fun j y hj=>absurd hj (Nat.not_lt_zero _)),Hd (Below.refl _ w)⟩
 case round=>
  obtain⟨k,hk,rfl,P,o⟩:=hrel;by_cases a1:k<l.length
  ·have I:=eG a1
   generalize l[k]=x at I;have hm:=mG I;obtain⟨b,off,rfl,a2,a0⟩:=HC k x I;have a3:=(o.cell (p:=(b,off+k)) a2).trans a0;have J:=Hd (HP x hm wr o);simp only[Cd]at *;have U:=Hd I;clear I a0 hm;cases t:p x with
   | true=>
    rw[t]at J;have T:=Hd (Pm U t P);clear t;go_wp2_with (go_at_fn g;refine J.mono ?_;rintro e w' ⟨rfl,C⟩;have R:=Hd (o.trans (C.mono o.size));clear C)
    go_ret;exact⟨by rw[T.out];rfl,R⟩
   | false=>
    rw[t]at J;have HN:=Hd (Nh U t P);clear t;go_wp2_with (go_at_fn g;refine J.mono ?_;rintro e w' ⟨rfl,C⟩;have R:=Hd (o.trans (C.mono o.size));clear C)
    go_roundw
    case rel=>exact⟨k+1,by omega,by go_num,HN,R⟩
    case measure=>simp[intOf];omega
  ·obtain rfl:k=l.length:=by omega
   have T:=Hd (OV P);go_wp2;go_ret;exact⟨by rw[T.out];rfl,o⟩
def eV{v:Value}{l:List ByteArray}(H:Bv Cd w v l)(p:ByteArray->Bool)(g:Nat)(lb:Array Value)(I:∀args y,(callFunc g args).run Tryz.prog y=.ok (.enter g args) y)
  (j:∀x∈l,∀y,Below w w y->() g (#[Cd x]++lb) y (Br y (p x))) :
  () 128 #[v,.func (.func g) #[] lb] w (Br w (l.any p)):=by
 have C:=Hd (gX H p g lb I j);have t:=Hd (OQ p l);generalize l.any p=a at *;generalize GV p l=n at *;clear H j;go_enter Tryz.func128,Tryz.ntmps128
 go_wp2_with fail
 refine C.mono ?_;rintro e J ⟨rfl,i⟩;have o:=Hd i;clear i;go_wp2;go_ret;exact⟨Ci (by rw[<-t.out]),o⟩
def Wb(g:Nat)(lb:Array Value)(p:∀args y,(callFunc g args).run Tryz.prog y=.ok (.enter g args) y)(x:ByteArray)(b:Bool)(B:Nat)(w:World)(t:w.cell? (B,0)=some (.func (.func g) #[] lb))
  (j:∀y,Below w w y->() g (#[Cd x]++lb) y (Br y b)):() 129 #[Cd x,(B,0)] w (Br w (!b)):=by
 have o:=Hd (j w (Below.refl _ w));clear j;simp only[Cd]at *;go_enter Tryz.func129,Tryz.ntmps129
 go_wp2_with (go_at_fn g;refine o.mono ?_;rintro e C ⟨rfl,i⟩;have l:=Hd i;clear i)
 go_ret;exact⟨rfl,l⟩
def TX{v:Value}{l:List ByteArray}(H:Bv Cd w v l)(p:ByteArray->Bool)(g:Nat)(lb:Array Value)(R:∀args y,(callFunc g args).run Tryz.prog y=.ok (.enter g args) y)
  (o:∀x∈l,∀y,Below w w y->() g (#[Cd x]++lb) y (Br y (p x))) :
  () 74 #[v,.func (.func g) #[] lb] w (Br w (l.all p)):=by
 have I:=Hd (fun(a0:Obj)=>eV (H.later ((Below.refl _ w).alloc (AG _) a0)) (fun x=>!p x) 129 #[(w,0)] (fun _ _=>by kernel_rfl));have P:Hid (∀t,∀x∈l,∀y,Below (w.alloc (.cells #[.func (.func g) #[] lb] t)).heap.size (w.alloc (.cells #[.func (.func g) #[] lb] t)) y->() 129 (#[Cd x]++#[.pointer (some ⟨w.heap.size,0,none⟩)]) y (Br y (!p x))):=Hd (by
  intro t x T y i;refine Wb g lb R x (p x) w.heap.size y ?_ (fun z U=>o x T z ?_)
  ·exact(i.cell (p:=(w,0)) (by simp)).trans ((Ah.new w t _).cell 0)
  ·exact Eu (i.trans (U.mono i.size)))
 have J:=Hd (OS p l);clear H o;generalize l.all p=b at *;go_enter Tryz.func74,Tryz.ntmps74
 go_wp2_with fail
 refine(I _ (P _)).mono ?_;rintro e w' ⟨rfl,j⟩;have C:=Hd (Eu j);clear j;go_wp2;go_ret;exact⟨Ci J,C⟩
def bX{v:Value}{l:List Int}(H:Bv BP w v l)(p:Int->Bool)(g:Nat)(lb:Array Value)(eg:∀args y,(callFunc g args).run Tryz.prog y=.ok (.enter g args) y)
  (hp:∀x∈l,∀y,Below w w y->() g (#[BP x]++lb) y (Br y (p x))) :
  () 209 #[v,.func (.func g) #[] lb] w fun e w'=>e=.returned (.int .i64 (GV p l))/\Below w w w':=by
 obtain⟨⟨A,c,rfl,hc⟩,hs⟩:=H;have HC:=Hd hc;have HP:=Hd hp;clear hc hp;go_enter Tryz.func209,Tryz.ntmps209
 go_wp2;go_loopw [5,8] (fun _ i wr=>∃k:Nat,k<=l.length/\i=.int .i64 k/\Hid (∀j y,j<k->l[j]?=some y->p y=false)/\Hid (Below w w wr)) (fun _ i _=>l.length-(intOf i).toNat)
 case atStart=>exact⟨0,AZ _,rfl,Hd (fun j y hj=>absurd hj (Nat.not_lt_zero _)),Hd (Below.refl _ w)⟩
 case round=>
  obtain⟨k,hk,rfl,P,o⟩:=hrel;by_cases a1:k<l.length
  ·have I:=eG a1
   generalize l[k]=x at I;have hm:=mG I;obtain⟨b,off,rfl,a2,a0⟩:=HC k x I;have a3:=(o.cell (p:=(b,off+k)) a2).trans a0;have J:=Hd (HP x hm wr o);simp only[BP]at *;have U:=Hd I;clear I a0 hm;cases t:p x with
   | true=>
    rw[t]at J;have T:=Hd (Pm U t P);clear t;go_wp2_with (go_at_fn g;refine J.mono ?_;rintro e w' ⟨rfl,C⟩;have R:=Hd (o.trans (C.mono o.size));clear C)
    go_ret;exact⟨by rw[T.out];rfl,R⟩
   | false=>
    rw[t]at J;have HN:=Hd (Nh U t P);clear t;go_wp2_with (go_at_fn g;refine J.mono ?_;rintro e w' ⟨rfl,C⟩;have R:=Hd (o.trans (C.mono o.size));clear C)
    go_roundw
    case rel=>exact⟨k+1,by omega,by go_num,HN,R⟩
    case measure=>simp[intOf];omega
  ·obtain rfl:k=l.length:=by omega
   have T:=Hd (OV P);go_wp2;go_ret;exact⟨by rw[T.out];rfl,o⟩
def cV{v:Value}{l:List Int}(H:Bv BP w v l)(p:Int->Bool)(g:Nat)(lb:Array Value)(I:∀args y,(callFunc g args).run Tryz.prog y=.ok (.enter g args) y)
  (j:∀x∈l,∀y,Below w w y->() g (#[BP x]++lb) y (Br y (p x))) :
  () 187 #[v,.func (.func g) #[] lb] w (Br w (l.any p)):=by
 have C:=Hd (bX H p g lb I j);have t:=Hd (OQ p l);generalize l.any p=a at *;generalize GV p l=n at *;clear H j;go_enter Tryz.func187,Tryz.ntmps187
 go_wp2_with fail
 refine C.mono ?_;rintro e J ⟨rfl,i⟩;have o:=Hd i;clear i;go_wp2;go_ret;exact⟨Ci (by rw[<-t.out]),o⟩
def YG(g:Nat)(lb:Array Value)(p:∀args y,(callFunc g args).run Tryz.prog y=.ok (.enter g args) y)(x:Int)(b:Bool)(B:Nat)(w:World)(t:w.cell? (B,0)=some (.func (.func g) #[] lb))
  (j:∀y,Below w w y->() g (#[BP x]++lb) y (Br y b)):() 188 #[BP x,(B,0)] w (Br w (!b)):=by
 have o:=Hd (j w (Below.refl _ w));clear j;simp only[BP]at *;go_enter Tryz.func188,Tryz.ntmps188
 go_wp2_with (go_at_fn g;refine o.mono ?_;rintro e C ⟨rfl,i⟩;have l:=Hd i;clear i)
 go_ret;exact⟨rfl,l⟩
def V5{v:Value}{l:List Int}(H:Bv BP w v l)(p:Int->Bool)(g:Nat)(lb:Array Value)(R:∀args y,(callFunc g args).run Tryz.prog y=.ok (.enter g args) y)
  (o:∀x∈l,∀y,Below w w y->() g (#[BP x]++lb) y (Br y (p x))) :
  () 133 #[v,.func (.func g) #[] lb] w (Br w (l.all p)):=by
 have I:=Hd (fun(a0:Obj)=>cV (H.later ((Below.refl _ w).alloc (AG _) a0)) (fun x=>!p x) 188 #[(w,0)] (fun _ _=>by kernel_rfl));have P:Hid (∀t,∀x∈l,∀y,Below (w.alloc (.cells #[.func (.func g) #[] lb] t)).heap.size (w.alloc (.cells #[.func (.func g) #[] lb] t)) y->() 188 (#[BP x]++#[.pointer (some ⟨w.heap.size,0,none⟩)]) y (Br y (!p x))):=Hd (by
  intro t x T y i;refine YG g lb R x (p x) w.heap.size y ?_ (fun z U=>o x T z ?_)
  ·exact(i.cell (p:=(w,0)) (by simp)).trans ((Ah.new w t _).cell 0)
  ·exact Eu (i.trans (U.mono i.size)))
 have J:=Hd (OS p l);clear H o;generalize l.all p=b at *;go_enter Tryz.func133,Tryz.ntmps133
 go_wp2_with fail
 refine(I _ (P _)).mono ?_;rintro e w' ⟨rfl,j⟩;have C:=Hd (Eu j);clear j;go_wp2;go_ret;exact⟨Ci J,C⟩
def aS{v:Value}(H:Ff w v l)(p:Ru->Bool)(g:Nat)(lb:Array Value)(eg:∀args y,(callFunc g args).run Tryz.prog y=.ok (.enter g args) y)
  (hp:∀x∈l,∀y,Below w w y->() g (#[C0 x]++lb) y (Br y (p x))) :
  () 180 #[v,.func (.func g) #[] lb] w fun e w'=>e=.returned (.int .i64 (GV p l))/\Below w w w':=by
 obtain⟨⟨A,c,rfl,hc⟩,hs⟩:=H;have HC:=Hd hc;have HP:=Hd hp;clear hc hp;go_enter Tryz.func180,Tryz.ntmps180
 go_wp2;go_loopw [5,8] (fun _ i wr=>∃k:Nat,k<=l.length/\i=.int .i64 k/\Hid (∀j y,j<k->l[j]?=some y->p y=false)/\Hid (Below w w wr)) (fun _ i _=>l.length-(intOf i).toNat)
 case atStart=>exact⟨0,AZ _,rfl,Hd (fun j y hj=>absurd hj (Nat.not_lt_zero _)),Hd (Below.refl _ w)⟩
 case round=>
  obtain⟨k,hk,rfl,P,o⟩:=hrel;by_cases a3:k<l.length
  ·have I:=eG a3
   generalize l[k]=x at I;have hm:=mG I;obtain⟨b,off,rfl,a1,a0,a2,_⟩:=HC k x I;have a4:=(o.cell (p:=(b,off+k*2)) a1).trans a0;have a5:=(o.cell (p:=(b,off+k*2+1)) a1).trans a2;have J:=Hd (HP x hm wr o);simp only[C0]at *;have U:=Hd I;clear I a0 hm;cases t:p x with
   | true=>
    rw[t]at J;have T:=Hd (Pm U t P);clear t;go_wp2_with (go_at_fn g;refine J.mono ?_;rintro e w' ⟨rfl,C⟩;have R:=Hd (o.trans (C.mono o.size));clear C)
    go_ret;exact⟨by rw[T.out];rfl,R⟩
   | false=>
    rw[t]at J;have HN:=Hd (Nh U t P);clear t;go_wp2_with (go_at_fn g;refine J.mono ?_;rintro e w' ⟨rfl,C⟩;have R:=Hd (o.trans (C.mono o.size));clear C)
    go_roundw
    case rel=>exact⟨k+1,by omega,by go_num,HN,R⟩
    case measure=>simp[intOf];omega
  ·obtain rfl:k=l.length:=by omega
   have T:=Hd (OV P);go_wp2;go_ret;exact⟨by rw[T.out];rfl,o⟩
def QS{v:Value}(H:Ff w v l)(p:Ru->Bool)(g:Nat)(lb:Array Value)(I:∀args y,(callFunc g args).run Tryz.prog y=.ok (.enter g args) y)
  (j:∀x∈l,∀y,Below w w y->() g (#[C0 x]++lb) y (Br y (p x))) :
  () 126 #[v,.func (.func g) #[] lb] w (Br w (l.any p)):=by
 have C:=Hd (aS H p g lb I j);have t:=Hd (OQ p l);generalize l.any p=a at *;generalize GV p l=n at *;clear H j;go_enter Tryz.func126,Tryz.ntmps126
 go_wp2_with fail
 refine C.mono ?_;rintro e J ⟨rfl,i⟩;have o:=Hd i;clear i;go_wp2;go_ret;exact⟨Ci (by rw[<-t.out]),o⟩
def Z7(g:Nat)(lb:Array Value)(t:∀args y,(callFunc g args).run Tryz.prog y=.ok (.enter g args) y)(x:Ru)(b:Bool)(B:Nat)(w:World)(p:w.cell? (B,0)=some (.func (.func g) #[] lb))
  (j:∀y,Below w w y->() g (#[C0 x]++lb) y (Br y b)):() 127 #[C0 x,(B,0)] w (Br w (!b)):=by
 have o:=Hd j;clear j;have C:B<w.heap.size:=World.block_lt_of_cell? w _ p;simp only[C0]at *;go_enter Tryz.func127,Tryz.ntmps127
 go_wp2_with (go_at_fn g;refine(o _ ((Below.refl _ w).alloc (AG _) _)).mono ?_;rintro e I ⟨rfl,i⟩;have l:=Hd (Eu i);clear i)
 go_ret;exact⟨rfl,l⟩
def Tm{v:Value}(H:Ff w v l)(p:Ru->Bool)(g:Nat)(lb:Array Value)(R:∀args y,(callFunc g args).run Tryz.prog y=.ok (.enter g args) y)
  (o:∀x∈l,∀y,Below w w y->() g (#[C0 x]++lb) y (Br y (p x))) :
  () 73 #[v,.func (.func g) #[] lb] w (Br w (l.all p)):=by
 have I:=Hd (fun(a0:Obj)=>QS (H.later ((Below.refl _ w).alloc (AG _) a0)) (fun x=>!p x) 127 #[(w,0)] (fun _ _=>by kernel_rfl));have P:Hid (∀t,∀x∈l,∀y,Below (w.alloc (.cells #[.func (.func g) #[] lb] t)).heap.size (w.alloc (.cells #[.func (.func g) #[] lb] t)) y->() 127 (#[C0 x]++#[.pointer (some ⟨w.heap.size,0,none⟩)]) y (Br y (!p x))):=Hd (by
  intro t x T y i;refine Z7 g lb R x (p x) w.heap.size y ?_ (fun z U=>o x T z ?_)
  ·exact(i.cell (p:=(w,0)) (by simp)).trans ((Ah.new w t _).cell 0)
  ·exact Eu (i.trans (U.mono i.size)))
 have J:=Hd (OS p l);clear H o;generalize l.all p=b at *;go_enter Tryz.func73,Tryz.ntmps73
 go_wp2_with fail
 refine(I _ (P _)).mono ?_;rintro e w' ⟨rfl,j⟩;have C:=Hd (Eu j);clear j;go_wp2;go_ret;exact⟨Ci J,C⟩
def Dc.open_{v:Value}(h:Dc w v g):∃l t i o j p,v=.agg #[.slice l g.T.length t,.slice i g.N.length o,.slice j g.R.length p,g.s] /\
  Bv Cd w (.slice l g.T.length t) g.T/\Bv Cd w (.slice i g.N.length o) g.N/\Ff w (.slice j g.R.length p) g.R:=by
 obtain⟨⟨vT,vN,vR,P,C,I,J⟩,hs⟩:=h;obtain⟨⟨l,t,rfl,U⟩,sT⟩:=id C;obtain⟨⟨i,o,rfl,R⟩,sN⟩:=id I;obtain⟨⟨j,p,rfl,T⟩,sR⟩:=id J;exact⟨l,t,i,o,j,p,P,C,I,J⟩
section
variable {w:World} {v:Value} {g:Gm}
def Mm(h:Dc w v g):() 38 #[v] w fun e w'=>e=.returned (.int .i64 ((g.T.length:Int)+(g.N.length:Int)))/\Below w w w':=by
 obtain⟨t,J,o,C,p,I,rfl,l,i,j⟩:=h.open_;have P:=h.small.2.2.1;have R:=h.small.2.2.2.1;clear h l i j;go_enter Tryz.func38,Tryz.ntmps38
 go_wp2;go_ret;exact⟨rfl,AH _ _⟩
def NT(h:Dc w v g)(s:Int):() 70 #[v,s] w (Br w (g.term s)):=by
 obtain⟨t,J,o,C,p,I,rfl,l,i,j⟩:=h.open_;clear h l i j;unfold Gm.term;generalize g.T.length=n;generalize g.N.length=m;go_enter Tryz.func70,Tryz.ntmps70
 go_wp2;all_goals go_ret
 all_goals exact⟨Ci (by rw[Bool.eq_iff_iff];simp[*]<;>omega),AH _ _⟩
def Lj(h:Dc w v g)(s:Int):() 40 #[v,s] w (Br w (g.BJ s)):=by
 have o:=Hd (fun y (I:Below w w y)=>Mm (h.later I));obtain⟨R,cT,J,T,P,U,rfl,C,p,t⟩:=h.open_;clear h C p t;unfold Gm.BJ;generalize g.T.length=n at *;generalize g.N.length=m at *;generalize g.R.length=r at *;generalize g.s=gs at *;by_cases j:(n:Int)<s
 ·rw[decide_eq_true j,Bool.true_and]
  go_enter Tryz.func40,Tryz.ntmps40
  go_wp2_with (go_at_call 38;refine(o _ (AH _ _)).mono ?_;rintro e w' ⟨rfl,i⟩;have l:=Hd (Eu i);clear i)
  go_ret;exact⟨rfl,l⟩
 ·rw[decide_eq_false j,Bool.false_and]
  go_enter Tryz.func40,Tryz.ntmps40
  go_wp2;go_ret;exact⟨rfl,AH _ _⟩
end
structure Dv(y:World)(B:Nat)(v:Value):Prop where
 lt:B<y.heap.size
 cell:∀j,j<4->y.cell? ⟨B,j,none⟩=v.cells[j]?
variable{y:World}{B:Nat}{v:Value}
def Dv.later{l:World}(h:Dv y B v)(i:Below y y l):Dv l B v:=
 ⟨AW h.lt i.size,fun j o=>(i.cell (p:=⟨B,j,none⟩) h.lt).trans (h.cell j o)⟩
def Dv.new(w:World)(t:TypeId)(v:Value):Dv (w.alloc (.cells v.cells t)) w.heap.size v:=⟨by simp,fun j _=>(Ah.new w t _).cell j⟩
def Dv.four{a b c d:Value}(h:Dv y B (.agg #[a,b,c,d])):y.cell? (B,0)=some a/\y.cell? (B,1)=some b/\y.cell? (B,2)=some c/\y.cell? (B,3)=some d:=
 ⟨h.cell 0 (by omega),h.cell 1 (by omega),h.cell 2 (by omega),h.cell 3 (by omega)⟩
def Zo(h:Dc w v g)(s:Int)(t:Below w w y)(l:Dv y B v):() 134 #[s,(B,0)] y (Br y (g.sym s)):=by
 have R:=Hd (fun z (p:Below w w z)=>NT (h.later p) s);have P:=Hd (fun z (p:Below w w z)=>Lj (h.later p) s);obtain⟨AT,cT,AN,cN,AR,cR,rfl,hT,U,hR⟩:=h.open_;have o:=Hd t;have J:=Hd l;have a0:=l.lt;obtain⟨T,c1,c2,c3⟩:=l.four;clear h hT U hR t l;unfold Gm.sym;generalize g.term s=a at *;generalize g.BJ s=b at *;go_enter Tryz.func134,Tryz.ntmps134
 go_wp2_with fail
 refine(R _ o).mono ?_;rintro e w1 ⟨rfl,j⟩;have i:=Hd j;cases a with
 | true=>clear j;go_wp2;go_ret;exact⟨rfl,i⟩
 | false=>
  obtain⟨d0,d1,d2,d3⟩:=(J.later j).four;clear j T c1 c2 c3;go_wp2_with fail
  refine(P _ (o.trans (i.mono o.size))).mono ?_;rintro e w2 ⟨rfl,C⟩;have I:=Hd (i.trans (C.mono i.size));clear C;go_wp2;go_ret;exact⟨rfl,I⟩
def aJ{u:Value}(h:Dc w v g)(p:Rb w u r):Calls Tryz.prog 80 #[v,u] w (Br w (g.Hi r)):=by
 have R:=Hd (fun z (j:Below w.heap.size w z)=>Lj (h.later j) r.left);have J:=Hd (Dv.new w 32 v);have C:Hid (∀z,Below w.heap.size w z->Dv z w.heap.size v->Calls Tryz.prog 133 #[r.v,.func (.func 134) #[] #[.pointer (some ⟨w.heap.size,0,none⟩)]] z (Br z (r.right.all g.sym))):=Hd (by intro z j a0;exact V5 (p.right.later j) g.sym 134 #[.pointer (some ⟨w.heap.size,0,none⟩)] (fun _ _=>by kernel_rfl) (fun x hx y t=>Zo h x (j.trans (t.mono j.size)) (a0.later t)))
 obtain⟨AT,cT,AN,cN,AR,cR,rfl,hT,T,U⟩:=h.open_;obtain⟨rfl,a1⟩:=p;unfold Gm.Hi C0;clear h hT T U a1;generalize r.right.all g.sym=b at *;generalize r.left=rl at *;generalize r.v=rv at *;generalize g.BJ rl=a at *;go_enter Tryz.func80,Tryz.ntmps80
 go_wp2_with fail
 refine(R.out _ ((AH w _).trans ((AH _ _).mono (by simp)))).mono ?_;rintro e w1 ⟨rfl,i⟩;have l:=Hd ((AH w _).trans (((AH _ _).trans (i.mono (by simp))).mono (by simp)));cases a with
 | false=>clear i;go_wp2;go_ret;exact⟨rfl,l.out⟩
 | true=>
  have P:=Hd ((J.out.later (AH _ _)).later i);have e1:=(i.cell (p:=⟨w.heap.size+1,1,none⟩) (by simp)).trans (World.cell?_alloc_at _ _ _ _ (by simp));clear i;go_wp2_with fail
  refine(C.out _ l.out P.out).mono ?_;rintro e w2 ⟨rfl,o⟩;have I:=Hd (l.out.trans (o.mono l.out.size));clear o;go_wp2;go_ret;exact⟨rfl,I.out⟩
theorem U2(s:ByteArray)(t:s.size<=4611686018427387904)(w:World):() 75 #[.string s] w (Br w (CH s.data.toList||CD s.data.toList)):=by
 have o:=Hd (Tu s (by omega) w);have p:=Hd (iC s t);generalize CH s.data.toList=a at *;generalize CD s.data.toList=b at *;go_enter Tryz.func75,Tryz.ntmps75
 go_wp2_with fail
 refine o.mono ?_;rintro e C ⟨rfl,i⟩;have j:=Hd i;clear i;cases a with
 | true=>go_wp2;go_ret;exact⟨rfl,j⟩
 | false=>
  go_wp2_with fail
  refine(p _).mono ?_;rintro e I ⟨rfl,i⟩;have l:=Hd (j.trans (i.mono j.size));clear i;go_wp2;go_ret;exact⟨rfl,l⟩
def bM(r:Ru)(w:World)(j:Bv BP w r.v r.right):() 72 #[C0 r] w (Br w (IJ r)):=by
 obtain⟨⟨A,c,i,_⟩,l⟩:=j;unfold IJ C0;rw[i];clear i;generalize r.right.length=n at *;generalize r.left=o at *;go_enter Tryz.func72,Tryz.ntmps72
 go_wp2;go_ret;exact⟨Ci (by rw[decide_eq_decide];omega),AH _ _⟩
def Wr(h:Dc w v g)(p:Bv BP w r.v r.right)(l:Below w w y)(i:Dv y B v):() 79 #[C0 r,(B,0)] y (Br y (g.Hi r)):=by
 have I:=Hd (fun z (t:Below w w z)=>aJ (h.later t) (⟨rfl,p.later t⟩:Rb z (C0 r) r));obtain⟨AT,cT,T,cN,U,cR,rfl,R,J,P⟩:=h.open_;have j:=Hd l;have HG:=Hd i;have a0:=i.lt;obtain⟨c0,c1,c2,c3⟩:=i.four;clear h R J P l i p;unfold C0 at *;generalize g.Hi r=a at *;go_enter Tryz.func79,Tryz.ntmps79
 go_wp2_with fail
 refine(I _ (j.trans ((AH _ _).mono j.size))).mono ?_;rintro e w1 ⟨rfl,o⟩;have C:=Hd (Eu o);clear o;go_wp2;go_ret;exact⟨rfl,C⟩
def JF(h:Below B w w')(n:Nat):Below B w (w'.drewN n):=⟨h.os,h.tape,h.output,h.size,h.block⟩
def JW(a b:List Int)(k:Nat):Prop:=∀j x y,j<k->a[j]?=some x->b[j]?=some y->x=y
def JW.next{a b:List Int}{k:Nat}{x y:Int}(h:JW a b k)(p:a[k]?=some x)(t:b[k]?=some y)(o:x=y):JW a b (k+1):=by
 intro j C I J i l;by_cases e:j=k
 ·subst e
  rw[p]at i;rw[t]at l;cases i;cases l;exact o
 ·exact h j C I (by omega) i l
def JW.all{a b:List Int}(l:a.length=b.length)(h:JW a b a.length):(a==b)=true:=by
 rw[beq_iff_eq];apply List.ext_getElem?;intro j;by_cases i:j<a.length
 ·rw[eG i,eG (by omega)]
  rw[h j _ _ i (eG i) (eG (by omega))]
 ·rw[nG (by omega),nG (by omega)]
def UG{a b:List Int}{x y:Int}(l:a[k]?=some x)(i:b[k]?=some y)(j:¬x=y):(a==b)=false:=by
 rw[bN];rintro rfl;rw[l]at i;cases i
 exact j rfl
def fY{u:Value}{a b:List Int}(ha:Bv BP w u a)(j:Bv BP w v b):() 136 #[u,v] w (Br w (a==b)):=by
 obtain⟨⟨A,c,rfl,U⟩,ae⟩:=ha;obtain⟨⟨B,d,rfl,a0⟩,a7⟩:=j;have a3:=Hd U;have a4:=Hd a0;clear U a0;by_cases t:a.length=b.length
 ·rw[<-t]
  have J:=Hd t;clear t a7;go_enter Tryz.func136,Tryz.ntmps136
  go_wp2;go_loopw [5,13] (fun _ i wr=>∃k:Nat,k<=a.length/\i=.int .i64 k/\Hid (JW a b k)/\Hid (∃q,wr=w.drewN q)) (fun _ i _=>a.length-(intOf i).toNat)
  case atStart=>exact⟨0,AZ _,rfl,Hd (fun af x y hj=>absurd hj (Nat.not_lt_zero _)),Hd ⟨0,rfl⟩⟩
  case round=>
   obtain⟨k,hk,rfl,P,o⟩:=hrel;by_cases a6:k<a.length
   ·have C:=eG a6
    have I:=eG (show k<b.length by have:=J.out;omega);generalize a[k]=x at C;generalize b[k]'(by have:=J.out;omega)=y at I;obtain⟨b1,a8,rfl,ab,a1⟩:=a3 k x C;obtain⟨b2,a9,rfl,ad,a2⟩:=a4 k y I;have R:=Hd C;have T:=Hd I;have e1:wr.cell? (b1,a8+k)=some (.int .i64 x):=by obtain⟨q,rfl⟩:=o.out;exact a1
    have e2:wr.cell? (b2,a9+k)=some (.int .i64 y):=by obtain⟨q,rfl⟩:=o.out;exact a2
    clear C I a1 a2;by_cases l:x=y
    ·have p:=Hd (P.next R T l)
     have j:(x != y)=false:=by simp[l]
     clear l;go_wp2;go_quiet (fail)
     have a5:Hid (∃q,wr.drewN nq=w.drewN q):=Hd (by obtain⟨q,hq⟩:=o.out;exact⟨q+nq,by rw[hq,World.drewN_drewN]⟩)
     go_wp2;go_roundw
     case rel=>exact⟨k+1,by omega,by go_num,p,a5⟩
     case measure=>simp[intOf];omega
    ·have p:=Hd (UG R T l)
     have j:(x != y)=true:=by simp[l]
     clear l;go_wp2;go_quiet (fail)
     go_wp2;go_ret;refine⟨Ci p.symm,?_⟩;obtain⟨q,rfl⟩:=o.out;exact JF (JF (Below.refl _ w) _) _
   ·obtain rfl:k=a.length:=by omega
    have p:=Hd (P.all J);go_wp2;go_ret;refine⟨Ci p.symm,?_⟩;obtain⟨q,rfl⟩:=o.out;exact JF (Below.refl _ w) _
 ·have j:(a==b)=false:=by
   rw[bN];rintro rfl;exact t rfl
  rw[j];have aa:¬(a.length:Int)=(b.length:Int):=by omega
  clear t j;go_enter Tryz.func136,Tryz.ntmps136
  go_wp2;go_ret;exact⟨rfl,Below.refl _ w⟩
def Ln(h:Below B w w'):Below B w w'.drew:=⟨h.os,h.tape,h.output,h.size,h.block⟩
def WK{a b:Ru}(ha:Bv BP w a.v a.right)(o:Bv BP w b.v b.right):() 82 #[C0 a,C0 b] w (Br w (Ea a b)):=by
 have I:=Hd (fun z (t:Below w w z)=>fY (ha.later t) (o.later t));clear ha o;unfold Ea C0;generalize (a.right==b.right)=q at *;generalize a.v=J at *;generalize b.v=P at *;generalize a.left=i at *;generalize b.left=j at *;by_cases h:i=j
 ·have l:(i==j)=true:=by simp[h]
  rw[l,Bool.true_and];clear h;go_enter Tryz.func82,Tryz.ntmps82
  go_wp2_with fail
  refine(I _ ((AH w _).trans ((AH _ _).mono (by simp)))).mono ?_;rintro e R ⟨rfl,p⟩;have C:=Hd ((AH w _).trans (((AH _ _).trans (p.mono (by simp))).mono (by simp)));clear p;go_wp2;go_ret;exact⟨rfl,C⟩
 ·have l:(i==j)=false:=by simp[h]
  rw[l,Bool.false_and];clear h;go_enter Tryz.func82,Tryz.ntmps82
  go_wp2;go_ret;exact⟨rfl,((AH w _).trans ((AH _ _).mono (by simp)))⟩
def XU{x:Ru}{l p o b off n c i:Nat}(hF:y.cell? (l,0)=some (.func (.func 82) #[] #[]))(J:y.cell? (p,0)=some (.slice (b,off) n c))(hI:y.cell? (o,0)=some (.int .i64 i))
  (hi:i<n) (I:y.cell? (b,off+i*2)=some (.int .i64 r.left)) (T:y.cell? (b,off+i*2+1)=some r.v) (hx:Bv BP y x.v x.right) (U:Bv BP y r.v r.right) :
  () 135 #[C0 x,(l,0),(p,0),(o,0)] y (Br y (Ea x r)):=by
 have HS:=Hd (fun z (hz:Below y y z)=>WK (hx.later hz) (U.later hz));have lF:=World.block_lt_of_cell? y _ hF;have lL:=World.block_lt_of_cell? y _ J;have lI:=World.block_lt_of_cell? y _ hI;have lb:=World.block_lt_of_cell? y _ I;clear hx U;unfold C0 at *;generalize Ea x r=q at *;generalize x.left=t at *;generalize x.v=C at *;generalize r.left=rl at *;generalize r.v=rv at *;go_enter Tryz.func135,Tryz.ntmps135
 have R:Hid (∀j,Below (y.alloc (.cells #[t,C] 65)).heap.size (y.alloc (.cells #[t,C] 65)) j->j.cell? (l,0)=some (.func (.func 82) #[] #[])/\j.cell? (p,0)=some (.slice (b,off) n c)/\j.cell? (o,0)=some (.int .i64 i)/\j.cell? (b,off+i*2)=some (.int .i64 rl)/\j.cell? (b,off+i*2+1)=some rv/\j.cell? (y,0)=some (.int .i64 t)/\j.cell? (y,1)=some C):=Hd (fun j h=>by
  have h0:=Eu h;exact⟨(h0.cell (p:=(l,0)) lF).trans hF,(h0.cell (p:=(p,0)) lL).trans J,(h0.cell (p:=(o,0)) lI).trans hI,(h0.cell (p:=(b,off+i*2)) lb).trans I,(h0.cell (p:=(b,off+i*2+1)) lb).trans T,
   (h.cell (p:=(y,0)) (by simp)).trans ((Ah.new y _ _).cell 0),(h.cell (p:=(y,1)) (by simp)).trans ((Ah.new y _ _).cell 1)⟩)
 clear hF J hI I T;go_wp2_with fail
 go_region_held3 (fun j=>j.cell? (l,0)=some (.func (.func 82) #[] #[])/\j.cell? (p,0)=some (.slice (b,off) n c)/\j.cell? (o,0)=some (.int .i64 i)/\j.cell? (b,off+i*2)=some (.int .i64 rl)/\j.cell? (b,off+i*2+1)=some rv/\j.cell? (y,0)=some (.int .i64 t)/\j.cell? (y,1)=some C)
  (first|exact R _ HZ|exact R _ ⟨rfl,rfl,rfl,AG _,fun _ _=>rfl⟩)
  (first|(go_at_call 82;refine(HS _ (Ln (AH y _))).mono ?_;rintro e w2 ⟨rfl,P⟩;have a0:=Hd ((Ln (AH y _)).trans (P.mono (Ln (AH y _)).size));have HZ:=Hd ((Ln (Below.refl _ _)).trans (P.mono (AG _)));clear P))
 all_goals go_wp2
 all_goals go_ret
 all_goals exact⟨rfl,a0⟩
def Ko(l:List Ru)(k:Nat):Prop:=∀(i j:Nat) (x r:Ru),i<k->j<i->l[j]?=some x->l[i]?=some r->Ea x r=false
theorem Ko.next{l:List Ru}{k:Nat}{r:Ru}(h:Ko l k)(J:l[k]?=some r)(ha:((l.take k).any fun x=>Ea x r)=false):Ko l (k+1):=by
 intro i j x P R p t o;by_cases e:i=k
 ·subst e
  rw[J]at o;cases o
  have C:x∈l.take i:=mG (i:=j) (by rw[List.getElem?_take,if_pos p];exact t);cases I:Ea x r with
  | false=>rfl
  | true=>have:((l.take i).any fun x=>Ea x r)=true:=List.any_eq_true.2 ⟨x,C,I⟩;rw[ha]at this;cases this
 ·exact h i j x P (by omega) p t o
open Classical in
def Ko.all{l:List Ru}(h:Ko l l.length):decide (Un l)=true:=by rw[decide_eq_true_eq];intro i j x r p t o;exact h i j x r (sG.1 o).1 p t o
def iB(I:l[k]?=some r)(ha:((l.take k).any fun x=>Ea x r)=true):¬Un l:=by
 intro h;obtain⟨x,t,C⟩:=List.any_eq_true.1 ha;obtain⟨j,o,i⟩:=List.mem_iff_getElem.1 t;have p:j<k:=by rw[List.length_take]at o;omega
 have:=h k j x r p (by rw[<-i,List.getElem_take];exact eG _) I;rw[C]at this;cases this
def UK(w:World)(i:Value)(y:World):Prop:=Below w w y/\w.heap.size+1<y.heap.size/\y.cell? (w,0)=some i/\y.cell? (w.heap.size+1,0)=some (.func (.func 82) #[] #[])
def UK.later{z:World}{j:Value}(h:UK w j y)(i:Below y y z):UK w j z:=
 ⟨h.1.trans (i.mono h.1.size),AW h.2.1 i.size,(i.cell (p:=(w,0)) (by have:=h.2.1;show w.heap.size<_;omega)).trans h.2.2.1,(i.cell (p:=(w.heap.size+1,0)) h.2.1).trans h.2.2.2⟩
open Classical in
def QH{b:Bool}(h:decide (Un l)=b)(i:Below w w w'):Br w (decide (Un l)) (.returned (.bool b)) w':=⟨by rw[h],i⟩
open Classical in
def Zy(h:Ff w v l):() 81 #[v,.func (.func 82) #[] #[]] w (Br w (decide (Un l))):=by
 have hl:=h;obtain⟨⟨A,c,rfl,U⟩,hs,a0⟩:=hl;have a3:Hid (∀k r b off,l[k]?=some r->A=some ⟨b,off,none⟩->∀y,UK w (.slice A l.length c) y->() 126 #[.slice A k c,.func (.func 135) #[] #[(w.heap.size+1,0),(w,0),(y,0)]] (y.alloc (.cells #[.int .i64 k] 3)) (Br (y.alloc (.cells #[.int .i64 k] 3)) ((l.take k).any fun x=>Ea x r))):=Hd (by
  intro k r b off j P y hy;subst P;have hk:=(sG.1 j).1;have a1:=hy.later (AH y (.cells #[.int .i64 k] 3));refine QS ((h.take k (by omega) c ⟨by have:=(a0 _ _ _ rfl).1;omega,fun e=>by cases e⟩).later a1.1) (fun x=>Ea x r) 135 _ (fun _ _=>by kernel_rfl) (fun x hx z hz=>?_);have p:=a1.later hz;obtain⟨b',a7,e,R,h1,h2,h3⟩:=U k r j;cases e
  refine XU (r:=r) (b:=b) (off:=off) (n:=l.length) (c:=c) (i:=k) p.2.2.2 p.2.2.1 ?_ hk ?_ ?_ ((h.mem (List.mem_of_mem_take hx)).later p.1) (h3.later p.1)
  ·exact(hz.cell (p:=(y,0)) (by simp)).trans ((Ah.new y _ _).cell 0)
  ·exact(p.1.cell (p:=⟨b,off+k*2,none⟩) R).trans h1
  ·exact(p.1.cell (p:=⟨b,off+k*2+1,none⟩) R).trans h2)
 have a2:=Hd U;have a4:=(a0 _ _ _ rfl).1;clear h U a0;go_enter Tryz.func81,Tryz.ntmps81
 go_wp2;go_loopw [8] (fun i wr=>∃k:Nat,k<=l.length/\i=.int .i64 k/\Hid (Ko l k)/\Hid (UK w (.slice A l.length c) wr)) (fun i _=>l.length-(intOf i).toNat)
 case atStart=>exact⟨0,AZ _,rfl,Hd (fun i a6 x r hi=>absurd hi (Nat.not_lt_zero _)),Hd ⟨(AH w _).trans ((AH _ _).mono (by simp)),by simp,(World.cell?_alloc_lt _ _ (w,0) (by simp)).trans ((Ah.new w _ _).cell 0),by simp⟩⟩
 case round=>
  obtain⟨k,hk,rfl,HU,t⟩:=hrel;by_cases R:k<l.length
  ·have j:=eG R
   generalize l[k]=r at j;obtain⟨b,off,P,a5,_⟩:=a2 k r j;have J:=Hd (a3 k r b off j P wr t);have HR:=Hd j;obtain⟨c1,c2,c3,c4⟩:=t.out;have l1:w.heap.size<wr.heap.size:=by omega
   clear c1 j;subst P;cases o:(l.take k).any fun x=>Ea x r with
   | false=>
    rw[o]at J;have C:=Hd (HU.next HR o);clear o;go_wp2_with fail
    refine J.mono ?_;rintro e w1 ⟨rfl,I⟩;have T:=Hd ((t.later (AH wr _)).later I);clear I;go_wp2;go_roundw
    case rel=>exact⟨k+1,by omega,by go_num,C,T⟩
    case measure=>simp[intOf];omega
   | true=>
    rw[o]at J;have C:=Hd (iB HR o);clear o;go_wp2_with fail
    refine J.mono ?_;rintro e w1 ⟨rfl,I⟩;have T:=Hd ((t.later (AH wr _)).later I);clear I;go_wp2;go_ret;exact QH (decide_eq_false C) T.1
  ·obtain rfl:k=l.length:=by omega
   have C:=Hd HU.all;go_wp2;go_ret;exact QH C t.1
def Tryz.Vq:(Tryz.prog.info? 3).map (fun i=>(i.zero,i.size,i.bytes))=some (some (.int .i64 0),1,8):=by kernel_rfl
def Ke:El Tryz.prog 44 3 1 8:=El.of Tryz.underlying44 Tryz.Vq rfl (by decide)
def AV{base:Nat}{e:TypeId}{size:Nat}(h:w.ownsRow base e size v k xs)(o:Below w w w'):w'.ownsRow base e size v k xs:=by
 refine⟨h.1,?_⟩;rcases h.2 with p|⟨g,cap,j,rfl,l,i,rest⟩
 ·exact .inl p
 ·exact .inr ⟨g,cap,j,rfl,l,by rw[o.block g (aG.1 i).1];exact i,rest⟩
def C8(T:TypeId)(w:World)(xs:List Value)(o:Value)(wr:World):Prop:=∃A c,o=.slice A xs.length c/\wr.ownsRow w T 1 (.slice A xs.length c) xs.length xs/\Below w w wr
def C8.nil(T:TypeId)(w:World):C8 T w [] (.slice none 0 0) w:=⟨none,0,rfl,⟨rfl,.inl ⟨rfl,rfl⟩⟩,Below.refl _ _⟩
def Lc{wr w2:World}{i:List Value}{A:Option Addr}{N c:Nat}(j:Below w w wr)(l:xs.length+i.length=N)(o:w2.ownsRow w T 1 (.slice A N c) N (xs++i))(p:AJ w [T] wr w2):C8 T w (xs++i) (.slice A N c) w2:=by subst l;exact⟨A,c,by rw[BO],by rw[BO];exact o,j.trans (p.below j.size)⟩
def C8.later{wr w2:World}(h:C8 T w xs o wr)(j:Below wr wr w2):C8 T w xs o w2:=by obtain⟨A,c,p,l,i⟩:=h;exact⟨A,c,p,AV l j,i.trans (j.mono i.size)⟩
def C8.arr{C:Type}{E:C->Value}{wr:World}{l:List C}(h:C8 T w (l.map E) o wr)(J:l.length<=4611686018427387904):Bv E wr o l:=by
 obtain⟨A,c,rfl,i,U⟩:=h;rw[lM]at i ⊢;refine⟨⟨A,c,rfl,fun k x j=>?_⟩,J,fun P n' R e=>?_⟩
 ·rcases Bk i with⟨e,h0⟩|⟨b,cap,e,I,t,p,_⟩
  ·have:=(sG.1 j).1
   omega
  ·cases e
   have hk:=(sG.1 j).1;refine⟨b,0,rfl,t,?_⟩;rw[Nat.zero_add,Bg i k (by omega),pG,j];rfl
 ·cases e
  rcases Bk i with⟨e,h0⟩|⟨b,cap,e,I,t,p,_⟩
  ·simp only[Value.slice.injEq]at e
   exact⟨by omega,fun _=>e.2.2⟩
  ·cases e
   exact⟨p,fun e=>by cases e⟩
def Lg(T:TypeId)(u:Value)(i:u.oneCell'=true)(y:World):Bf (y.alloc (.cells #[u] T)) (.slice (y,0) 1 1) 1 1 [u]:=
 Bf.Ap (c:=1) (cs:=[u]) (Ah.new y T _) rfl (fun x j=>by rw[mS.1 j];exact i)
def Wi(T:TypeId)(u:Value)(i:u.oneCell'=true)(y:World)(o:Obj):Bf ((y.alloc o).alloc (.cells #[u] T)) (.slice (y.heap.size+1,0) 1 1) 1 1 [u]:=by have h:=Lg T u i (y.alloc o);rwa [show (y.alloc o).heap.size=y.heap.size+1 by simp]at h
def Dx(l:List Ru)(s:Int)(k:Nat):List Int:=((List.range k).filter fun i=>(l[i]?.map (Gm.left s)).getD false).map Int.ofNat
def NQ(i:l[k]?=some r):Dx l s (k+1)=Dx l s k++(if r.left=s then[(k:Int)] else[]):=by
 unfold Dx;rw[List.range_succ,List.filter_append,Bw];congr 1;by_cases h:r.left=s
 ·simp[List.filter,i,Gm.left,h]
 ·have j:(r.left==s)=false:=by simp[h]
  simp[List.filter,i,Gm.left,h,j]
def Oz(i:l[k]?=some r)(h:r.left=s):Dx l s (k+1)=Dx l s k++[(k:Int)]:=by rw[NQ i,if_pos h]
def NN(i:l[k]?=some r)(h:¬r.left=s):Dx l s (k+1)=Dx l s k:=by rw[NQ i,if_neg h,List.append_nil]
def Ul(l:List Ru)(s:Int)(k:Nat):(Dx l s k).length<=k:=by unfold Dx;rw[lM];have:=List.length_filter_le (fun i=>(l[i]?.map (Gm.left s)).getD false) (List.range k);rwa [List.length_range]at this
def RU(w:World)(v:Value)(xs:List Int)(e:Ending)(w':World):Prop:=∃o,e=.returned o/\C8 3 (w.alloc (.cells v.cells 32)) (xs.map BP) o w'
def QB(h:Dc w v g)(s:Int):() 83 #[v,s] w (RU w v (Dx g.R s g.R.length)):=by
 have af:=h.small.2.2.2.2.1;have HG:=Hd (Dv.new w 32 v);obtain⟨AT,cT,AN,cN,AR,cR,rfl,hT,hN,hR⟩:=h.open_;obtain⟨⟨A,c,hv,hc⟩,hs,a9⟩:=hR;cases hv
 have a5:=Hd hc;have ab:=Ke;clear h hT hN a9 hc;generalize g.R=l at *;generalize g.T.length=nT at *;generalize g.N.length=nN at *;generalize g.s=gs at *;go_enter Tryz.func83,Tryz.ntmps83
 go_wp2;go_loopw [5,11] (fun aa a1 wr=>∃k:Nat,k<=l.length/\a1=.int .i64 k/\C8 3 (w.alloc (.cells #[.slice AT nT cT,.slice AN nN cN,.slice AR l.length cR,gs] 32)) ((Dx l s k).map BP) aa wr) (fun _ a1 _=>l.length-(intOf a1).toNat)
 case atStart=>exact⟨0,AZ _,rfl,C8.nil _ _⟩
 case round=>
  obtain⟨k,hk,rfl,A,oc,rfl,ho,p⟩:=hrel;have P:=Hd ho;have o:=Hd p;have a4:=p.size;have ae:=Ul l s k;have ad:w.heap.size<wr.heap.size:=by simp at a4;omega
  by_cases a7:k<l.length
  ·have j:=eG a7
   generalize l[k]=r at j;obtain⟨b,off,hA,a2,h1,T,h3⟩:=a5 k r j;subst hA;obtain⟨⟨RA,rc,a3,_⟩,_⟩:=h3;rw[a3]at T;have U:Below w w wr:=(AH w _).trans (p.mono (by simp));have e1:=(U.cell (p:=(b,off+k*2)) a2).trans h1;have e2:=(U.cell (p:=(b,off+k*2+1)) a2).trans T;have R:=Hd (fun e=>Oz (s:=s) j e);have J:=Hd (fun e=>NN (s:=s) j e);clear h1 T j ho p U a3;generalize r.left=t at *;generalize r.right.length=rn at *;by_cases i:t=s
   ·have a8:(t==s)=true:=by simp[i]
    have R:=Hd (R i);have HS:=Hd (Wi 3 k rfl);clear i;generalize a0:(Dx l s k).map BP=C at *;have ag:C.length<=1048576:=by rw[<-a0,lM];omega
    have a6:=Hd a0;clear a0;go_wp2_with (at_builtin;refine DY Ke (.tmp 20) (.tmp 22) rfl rfl (base:=(w.alloc (.cells #[.slice AT nT cT,.slice AN nN cN,.slice (b,off) l.length cR,gs] 32)).heap.size) (n:=C.length) (m:=1) (N:=C.length+1) (xs:=C) (news:=[.int .i64 k]) rfl rfl ((P.alloc _).alloc _) (HS _ _) rfl (by unfold maxLen;omega) (by omega) (by simp at a4 ⊢;omega) ?_;intro A2 c2 w2 r1 r2 r3;have I:=Hd (Lc (o.trans (((AH _ _).trans ((AH _ _).mono (by simp))).mono o.size)) rfl r1 r2);clear r1 r2 r3)
    go_roundw
    case rel=>exact⟨k+1,by omega,by go_num,by rw[R.out,Bw,a6.out];exact I⟩
    case measure=>simp[intOf];omega
   ·have a8:(t==s)=false:=by simp[i]
    have J:=Hd (J i);have I:=Hd (C8.later ⟨A,oc,rfl,P,o⟩ (AH _ (.cells #[t,.slice RA rn rc] 65)));clear i;go_wp2;go_roundw
    case rel=>exact⟨k+1,by omega,by go_num,by rw[J.out];exact I⟩
    case measure=>simp[intOf];omega
  ·obtain rfl:k=l.length:=by omega
   go_wp2;go_ret;exact⟨_,rfl,A,oc,rfl,P,o⟩
def kM(h:Dc w v g)(s:Int):() 94 #[v,s] w (RU w v (Dx g.R s g.R.length)):=by
 have ae:=h.small.2.2.2.2.1;have HG:=Hd (Dv.new w 32 v);obtain⟨AT,cT,AN,cN,AR,cR,rfl,hT,hN,hR⟩:=h.open_;obtain⟨⟨A,c,hv,hc⟩,hs,a8⟩:=hR;cases hv
 have a4:=Hd hc;have aa:=Ke;clear h hT hN a8 hc;generalize g.R=l at *;generalize g.T.length=nT at *;generalize g.N.length=nN at *;generalize g.s=gs at *;go_enter Tryz.func94,Tryz.ntmps94
 go_wp2;go_loopw [5,6] (fun a9 a0 wr=>∃k:Nat,k<=l.length/\a0=.int .i64 k/\C8 3 (w.alloc (.cells #[.slice AT nT cT,.slice AN nN cN,.slice AR l.length cR,gs] 32)) ((Dx l s k).map BP) a9 wr) (fun _ a0 _=>l.length-(intOf a0).toNat)
 case atStart=>exact⟨0,AZ _,rfl,C8.nil _ _⟩
 case round=>
  obtain⟨k,hk,rfl,A,oc,rfl,ho,j⟩:=hrel;have J:=Hd ho;have p:=Hd j;have a3:=j.size;have ad:=Ul l s k;obtain⟨d0,d1,d2,d3⟩:=(HG.later j).four;have ab:w.heap.size<wr.heap.size:=by simp at a3;omega
  by_cases a6:k<l.length
  ·have o:=eG a6
   generalize l[k]=r at o;obtain⟨b,off,hA,a1,h1,R,h3⟩:=a4 k r o;subst hA;obtain⟨⟨RA,rc,a2,_⟩,_⟩:=h3;rw[a2]at R;have T:Below w w wr:=(AH w _).trans (j.mono (by simp));have e1:=(T.cell (p:=(b,off+k*2)) a1).trans h1;have e2:=(T.cell (p:=(b,off+k*2+1)) a1).trans R;have P:=Hd (fun e=>Oz (s:=s) o e);have I:=Hd (fun e=>NN (s:=s) o e);clear h1 R o ho j T a2;generalize r.left=rl at *;generalize r.right.length=rn at *;by_cases i:rl=s
   ·have a7:(rl==s)=true:=by simp[i]
    have P:=Hd (P i);have HS:=Hd (Lg 3 k rfl);clear i;generalize U:(Dx l s k).map BP=t at *;have af:t.length<=1048576:=by rw[<-U,lM];omega
    have a5:=Hd U;clear U;go_wp2_with (at_builtin;refine DY Ke (.tmp 22) (.tmp 24) rfl rfl (base:=(w.alloc (.cells #[.slice AT nT cT,.slice AN nN cN,.slice (b,off) l.length cR,gs] 32)).heap.size) (n:=t.length) (m:=1) (N:=t.length+1) (xs:=t) (news:=[.int .i64 k]) rfl rfl (J.alloc _) (HS _) rfl (by unfold maxLen;omega) (by omega) (by simp at a3 ⊢;omega) ?_;intro A2 c2 w2 r1 r2 r3;have C:=Hd (Lc (p.trans ((AH _ _).mono p.size)) rfl r1 r2);clear r1 r2 r3)
    go_roundw
    case rel=>exact⟨k+1,by omega,by go_num,by rw[P.out,Bw,a5.out];exact C⟩
    case measure=>simp[intOf];omega
   ·have a7:(rl==s)=false:=by simp[i]
    have I:=Hd (I i);have C:Hid (C8 3 _ _ _ _):=Hd ⟨A,oc,rfl,J,p⟩;clear i;go_wp2;go_roundw
    case rel=>exact⟨k+1,by omega,by go_num,by rw[I.out];exact C⟩
    case measure=>simp[intOf];omega
  ·obtain rfl:k=l.length:=by omega
   go_wp2;go_ret;exact⟨_,rfl,A,oc,rfl,J,p⟩
end Go.Proofs.YthaacmablcpdfaaGreatDoor
