/- IndexFunc. Symbols of a grammar. What Check asks of each name and each ru. No two rules are the same. No two rules are the same. The rules of a left side. -/
import Derived.Test.YtlogpnoioimhjaaGreatDoorXab
import Derived.Shelf.Abstract
import Derived.Deep.RegionWith
import Derived.BigQuiet
import Derived.Deep.QuietTactic
import Derived.Deep.RegionHeld3
import Derived.Test.YtlogpnoioimhjaaGreatDoorXnm
set_option linter.all false
set_option maxRecDepth 100000
set_option maxHeartbeats 16000000
namespace Go.Proofs.YtlogpnoioimhjaaGreatDoor
open Go.RowKit
variable{o:Value}{k:Nat}{w w':World}{l:List Ru}{g:Gm}{r:Ru}{xs:List Value}{T:TypeId}{s:Int}
def Ox{o:Type}{p:o->Bool}{l:List o}{x:o}(I:l[k]?=some x)(C:p x=false)(t:∀j y,j<k->l[j]?=some y->p y=false):∀j y,j<k+1->l[j]?=some y->p y=false:=by
 intro j y J i;by_cases e:j=k
 ·subst e
  rw[I]at i;cases i
  exact C
 ·exact t j y (by omega) i
def VA{v:Value}{l:List ByteArray}(H:BE Cl w v l)(p:ByteArray->Bool)(g:Nat)(lb:Array Value)(eg:∀args y,(callFunc g args).run Tryz.prog y=.ok (.enter g args) y)
  (hp:∀x∈l,∀y,Below w w y->() g (#[Cl x]++lb) y (BB y (p x))) :
  () 196 #[v,.func (.func g) #[] lb] w fun e w'=>e=.returned (.int .i64 (GY p l))/\Below w w w':=by
 obtain⟨⟨A,c,rfl,hc⟩,hs⟩:=H;have HC:=Hd hc;have HP:=Hd hp;clear hc hp;go_enter Tryz.func196,Tryz.ntmps196
 go_wp2;go_loopw [5,8] (fun _ i wr=>∃k:Nat,k<=l.length/\i=.int .i64 k/\Hid (∀j y,j<k->l[j]?=some y->p y=false)/\Hid (Below w w wr)) (fun _ i _=>l.length-(intOf i).toNat)
 case atStart=>exact⟨0,AX _,rfl,Hd (fun j y hj=>absurd hj (Nat.not_lt_zero _)),Hd (Below.refl _ w)⟩
 case round=>
  obtain⟨k,hk,rfl,P,o⟩:=hrel;by_cases a1:k<l.length
  ·have I:=eG a1
   generalize l[k]=x at I;have hm:=mG I;obtain⟨b,off,rfl,a2,a0⟩:=HC k x I;have a3:=(o.cell (p:=(b,off+k)) a2).trans a0;have J:=Hd (HP x hm wr o);simp only[Cl]at *;have U:=Hd I;clear I a0 hm;cases t:p x with
   | true=>
    rw[t]at J;have T:=Hd (NY U t P);clear t;go_wp2_with (go_at_fn g;refine J.mono ?_;rintro e w' ⟨rfl,C⟩;have R:=Hd (o.trans (C.mono o.size));clear C)
    go_ret;exact⟨by rw[T.out];rfl,R⟩
   | false=>
    rw[t]at J;have HN:=Hd (Ox U t P);clear t;go_wp2_with (go_at_fn g;refine J.mono ?_;rintro e w' ⟨rfl,C⟩;have R:=Hd (o.trans (C.mono o.size));clear C)
    go_roundw
    case rel=>exact⟨k+1,by omega,by go_num,HN,R⟩
    case measure=>simp[intOf];omega
  ·obtain rfl:k=l.length:=by omega
   have T:=Hd (Pc P);go_wp2;go_ret;exact⟨by rw[T.out];rfl,o⟩
def bP{v:Value}{l:List ByteArray}(H:BE Cl w v l)(p:ByteArray->Bool)(g:Nat)(lb:Array Value)(I:∀args y,(callFunc g args).run Tryz.prog y=.ok (.enter g args) y)
  (j:∀x∈l,∀y,Below w w y->() g (#[Cl x]++lb) y (BB y (p x))) :
  () 174 #[v,.func (.func g) #[] lb] w (BB w (l.any p)):=by
 have C:=Hd (VA H p g lb I j);have t:=Hd (Oe p l);generalize l.any p=a at *;generalize GY p l=n at *;clear H j;go_enter Tryz.func174,Tryz.ntmps174
 go_wp2_with fail
 refine C.mono ?_;rintro e J ⟨rfl,i⟩;have o:=Hd i;clear i;go_wp2;go_ret;exact⟨CI (by rw[<-t.out]),o⟩
def Xx(g:Nat)(lb:Array Value)(p:∀args y,(callFunc g args).run Tryz.prog y=.ok (.enter g args) y)(x:ByteArray)(b:Bool)(B:Nat)(w:World)(t:w.cell? (B,0)=some (.func (.func g) #[] lb))
  (j:∀y,Below w w y->() g (#[Cl x]++lb) y (BB y b)):() 175 #[Cl x,(B,0)] w (BB w (!b)):=by
 have o:=Hd (j w (Below.refl _ w));clear j;simp only[Cl]at *;go_enter Tryz.func175,Tryz.ntmps175
 go_wp2_with (go_at_fn g;refine o.mono ?_;rintro e C ⟨rfl,i⟩;have l:=Hd i;clear i)
 go_ret;exact⟨rfl,l⟩
def Rl{v:Value}{l:List ByteArray}(H:BE Cl w v l)(p:ByteArray->Bool)(g:Nat)(lb:Array Value)(R:∀args y,(callFunc g args).run Tryz.prog y=.ok (.enter g args) y)
  (o:∀x∈l,∀y,Below w w y->() g (#[Cl x]++lb) y (BB y (p x))) :
  () 136 #[v,.func (.func g) #[] lb] w (BB w (l.all p)):=by
 have I:=Hd (fun(a0:Obj)=>bP (H.later ((Below.refl _ w).alloc (AF _) a0)) (fun x=>!p x) 175 #[(w,0)] (fun _ _=>by kernel_rfl));have P:Hid (∀t,∀x∈l,∀y,Below (w.alloc (.cells #[.func (.func g) #[] lb] t)).heap.size (w.alloc (.cells #[.func (.func g) #[] lb] t)) y->() 175 (#[Cl x]++#[.pointer (some ⟨w.heap.size,0,none⟩)]) y (BB y (!p x))):=Hd (by
  intro t x T y i;refine Xx g lb R x (p x) w.heap.size y ?_ (fun z U=>o x T z ?_)
  ·exact(i.cell (p:=(w,0)) (by simp)).trans ((Ah.new w t _).cell 0)
  ·exact Fv (i.trans (U.mono i.size)))
 have J:=Hd (OC p l);clear H o;generalize l.all p=b at *;go_enter Tryz.func136,Tryz.ntmps136
 go_wp2_with fail
 refine(I _ (P _)).mono ?_;rintro e w' ⟨rfl,j⟩;have C:=Hd (Fv j);clear j;go_wp2;go_ret;exact⟨CI J,C⟩
def iK{v:Value}{l:List Int}(H:BE B3 w v l)(p:Int->Bool)(g:Nat)(lb:Array Value)(eg:∀args y,(callFunc g args).run Tryz.prog y=.ok (.enter g args) y)
  (hp:∀x∈l,∀y,Below w w y->() g (#[B3 x]++lb) y (BB y (p x))) :
  () 51 #[v,.func (.func g) #[] lb] w fun e w'=>e=.returned (.int .i64 (GY p l))/\Below w w w':=by
 obtain⟨⟨A,c,rfl,hc⟩,hs⟩:=H;have HC:=Hd hc;have HP:=Hd hp;clear hc hp;go_enter Tryz.func51,Tryz.ntmps51
 go_wp2;go_loopw [5,8] (fun _ i wr=>∃k:Nat,k<=l.length/\i=.int .i64 k/\Hid (∀j y,j<k->l[j]?=some y->p y=false)/\Hid (Below w w wr)) (fun _ i _=>l.length-(intOf i).toNat)
 case atStart=>exact⟨0,AX _,rfl,Hd (fun j y hj=>absurd hj (Nat.not_lt_zero _)),Hd (Below.refl _ w)⟩
 case round=>
  obtain⟨k,hk,rfl,P,o⟩:=hrel;by_cases a1:k<l.length
  ·have I:=eG a1
   generalize l[k]=x at I;have hm:=mG I;obtain⟨b,off,rfl,a2,a0⟩:=HC k x I;have a3:=(o.cell (p:=(b,off+k)) a2).trans a0;have J:=Hd (HP x hm wr o);simp only[B3]at *;have U:=Hd I;clear I a0 hm;cases t:p x with
   | true=>
    rw[t]at J;have T:=Hd (NY U t P);clear t;go_wp2_with (go_at_fn g;refine J.mono ?_;rintro e w' ⟨rfl,C⟩;have R:=Hd (o.trans (C.mono o.size));clear C)
    go_ret;exact⟨by rw[T.out];rfl,R⟩
   | false=>
    rw[t]at J;have HN:=Hd (Ox U t P);clear t;go_wp2_with (go_at_fn g;refine J.mono ?_;rintro e w' ⟨rfl,C⟩;have R:=Hd (o.trans (C.mono o.size));clear C)
    go_roundw
    case rel=>exact⟨k+1,by omega,by go_num,HN,R⟩
    case measure=>simp[intOf];omega
  ·obtain rfl:k=l.length:=by omega
   have T:=Hd (Pc P);go_wp2;go_ret;exact⟨by rw[T.out];rfl,o⟩
def Ve{v:Value}{l:List Int}(H:BE B3 w v l)(p:Int->Bool)(g:Nat)(lb:Array Value)(I:∀args y,(callFunc g args).run Tryz.prog y=.ok (.enter g args) y)
  (j:∀x∈l,∀y,Below w w y->() g (#[B3 x]++lb) y (BB y (p x))) :
  () 32 #[v,.func (.func g) #[] lb] w (BB w (l.any p)):=by
 have C:=Hd (iK H p g lb I j);have t:=Hd (Oe p l);generalize l.any p=a at *;generalize GY p l=n at *;clear H j;go_enter Tryz.func32,Tryz.ntmps32
 go_wp2_with fail
 refine C.mono ?_;rintro e J ⟨rfl,i⟩;have o:=Hd i;clear i;go_wp2;go_ret;exact⟨CI (by rw[<-t.out]),o⟩
def lg(g:Nat)(lb:Array Value)(p:∀args y,(callFunc g args).run Tryz.prog y=.ok (.enter g args) y)(x:Int)(b:Bool)(B:Nat)(w:World)(t:w.cell? (B,0)=some (.func (.func g) #[] lb))
  (j:∀y,Below w w y->() g (#[B3 x]++lb) y (BB y b)):() 198 #[B3 x,(B,0)] w (BB w (!b)):=by
 have o:=Hd (j w (Below.refl _ w));clear j;simp only[B3]at *;go_enter Tryz.func198,Tryz.ntmps198
 go_wp2_with (go_at_fn g;refine o.mono ?_;rintro e C ⟨rfl,i⟩;have l:=Hd i;clear i)
 go_ret;exact⟨rfl,l⟩
def Wc{v:Value}{l:List Int}(H:BE B3 w v l)(p:Int->Bool)(g:Nat)(lb:Array Value)(R:∀args y,(callFunc g args).run Tryz.prog y=.ok (.enter g args) y)
  (o:∀x∈l,∀y,Below w w y->() g (#[B3 x]++lb) y (BB y (p x))) :
  () 177 #[v,.func (.func g) #[] lb] w (BB w (l.all p)):=by
 have I:=Hd (fun(a0:Obj)=>Ve (H.later ((Below.refl _ w).alloc (AF _) a0)) (fun x=>!p x) 198 #[(w,0)] (fun _ _=>by kernel_rfl));have P:Hid (∀t,∀x∈l,∀y,Below (w.alloc (.cells #[.func (.func g) #[] lb] t)).heap.size (w.alloc (.cells #[.func (.func g) #[] lb] t)) y->() 198 (#[B3 x]++#[.pointer (some ⟨w.heap.size,0,none⟩)]) y (BB y (!p x))):=Hd (by
  intro t x T y i;refine lg g lb R x (p x) w.heap.size y ?_ (fun z U=>o x T z ?_)
  ·exact(i.cell (p:=(w,0)) (by simp)).trans ((Ah.new w t _).cell 0)
  ·exact Fv (i.trans (U.mono i.size)))
 have J:=Hd (OC p l);clear H o;generalize l.all p=b at *;go_enter Tryz.func177,Tryz.ntmps177
 go_wp2_with fail
 refine(I _ (P _)).mono ?_;rintro e w' ⟨rfl,j⟩;have C:=Hd (Fv j);clear j;go_wp2;go_ret;exact⟨CI J,C⟩
def fP{v:Value}(H:Fi w v l)(p:Ru->Bool)(g:Nat)(lb:Array Value)(eg:∀args y,(callFunc g args).run Tryz.prog y=.ok (.enter g args) y)
  (hp:∀x∈l,∀y,Below w w y->() g (#[D0 x]++lb) y (BB y (p x))) :
  () 195 #[v,.func (.func g) #[] lb] w fun e w'=>e=.returned (.int .i64 (GY p l))/\Below w w w':=by
 obtain⟨⟨A,c,rfl,hc⟩,hs⟩:=H;have HC:=Hd hc;have HP:=Hd hp;clear hc hp;go_enter Tryz.func195,Tryz.ntmps195
 go_wp2;go_loopw [5,8] (fun _ i wr=>∃k:Nat,k<=l.length/\i=.int .i64 k/\Hid (∀j y,j<k->l[j]?=some y->p y=false)/\Hid (Below w w wr)) (fun _ i _=>l.length-(intOf i).toNat)
 case atStart=>exact⟨0,AX _,rfl,Hd (fun j y hj=>absurd hj (Nat.not_lt_zero _)),Hd (Below.refl _ w)⟩
 case round=>
  obtain⟨k,hk,rfl,P,o⟩:=hrel;by_cases a3:k<l.length
  ·have I:=eG a3
   generalize l[k]=x at I;have hm:=mG I;obtain⟨b,off,rfl,a1,a0,a2,_⟩:=HC k x I;have a4:=(o.cell (p:=(b,off+k*2)) a1).trans a0;have a5:=(o.cell (p:=(b,off+k*2+1)) a1).trans a2;have J:=Hd (HP x hm wr o);simp only[D0]at *;have U:=Hd I;clear I a0 hm;cases t:p x with
   | true=>
    rw[t]at J;have T:=Hd (NY U t P);clear t;go_wp2_with (go_at_fn g;refine J.mono ?_;rintro e w' ⟨rfl,C⟩;have R:=Hd (o.trans (C.mono o.size));clear C)
    go_ret;exact⟨by rw[T.out];rfl,R⟩
   | false=>
    rw[t]at J;have HN:=Hd (Ox U t P);clear t;go_wp2_with (go_at_fn g;refine J.mono ?_;rintro e w' ⟨rfl,C⟩;have R:=Hd (o.trans (C.mono o.size));clear C)
    go_roundw
    case rel=>exact⟨k+1,by omega,by go_num,HN,R⟩
    case measure=>simp[intOf];omega
  ·obtain rfl:k=l.length:=by omega
   have T:=Hd (Pc P);go_wp2;go_ret;exact⟨by rw[T.out];rfl,o⟩
def Qu{v:Value}(H:Fi w v l)(p:Ru->Bool)(g:Nat)(lb:Array Value)(I:∀args y,(callFunc g args).run Tryz.prog y=.ok (.enter g args) y)
  (j:∀x∈l,∀y,Below w w y->() g (#[D0 x]++lb) y (BB y (p x))) :
  () 172 #[v,.func (.func g) #[] lb] w (BB w (l.any p)):=by
 have C:=Hd (fP H p g lb I j);have t:=Hd (Oe p l);generalize l.any p=a at *;generalize GY p l=n at *;clear H j;go_enter Tryz.func172,Tryz.ntmps172
 go_wp2_with fail
 refine C.mono ?_;rintro e J ⟨rfl,i⟩;have o:=Hd i;clear i;go_wp2;go_ret;exact⟨CI (by rw[<-t.out]),o⟩
def dO(g:Nat)(lb:Array Value)(t:∀args y,(callFunc g args).run Tryz.prog y=.ok (.enter g args) y)(x:Ru)(b:Bool)(B:Nat)(w:World)(p:w.cell? (B,0)=some (.func (.func g) #[] lb))
  (j:∀y,Below w w y->() g (#[D0 x]++lb) y (BB y b)):() 173 #[D0 x,(B,0)] w (BB w (!b)):=by
 have o:=Hd j;clear j;have C:B<w.heap.size:=World.block_lt_of_cell? w _ p;simp only[D0]at *;go_enter Tryz.func173,Tryz.ntmps173
 go_wp2_with (go_at_fn g;refine(o _ ((Below.refl _ w).alloc (AF _) _)).mono ?_;rintro e I ⟨rfl,i⟩;have l:=Hd (Fv i);clear i)
 go_ret;exact⟨rfl,l⟩
def RY{v:Value}(H:Fi w v l)(p:Ru->Bool)(g:Nat)(lb:Array Value)(R:∀args y,(callFunc g args).run Tryz.prog y=.ok (.enter g args) y)
  (o:∀x∈l,∀y,Below w w y->() g (#[D0 x]++lb) y (BB y (p x))) :
  () 135 #[v,.func (.func g) #[] lb] w (BB w (l.all p)):=by
 have I:=Hd (fun(a0:Obj)=>Qu (H.later ((Below.refl _ w).alloc (AF _) a0)) (fun x=>!p x) 173 #[(w,0)] (fun _ _=>by kernel_rfl));have P:Hid (∀t,∀x∈l,∀y,Below (w.alloc (.cells #[.func (.func g) #[] lb] t)).heap.size (w.alloc (.cells #[.func (.func g) #[] lb] t)) y->() 173 (#[D0 x]++#[.pointer (some ⟨w.heap.size,0,none⟩)]) y (BB y (!p x))):=Hd (by
  intro t x T y i;refine dO g lb R x (p x) w.heap.size y ?_ (fun z U=>o x T z ?_)
  ·exact(i.cell (p:=(w,0)) (by simp)).trans ((Ah.new w t _).cell 0)
  ·exact Fv (i.trans (U.mono i.size)))
 have J:=Hd (OC p l);clear H o;generalize l.all p=b at *;go_enter Tryz.func135,Tryz.ntmps135
 go_wp2_with fail
 refine(I _ (P _)).mono ?_;rintro e w' ⟨rfl,j⟩;have C:=Hd (Fv j);clear j;go_wp2;go_ret;exact⟨CI J,C⟩
def Et.open_{v:Value}(h:Et w v g):∃l t i o j p,v=.agg #[.slice l g.T.length t,.slice i g.N.length o,.slice j g.R.length p,g.s] /\
  BE Cl w (.slice l g.T.length t) g.T/\BE Cl w (.slice i g.N.length o) g.N/\Fi w (.slice j g.R.length p) g.R:=by
 obtain⟨⟨vT,vN,vR,P,C,I,J⟩,hs⟩:=h;obtain⟨⟨l,t,rfl,U⟩,sT⟩:=id C;obtain⟨⟨i,o,rfl,R⟩,sN⟩:=id I;obtain⟨⟨j,p,rfl,T⟩,sR⟩:=id J;exact⟨l,t,i,o,j,p,P,C,I,J⟩
section
variable {w:World} {v:Value} {g:Gm}
def M3(h:Et w v g):() 103 #[v] w fun e w'=>e=.returned (.int .i64 ((g.T.length:Int)+(g.N.length:Int)))/\Below w w w':=by
 obtain⟨t,J,o,C,p,I,rfl,l,i,j⟩:=h.open_;have P:=h.small.2.2.1;have R:=h.small.2.2.2.1;clear h l i j;go_enter Tryz.func103,Tryz.ntmps103
 go_wp2;go_ret;exact⟨rfl,AG _ _⟩
def VR(h:Et w v g)(s:Int):() 179 #[v,s] w (BB w (g.term s)):=by
 obtain⟨t,J,o,C,p,I,rfl,l,i,j⟩:=h.open_;clear h l i j;unfold Gm.term;generalize g.T.length=n;generalize g.N.length=m;go_enter Tryz.func179,Tryz.ntmps179
 go_wp2;all_goals go_ret
 all_goals exact⟨CI (by rw[Bool.eq_iff_iff];simp[*]<;>omega),AG _ _⟩
def Mp(h:Et w v g)(s:Int):() 141 #[v,s] w (BB w (g.BV s)):=by
 have o:=Hd (fun y (I:Below w w y)=>M3 (h.later I));obtain⟨R,cT,J,T,P,U,rfl,C,p,t⟩:=h.open_;clear h C p t;unfold Gm.BV;generalize g.T.length=n at *;generalize g.N.length=m at *;generalize g.R.length=r at *;generalize g.s=gs at *;by_cases j:(n:Int)<s
 ·rw[decide_eq_true j,Bool.true_and]
  go_enter Tryz.func141,Tryz.ntmps141
  go_wp2_with (go_at_call 103;refine(o _ (AG _ _)).mono ?_;rintro e w' ⟨rfl,i⟩;have l:=Hd (Fv i);clear i)
  go_ret;exact⟨rfl,l⟩
 ·rw[decide_eq_false j,Bool.false_and]
  go_enter Tryz.func141,Tryz.ntmps141
  go_wp2;go_ret;exact⟨rfl,AG _ _⟩
end
structure Ew(y:World)(B:Nat)(v:Value):Prop where
 lt:B<y.heap.size
 cell:∀j,j<4->y.cell? ⟨B,j,none⟩=v.cells[j]?
variable{y:World}{B:Nat}{v:Value}
def Ew.later{l:World}(h:Ew y B v)(i:Below y y l):Ew l B v:=
 ⟨Ba h.lt i.size,fun j o=>(i.cell (p:=⟨B,j,none⟩) h.lt).trans (h.cell j o)⟩
def Ew.new(w:World)(t:TypeId)(v:Value):Ew (w.alloc (.cells v.cells t)) w.heap.size v:=⟨by simp,fun j _=>(Ah.new w t _).cell j⟩
def Ew.four{a b c d:Value}(h:Ew y B (.agg #[a,b,c,d])):y.cell? (B,0)=some a/\y.cell? (B,1)=some b/\y.cell? (B,2)=some c/\y.cell? (B,3)=some d:=
 ⟨h.cell 0 (by omega),h.cell 1 (by omega),h.cell 2 (by omega),h.cell 3 (by omega)⟩
def Vd(h:Et w v g)(s:Int)(t:Below w w y)(l:Ew y B v):() 178 #[s,(B,0)] y (BB y (g.sym s)):=by
 have R:=Hd (fun z (p:Below w w z)=>VR (h.later p) s);have P:=Hd (fun z (p:Below w w z)=>Mp (h.later p) s);obtain⟨AT,cT,AN,cN,AR,cR,rfl,hT,U,hR⟩:=h.open_;have o:=Hd t;have J:=Hd l;have a0:=l.lt;obtain⟨T,c1,c2,c3⟩:=l.four;clear h hT U hR t l;unfold Gm.sym;generalize g.term s=a at *;generalize g.BV s=b at *;go_enter Tryz.func178,Tryz.ntmps178
 go_wp2_with fail
 refine(R _ o).mono ?_;rintro e w1 ⟨rfl,j⟩;have i:=Hd j;cases a with
 | true=>clear j;go_wp2;go_ret;exact⟨rfl,i⟩
 | false=>
  obtain⟨d0,d1,d2,d3⟩:=(J.later j).four;clear j T c1 c2 c3;go_wp2_with fail
  refine(P _ (o.trans (i.mono o.size))).mono ?_;rintro e w2 ⟨rfl,C⟩;have I:=Hd (i.trans (C.mono i.size));clear C;go_wp2;go_ret;exact⟨rfl,I⟩
def aV{u:Value}(h:Et w v g)(p:Qp w u r):Calls Tryz.prog 143 #[v,u] w (BB w (g.Hh r)):=by
 have R:=Hd (fun z (j:Below w.heap.size w z)=>Mp (h.later j) r.left);have J:=Hd (Ew.new w 58 v);have C:Hid (∀z,Below w.heap.size w z->Ew z w.heap.size v->Calls Tryz.prog 177 #[r.v,.func (.func 178) #[] #[.pointer (some ⟨w.heap.size,0,none⟩)]] z (BB z (r.right.all g.sym))):=Hd (by intro z j a0;exact Wc (p.right.later j) g.sym 178 #[.pointer (some ⟨w.heap.size,0,none⟩)] (fun _ _=>by kernel_rfl) (fun x hx y t=>Vd h x (j.trans (t.mono j.size)) (a0.later t)))
 obtain⟨AT,cT,AN,cN,AR,cR,rfl,hT,T,U⟩:=h.open_;obtain⟨rfl,a1⟩:=p;unfold Gm.Hh D0;clear h hT T U a1;generalize r.right.all g.sym=b at *;generalize r.left=rl at *;generalize r.v=rv at *;generalize g.BV rl=a at *;go_enter Tryz.func143,Tryz.ntmps143
 go_wp2_with fail
 refine(R.out _ ((AG w _).trans ((AG _ _).mono (by simp)))).mono ?_;rintro e w1 ⟨rfl,i⟩;have l:=Hd ((AG w _).trans (((AG _ _).trans (i.mono (by simp))).mono (by simp)));cases a with
 | false=>clear i;go_wp2;go_ret;exact⟨rfl,l.out⟩
 | true=>
  have P:=Hd ((J.out.later (AG _ _)).later i);have e1:=(i.cell (p:=⟨w.heap.size+1,1,none⟩) (by simp)).trans (World.cell?_alloc_at _ _ _ _ (by simp));clear i;go_wp2_with fail
  refine(C.out _ l.out P.out).mono ?_;rintro e w2 ⟨rfl,o⟩;have I:=Hd (l.out.trans (o.mono l.out.size));clear o;go_wp2;go_ret;exact⟨rfl,I.out⟩
theorem Xc(s:ByteArray)(t:s.size<=4611686018427387904)(w:World):() 137 #[.string s] w (BB w (CN s.data.toList||CF s.data.toList)):=by
 have o:=Hd (Rs s (by omega) w);have p:=Hd (iH s t);generalize CN s.data.toList=a at *;generalize CF s.data.toList=b at *;go_enter Tryz.func137,Tryz.ntmps137
 go_wp2_with fail
 refine o.mono ?_;rintro e C ⟨rfl,i⟩;have j:=Hd i;clear i;cases a with
 | true=>go_wp2;go_ret;exact⟨rfl,j⟩
 | false=>
  go_wp2_with fail
  refine(p _).mono ?_;rintro e I ⟨rfl,i⟩;have l:=Hd (j.trans (i.mono j.size));clear i;go_wp2;go_ret;exact⟨rfl,l⟩
def dP(r:Ru)(w:World)(j:BE B3 w r.v r.right):() 134 #[D0 r] w (BB w (IL r)):=by
 obtain⟨⟨A,c,i,_⟩,l⟩:=j;unfold IL D0;rw[i];clear i;generalize r.right.length=n at *;generalize r.left=o at *;go_enter Tryz.func134,Tryz.ntmps134
 go_wp2;go_ret;exact⟨CI (by rw[decide_eq_decide];omega),AG _ _⟩
def Wn(h:Et w v g)(p:BE B3 w r.v r.right)(l:Below w w y)(i:Ew y B v):() 142 #[D0 r,(B,0)] y (BB y (g.Hh r)):=by
 have I:=Hd (fun z (t:Below w w z)=>aV (h.later t) (⟨rfl,p.later t⟩:Qp z (D0 r) r));obtain⟨AT,cT,T,cN,U,cR,rfl,R,J,P⟩:=h.open_;have j:=Hd l;have HG:=Hd i;have a0:=i.lt;obtain⟨c0,c1,c2,c3⟩:=i.four;clear h R J P l i p;unfold D0 at *;generalize g.Hh r=a at *;go_enter Tryz.func142,Tryz.ntmps142
 go_wp2_with fail
 refine(I _ (j.trans ((AG _ _).mono j.size))).mono ?_;rintro e w1 ⟨rfl,o⟩;have C:=Hd (Fv o);clear o;go_wp2;go_ret;exact⟨rfl,C⟩
def O6(h:Below B w w')(n:Nat):Below B w (w'.drewN n):=⟨h.os,h.tape,h.output,h.size,h.block⟩
def Lb(a b:List Int)(k:Nat):Prop:=∀j x y,j<k->a[j]?=some x->b[j]?=some y->x=y
def Lb.next{a b:List Int}{k:Nat}{x y:Int}(h:Lb a b k)(p:a[k]?=some x)(t:b[k]?=some y)(o:x=y):Lb a b (k+1):=by
 intro j C I J i l;by_cases e:j=k
 ·subst e
  rw[p]at i;rw[t]at l;cases i;cases l;exact o
 ·exact h j C I (by omega) i l
def Lb.all{a b:List Int}(l:a.length=b.length)(h:Lb a b a.length):(a==b)=true:=by
 rw[beq_iff_eq];apply List.ext_getElem?;intro j;by_cases i:j<a.length
 ·rw[eG i,eG (by omega)]
  rw[h j _ _ i (eG i) (eG (by omega))]
 ·rw[nG (by omega),nG (by omega)]
def Xh{a b:List Int}{x y:Int}(l:a[k]?=some x)(i:b[k]?=some y)(j:¬x=y):(a==b)=false:=by
 rw[bN];rintro rfl;rw[l]at i;cases i
 exact j rfl
def XQ{u:Value}{a b:List Int}(ha:BE B3 w u a)(j:BE B3 w v b):() 181 #[u,v] w (BB w (a==b)):=by
 obtain⟨⟨A,c,rfl,U⟩,ae⟩:=ha;obtain⟨⟨B,d,rfl,a0⟩,a7⟩:=j;have a3:=Hd U;have a4:=Hd a0;clear U a0;by_cases t:a.length=b.length
 ·rw[<-t]
  have J:=Hd t;clear t a7;go_enter Tryz.func181,Tryz.ntmps181
  go_wp2;go_loopw [5,13] (fun _ i wr=>∃k:Nat,k<=a.length/\i=.int .i64 k/\Hid (Lb a b k)/\Hid (∃q,wr=w.drewN q)) (fun _ i _=>a.length-(intOf i).toNat)
  case atStart=>exact⟨0,AX _,rfl,Hd (fun af x y hj=>absurd hj (Nat.not_lt_zero _)),Hd ⟨0,rfl⟩⟩
  case round=>
   obtain⟨k,hk,rfl,P,o⟩:=hrel;by_cases a6:k<a.length
   ·have C:=eG a6
    have I:=eG (show k<b.length by have:=J.out;omega);generalize a[k]=x at C;generalize b[k]'(by have:=J.out;omega)=y at I;obtain⟨b1,a8,rfl,ab,a1⟩:=a3 k x C;obtain⟨b2,a9,rfl,ad,a2⟩:=a4 k y I;have R:=Hd C;have T:=Hd I;have e1:wr.cell? (b1,a8+k)=some (.int .i64 x):=by obtain⟨q,rfl⟩:=o.out;exact a1
    have e2:wr.cell? (b2,a9+k)=some (.int .i64 y):=by obtain⟨q,rfl⟩:=o.out;exact a2
    clear C I a1 a2;by_cases l:x=y
    ·have p:=Hd (P.next R T l)
     have j:(x != y)=false:=by simp[l]
     clear l;go_wp2;go_quiet (fail)
     have a5:Hid (∃q,wr.drewN nq=w.drewN q):=Hd (by obtain⟨q,hq⟩:=o.out;exact⟨q+nq,by rw[hq,World.drewN_drewN]⟩)
     go_wp2;go_roundw
     case rel=>exact⟨k+1,by omega,by go_num,p,a5⟩
     case measure=>simp[intOf];omega
    ·have p:=Hd (Xh R T l)
     have j:(x != y)=true:=by simp[l]
     clear l;go_wp2;go_quiet (fail)
     go_wp2;go_ret;refine⟨CI p.symm,?_⟩;obtain⟨q,rfl⟩:=o.out;exact O6 (O6 (Below.refl _ w) _) _
   ·obtain rfl:k=a.length:=by omega
    have p:=Hd (P.all J);go_wp2;go_ret;refine⟨CI p.symm,?_⟩;obtain⟨q,rfl⟩:=o.out;exact O6 (Below.refl _ w) _
 ·have j:(a==b)=false:=by
   rw[bN];rintro rfl;exact t rfl
  rw[j];have aa:¬(a.length:Int)=(b.length:Int):=by omega
  clear t j;go_enter Tryz.func181,Tryz.ntmps181
  go_wp2;go_ret;exact⟨rfl,Below.refl _ w⟩
def LZ(h:Below B w w'):Below B w w'.drew:=⟨h.os,h.tape,h.output,h.size,h.block⟩
def aJ{a b:Ru}(ha:BE B3 w a.v a.right)(o:BE B3 w b.v b.right):() 145 #[D0 a,D0 b] w (BB w (Fz a b)):=by
 have I:=Hd (fun z (t:Below w w z)=>XQ (ha.later t) (o.later t));clear ha o;unfold Fz D0;generalize (a.right==b.right)=q at *;generalize a.v=J at *;generalize b.v=P at *;generalize a.left=i at *;generalize b.left=j at *;by_cases h:i=j
 ·have l:(i==j)=true:=by simp[h]
  rw[l,Bool.true_and];clear h;go_enter Tryz.func145,Tryz.ntmps145
  go_wp2_with fail
  refine(I _ ((AG w _).trans ((AG _ _).mono (by simp)))).mono ?_;rintro e R ⟨rfl,p⟩;have C:=Hd ((AG w _).trans (((AG _ _).trans (p.mono (by simp))).mono (by simp)));clear p;go_wp2;go_ret;exact⟨rfl,C⟩
 ·have l:(i==j)=false:=by simp[h]
  rw[l,Bool.false_and];clear h;go_enter Tryz.func145,Tryz.ntmps145
  go_wp2;go_ret;exact⟨rfl,((AG w _).trans ((AG _ _).mono (by simp)))⟩
def Y6{x:Ru}{l p o b off n c i:Nat}(hF:y.cell? (l,0)=some (.func (.func 145) #[] #[]))(J:y.cell? (p,0)=some (.slice (b,off) n c))(hI:y.cell? (o,0)=some (.int .i64 i))
  (hi:i<n) (I:y.cell? (b,off+i*2)=some (.int .i64 r.left)) (T:y.cell? (b,off+i*2+1)=some r.v) (hx:BE B3 y x.v x.right) (U:BE B3 y r.v r.right) :
  () 180 #[D0 x,(l,0),(p,0),(o,0)] y (BB y (Fz x r)):=by
 have HS:=Hd (fun z (hz:Below y y z)=>aJ (hx.later hz) (U.later hz));have lF:=World.block_lt_of_cell? y _ hF;have lL:=World.block_lt_of_cell? y _ J;have lI:=World.block_lt_of_cell? y _ hI;have lb:=World.block_lt_of_cell? y _ I;clear hx U;unfold D0 at *;generalize Fz x r=q at *;generalize x.left=t at *;generalize x.v=C at *;generalize r.left=rl at *;generalize r.v=rv at *;go_enter Tryz.func180,Tryz.ntmps180
 have R:Hid (∀j,Below (y.alloc (.cells #[t,C] 119)).heap.size (y.alloc (.cells #[t,C] 119)) j->j.cell? (l,0)=some (.func (.func 145) #[] #[])/\j.cell? (p,0)=some (.slice (b,off) n c)/\j.cell? (o,0)=some (.int .i64 i)/\j.cell? (b,off+i*2)=some (.int .i64 rl)/\j.cell? (b,off+i*2+1)=some rv/\j.cell? (y,0)=some (.int .i64 t)/\j.cell? (y,1)=some C):=Hd (fun j h=>by
  have h0:=Fv h;exact⟨(h0.cell (p:=(l,0)) lF).trans hF,(h0.cell (p:=(p,0)) lL).trans J,(h0.cell (p:=(o,0)) lI).trans hI,(h0.cell (p:=(b,off+i*2)) lb).trans I,(h0.cell (p:=(b,off+i*2+1)) lb).trans T,
   (h.cell (p:=(y,0)) (by simp)).trans ((Ah.new y _ _).cell 0),(h.cell (p:=(y,1)) (by simp)).trans ((Ah.new y _ _).cell 1)⟩)
 clear hF J hI I T;go_wp2_with fail
 go_region_held3 (fun j=>j.cell? (l,0)=some (.func (.func 145) #[] #[])/\j.cell? (p,0)=some (.slice (b,off) n c)/\j.cell? (o,0)=some (.int .i64 i)/\j.cell? (b,off+i*2)=some (.int .i64 rl)/\j.cell? (b,off+i*2+1)=some rv/\j.cell? (y,0)=some (.int .i64 t)/\j.cell? (y,1)=some C)
  (first|exact R _ HZ|exact R _ ⟨rfl,rfl,rfl,AF _,fun _ _=>rfl⟩)
  (first|(go_at_call 145;refine(HS _ (LZ (AG y _))).mono ?_;rintro e w2 ⟨rfl,P⟩;have a0:=Hd ((LZ (AG y _)).trans (P.mono (LZ (AG y _)).size));have HZ:=Hd ((LZ (Below.refl _ _)).trans (P.mono (AF _)));clear P))
 all_goals go_wp2
 all_goals go_ret
 all_goals exact⟨rfl,a0⟩
def Kd(l:List Ru)(k:Nat):Prop:=∀(i j:Nat) (x r:Ru),i<k->j<i->l[j]?=some x->l[i]?=some r->Fz x r=false
theorem Kd.next{l:List Ru}{k:Nat}{r:Ru}(h:Kd l k)(J:l[k]?=some r)(ha:((l.take k).any fun x=>Fz x r)=false):Kd l (k+1):=by
 intro i j x P R p t o;by_cases e:i=k
 ·subst e
  rw[J]at o;cases o
  have C:x∈l.take i:=mG (i:=j) (by rw[List.getElem?_take,if_pos p];exact t);cases I:Fz x r with
  | false=>rfl
  | true=>have:((l.take i).any fun x=>Fz x r)=true:=List.any_eq_true.2 ⟨x,C,I⟩;rw[ha]at this;cases this
 ·exact h i j x P (by omega) p t o
open Classical in
def Kd.all{l:List Ru}(h:Kd l l.length):decide (Un l)=true:=by rw[decide_eq_true_eq];intro i j x r p t o;exact h i j x r (sG.1 o).1 p t o
def Wg(I:l[k]?=some r)(ha:((l.take k).any fun x=>Fz x r)=true):¬Un l:=by
 intro h;obtain⟨x,t,C⟩:=List.any_eq_true.1 ha;obtain⟨j,o,i⟩:=List.mem_iff_getElem.1 t;have p:j<k:=by rw[List.length_take]at o;omega
 have:=h k j x r p (by rw[<-i,List.getElem_take];exact eG _) I;rw[C]at this;cases this
def UK(w:World)(i:Value)(y:World):Prop:=Below w w y/\w.heap.size+1<y.heap.size/\y.cell? (w,0)=some i/\y.cell? (w.heap.size+1,0)=some (.func (.func 145) #[] #[])
def UK.later{z:World}{j:Value}(h:UK w j y)(i:Below y y z):UK w j z:=
 ⟨h.1.trans (i.mono h.1.size),Ba h.2.1 i.size,(i.cell (p:=(w,0)) (by have:=h.2.1;show w.heap.size<_;omega)).trans h.2.2.1,(i.cell (p:=(w.heap.size+1,0)) h.2.1).trans h.2.2.2⟩
open Classical in
def Td{b:Bool}(h:decide (Un l)=b)(i:Below w w w'):BB w (decide (Un l)) (.returned (.bool b)) w':=⟨by rw[h],i⟩
open Classical in
def ZX(h:Fi w v l):() 144 #[v,.func (.func 145) #[] #[]] w (BB w (decide (Un l))):=by
 have hl:=h;obtain⟨⟨A,c,rfl,U⟩,hs,a0⟩:=hl;have a3:Hid (∀k r b off,l[k]?=some r->A=some ⟨b,off,none⟩->∀y,UK w (.slice A l.length c) y->() 172 #[.slice A k c,.func (.func 180) #[] #[(w.heap.size+1,0),(w,0),(y,0)]] (y.alloc (.cells #[.int .i64 k] 3)) (BB (y.alloc (.cells #[.int .i64 k] 3)) ((l.take k).any fun x=>Fz x r))):=Hd (by
  intro k r b off j P y hy;subst P;have hk:=(sG.1 j).1;have a1:=hy.later (AG y (.cells #[.int .i64 k] 3));refine Qu ((h.take k (by omega) c ⟨by have:=(a0 _ _ _ rfl).1;omega,fun e=>by cases e⟩).later a1.1) (fun x=>Fz x r) 180 _ (fun _ _=>by kernel_rfl) (fun x hx z hz=>?_);have p:=a1.later hz;obtain⟨b',a7,e,R,h1,h2,h3⟩:=U k r j;cases e
  refine Y6 (r:=r) (b:=b) (off:=off) (n:=l.length) (c:=c) (i:=k) p.2.2.2 p.2.2.1 ?_ hk ?_ ?_ ((h.mem (List.mem_of_mem_take hx)).later p.1) (h3.later p.1)
  ·exact(hz.cell (p:=(y,0)) (by simp)).trans ((Ah.new y _ _).cell 0)
  ·exact(p.1.cell (p:=⟨b,off+k*2,none⟩) R).trans h1
  ·exact(p.1.cell (p:=⟨b,off+k*2+1,none⟩) R).trans h2)
 have a2:=Hd U;have a4:=(a0 _ _ _ rfl).1;clear h U a0;go_enter Tryz.func144,Tryz.ntmps144
 go_wp2;go_loopw [8] (fun i wr=>∃k:Nat,k<=l.length/\i=.int .i64 k/\Hid (Kd l k)/\Hid (UK w (.slice A l.length c) wr)) (fun i _=>l.length-(intOf i).toNat)
 case atStart=>exact⟨0,AX _,rfl,Hd (fun i a6 x r hi=>absurd hi (Nat.not_lt_zero _)),Hd ⟨(AG w _).trans ((AG _ _).mono (by simp)),by simp,(World.cell?_alloc_lt _ _ (w,0) (by simp)).trans ((Ah.new w _ _).cell 0),by simp⟩⟩
 case round=>
  obtain⟨k,hk,rfl,HU,t⟩:=hrel;by_cases R:k<l.length
  ·have j:=eG R
   generalize l[k]=r at j;obtain⟨b,off,P,a5,_⟩:=a2 k r j;have J:=Hd (a3 k r b off j P wr t);have HR:=Hd j;obtain⟨c1,c2,c3,c4⟩:=t.out;have l1:w.heap.size<wr.heap.size:=by omega
   clear c1 j;subst P;cases o:(l.take k).any fun x=>Fz x r with
   | false=>
    rw[o]at J;have C:=Hd (HU.next HR o);clear o;go_wp2_with fail
    refine J.mono ?_;rintro e w1 ⟨rfl,I⟩;have T:=Hd ((t.later (AG wr _)).later I);clear I;go_wp2;go_roundw
    case rel=>exact⟨k+1,by omega,by go_num,C,T⟩
    case measure=>simp[intOf];omega
   | true=>
    rw[o]at J;have C:=Hd (Wg HR o);clear o;go_wp2_with fail
    refine J.mono ?_;rintro e w1 ⟨rfl,I⟩;have T:=Hd ((t.later (AG wr _)).later I);clear I;go_wp2;go_ret;exact Td (decide_eq_false C) T.1
  ·obtain rfl:k=l.length:=by omega
   have C:=Hd HU.all;go_wp2;go_ret;exact Td C t.1
def Tryz.Vl:(Tryz.prog.info? 3).map (fun i=>(i.zero,i.size,i.bytes))=some (some (.int .i64 0),1,8):=by kernel_rfl
def Mb:El Tryz.prog 43 3 1 8:=El.of Tryz.underlying43 Tryz.Vl rfl (by decide)
def AS{base:Nat}{e:TypeId}{size:Nat}(h:w.ownsRow base e size v k xs)(o:Below w w w'):w'.ownsRow base e size v k xs:=by
 refine⟨h.1,?_⟩;rcases h.2 with p|⟨g,cap,j,rfl,l,i,rest⟩
 ·exact .inl p
 ·exact .inr ⟨g,cap,j,rfl,l,by rw[o.block g (aG.1 i).1];exact i,rest⟩
def Dr(T:TypeId)(w:World)(xs:List Value)(o:Value)(wr:World):Prop:=∃A c,o=.slice A xs.length c/\wr.ownsRow w T 1 (.slice A xs.length c) xs.length xs/\Below w w wr
def Dr.nil(T:TypeId)(w:World):Dr T w [] (.slice none 0 0) w:=⟨none,0,rfl,⟨rfl,.inl ⟨rfl,rfl⟩⟩,Below.refl _ _⟩
def Nn{wr w2:World}{i:List Value}{A:Option Addr}{N c:Nat}(j:Below w w wr)(l:xs.length+i.length=N)(o:w2.ownsRow w T 1 (.slice A N c) N (xs++i))(p:AI w [T] wr w2):Dr T w (xs++i) (.slice A N c) w2:=by subst l;exact⟨A,c,by rw[B8],by rw[B8];exact o,j.trans (p.below j.size)⟩
def Dr.later{wr w2:World}(h:Dr T w xs o wr)(j:Below wr wr w2):Dr T w xs o w2:=by obtain⟨A,c,p,l,i⟩:=h;exact⟨A,c,p,AS l j,i.trans (j.mono i.size)⟩
def Dr.arr{C:Type}{E:C->Value}{wr:World}{l:List C}(h:Dr T w (l.map E) o wr)(J:l.length<=4611686018427387904):BE E wr o l:=by
 obtain⟨A,c,rfl,i,U⟩:=h;rw[lM]at i ⊢;refine⟨⟨A,c,rfl,fun k x j=>?_⟩,J,fun P n' R e=>?_⟩
 ·rcases Bi i with⟨e,h0⟩|⟨b,cap,e,I,t,p,_⟩
  ·have:=(sG.1 j).1
   omega
  ·cases e
   have hk:=(sG.1 j).1;refine⟨b,0,rfl,t,?_⟩;rw[Nat.zero_add,Bh i k (by omega),pG,j];rfl
 ·cases e
  rcases Bi i with⟨e,h0⟩|⟨b,cap,e,I,t,p,_⟩
  ·simp only[Value.slice.injEq]at e
   exact⟨by omega,fun _=>e.2.2⟩
  ·cases e
   exact⟨p,fun e=>by cases e⟩
def L9(T:TypeId)(u:Value)(i:u.oneCell'=true)(y:World):AY (y.alloc (.cells #[u] T)) (.slice (y,0) 1 1) 1 1 [u]:=
 AY.Ap (c:=1) (cs:=[u]) (Ah.new y T _) rfl (fun x j=>by rw[mS.1 j];exact i)
def iD(T:TypeId)(u:Value)(i:u.oneCell'=true)(y:World)(o:Obj):AY ((y.alloc o).alloc (.cells #[u] T)) (.slice (y.heap.size+1,0) 1 1) 1 1 [u]:=by have h:=L9 T u i (y.alloc o);rwa [show (y.alloc o).heap.size=y.heap.size+1 by simp]at h
def D8(l:List Ru)(s:Int)(k:Nat):List Int:=((List.range k).filter fun i=>(l[i]?.map (Gm.left s)).getD false).map Int.ofNat
def OJ(i:l[k]?=some r):D8 l s (k+1)=D8 l s k++(if r.left=s then[(k:Int)] else[]):=by
 unfold D8;rw[List.range_succ,List.filter_append,By];congr 1;by_cases h:r.left=s
 ·simp[List.filter,i,Gm.left,h]
 ·have j:(r.left==s)=false:=by simp[h]
  simp[List.filter,i,Gm.left,h,j]
def Sg(i:l[k]?=some r)(h:r.left=s):D8 l s (k+1)=D8 l s k++[(k:Int)]:=by rw[OJ i,if_pos h]
def PO(i:l[k]?=some r)(h:¬r.left=s):D8 l s (k+1)=D8 l s k:=by rw[OJ i,if_neg h,List.append_nil]
def V4(l:List Ru)(s:Int)(k:Nat):(D8 l s k).length<=k:=by unfold D8;rw[lM];have:=List.length_filter_le (fun i=>(l[i]?.map (Gm.left s)).getD false) (List.range k);rwa [List.length_range]at this
def XW(w:World)(v:Value)(xs:List Int)(e:Ending)(w':World):Prop:=∃o,e=.returned o/\Dr 3 (w.alloc (.cells v.cells 58)) (xs.map B3) o w'
def Tm(h:Et w v g)(s:Int):() 146 #[v,s] w (XW w v (D8 g.R s g.R.length)):=by
 have af:=h.small.2.2.2.2.1;have HG:=Hd (Ew.new w 58 v);obtain⟨AT,cT,AN,cN,AR,cR,rfl,hT,hN,hR⟩:=h.open_;obtain⟨⟨A,c,hv,hc⟩,hs,a9⟩:=hR;cases hv
 have a5:=Hd hc;have ab:=Mb;clear h hT hN a9 hc;generalize g.R=l at *;generalize g.T.length=nT at *;generalize g.N.length=nN at *;generalize g.s=gs at *;go_enter Tryz.func146,Tryz.ntmps146
 go_wp2;go_loopw [5,11] (fun aa a1 wr=>∃k:Nat,k<=l.length/\a1=.int .i64 k/\Dr 3 (w.alloc (.cells #[.slice AT nT cT,.slice AN nN cN,.slice AR l.length cR,gs] 58)) ((D8 l s k).map B3) aa wr) (fun _ a1 _=>l.length-(intOf a1).toNat)
 case atStart=>exact⟨0,AX _,rfl,Dr.nil _ _⟩
 case round=>
  obtain⟨k,hk,rfl,A,oc,rfl,ho,p⟩:=hrel;have P:=Hd ho;have o:=Hd p;have a4:=p.size;have ae:=V4 l s k;have ad:w.heap.size<wr.heap.size:=by simp at a4;omega
  by_cases a7:k<l.length
  ·have j:=eG a7
   generalize l[k]=r at j;obtain⟨b,off,hA,a2,h1,T,h3⟩:=a5 k r j;subst hA;obtain⟨⟨RA,rc,a3,_⟩,_⟩:=h3;rw[a3]at T;have U:Below w w wr:=(AG w _).trans (p.mono (by simp));have e1:=(U.cell (p:=(b,off+k*2)) a2).trans h1;have e2:=(U.cell (p:=(b,off+k*2+1)) a2).trans T;have R:=Hd (fun e=>Sg (s:=s) j e);have J:=Hd (fun e=>PO (s:=s) j e);clear h1 T j ho p U a3;generalize r.left=t at *;generalize r.right.length=rn at *;by_cases i:t=s
   ·have a8:(t==s)=true:=by simp[i]
    have R:=Hd (R i);have HS:=Hd (iD 3 k rfl);clear i;generalize a0:(D8 l s k).map B3=C at *;have ag:C.length<=1048576:=by rw[<-a0,lM];omega
    have a6:=Hd a0;clear a0;go_wp2_with (at_builtin;refine Dc Mb (.tmp 20) (.tmp 22) rfl rfl (base:=(w.alloc (.cells #[.slice AT nT cT,.slice AN nN cN,.slice (b,off) l.length cR,gs] 58)).heap.size) (n:=C.length) (m:=1) (N:=C.length+1) (xs:=C) (news:=[.int .i64 k]) rfl rfl ((P.alloc _).alloc _) (HS _ _) rfl (by unfold maxLen;omega) (by omega) (by simp at a4 ⊢;omega) ?_;intro A2 c2 w2 r1 r2 r3;have I:=Hd (Nn (o.trans (((AG _ _).trans ((AG _ _).mono (by simp))).mono o.size)) rfl r1 r2);clear r1 r2 r3)
    go_roundw
    case rel=>exact⟨k+1,by omega,by go_num,by rw[R.out,By,a6.out];exact I⟩
    case measure=>simp[intOf];omega
   ·have a8:(t==s)=false:=by simp[i]
    have J:=Hd (J i);have I:=Hd (Dr.later ⟨A,oc,rfl,P,o⟩ (AG _ (.cells #[t,.slice RA rn rc] 119)));clear i;go_wp2;go_roundw
    case rel=>exact⟨k+1,by omega,by go_num,by rw[J.out];exact I⟩
    case measure=>simp[intOf];omega
  ·obtain rfl:k=l.length:=by omega
   go_wp2;go_ret;exact⟨_,rfl,A,oc,rfl,P,o⟩
end Go.Proofs.YtlogpnoioimhjaaGreatDoor
