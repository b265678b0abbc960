/- . -/
import Derived.Test.YtiljpamcmmeflaaGreatDoorXab
import Derived.Shelf.Abstract
import Derived.Deep.RegionWith
import Derived.BigQuiet
import Derived.Deep.QuietTactic
import Derived.Deep.RegionHeld3
import Derived.Test.YtiljpamcmmeflaaGreatDoorXnm
set_option linter.all false
set_option maxRecDepth 100000
set_option maxHeartbeats 16000000
namespace Go.Proofs.YtiljpamcmmeflaaGreatDoor
open Go.RowKit
open Value renaming slice→nC,int→nE,pointer→nF
open Option renaming some→nJ,none→nK
open IntKind renaming i64→nM
open Obj renaming cells→nO
open Ending renaming returned→nP
open World renaming cell?→nQ
open Go renaming World→nS,Value→nU
variable{o:nU}{k:Nat}{w w':nS}{l:List Ru}{g:Gm}{r:Ru}{xs:List nU}{T:TypeId}{s:Int}
def OP{o:Type}{p:o->Bool}{l:List o}{x:o}(I:l[k]?=nJ x)(C:p x=false)(t:∀j y,j<k->l[j]?=nJ y->p y=false):∀j y,j<k+1->l[j]?=nJ y->p y=false:=by
 intro j y J i;by_cases e:j=k
 ·subst e
  rw[I]at i;cases i
  exact C
 ·exact t j y mR i
def V9{v:nU}{l:List ByteArray}(H:BD Cc w v l)(p:ByteArray->Bool)(g:Nat)(lb:Array nU)(eg:∀args y,(callFunc g args).run Tryz.prog y=.ok (.enter g args) y)
  (hp:∀x∈l,∀y,Below w w y->() g (#[Cc x]++lb) y (BF y (p x))) :
  () 176 #[v,.func (.func g) #[] lb] w fun e w'=>e=nP (nE nM (GM p l))/\Below w w w':=by
 obtain⟨⟨A,c,rfl,hc⟩,hs⟩:=H;have HC:=Hd hc;have HP:=Hd hp;clear hc hp;go_enter Tryz.func176,Tryz.ntmps176
 go_wp2;go_loopw [5,8] (fun _ i wr=>∃k:Nat,k<=l.length/\i=nE nM k/\Hid (∀j y,j<k->l[j]?=nJ y->p y=false)/\Hid (Below w w wr)) (fun _ i _=>l.length-(intOf i).toNat)
 case atStart=>exact⟨0,A0 _,rfl,Hd (fun j y hj=>absurd hj (Nat.not_lt_zero _)),Hd (Below.refl _ w)⟩
 case round=>
  obtain⟨k,hk,rfl,P,o⟩:=hrel;by_cases a1:k<l.length
  ·have I:=eG a1
   generalize l[k]=x at I;have hm:=mG I;obtain⟨b,off,rfl,a2,a0⟩:=HC k x I;have a3:=(o.cell (p:=(b,off+k)) a2).trans a0;have J:=Hd (HP x hm wr o);simp only[Cc]at *;have U:=Hd I;clear I a0 hm;cases t:p x with
   | true=>
    rw[t]at J;have T:=Hd (NW U t P);clear t;go_wp2_with (go_at_fn g;refine J.mono ?_;rintro e w' ⟨rfl,C⟩;have R:=Hd (o.trans (C.mono o.size));clear C)
    go_ret;exact⟨by rw[T.out];rfl,R⟩
   | false=>
    rw[t]at J;have HN:=Hd (OP U t P);clear t;go_wp2_with (go_at_fn g;refine J.mono ?_;rintro e w' ⟨rfl,C⟩;have R:=Hd (o.trans (C.mono o.size));clear C)
    go_roundw
    case rel=>exact⟨k+1,mR,mY,HN,R⟩
    case measure=>simp[intOf];omega
  ·obtain rfl:k=l.length:=by omega
   have T:=Hd (NM P);go_wp2;go_ret;exact⟨by rw[T.out];rfl,o⟩
def dR{v:nU}{l:List ByteArray}(H:BD Cc w v l)(p:ByteArray->Bool)(g:Nat)(lb:Array nU)(I:∀args y,(callFunc g args).run Tryz.prog y=.ok (.enter g args) y)
  (j:∀x∈l,∀y,Below w w y->() g (#[Cc x]++lb) y (BF y (p x))) :
  () 134 #[v,.func (.func g) #[] lb] w (BF w (l.any p)):=by
 have C:=Hd (V9 H p g lb I j);have t:=Hd (Oi p l);generalize l.any p=a at *;generalize GM p l=n at *;clear H j;go_enter Tryz.func134,Tryz.ntmps134
 go_wp2_with fail
 refine C.mono ?_;rintro e J ⟨rfl,i⟩;have o:=Hd i;clear i;go_wp2;go_ret;exact⟨C9 (by rw[<-t.out]),o⟩
def jV(g:Nat)(lb:Array nU)(p:∀args y,(callFunc g args).run Tryz.prog y=.ok (.enter g args) y)(x:ByteArray)(b:Bool)(B:Nat)(w:nS)(t:nQ w (B,0)=nJ (.func (.func g) #[] lb))
  (j:∀y,Below w w y->() g (#[Cc x]++lb) y (BF y b)):() 135 #[Cc x,(B,0)] w (BF w (!b)):=by
 have o:=Hd (j w (Below.refl _ w));clear j;simp only[Cc]at *;go_enter Tryz.func135,Tryz.ntmps135
 go_wp2_with (go_at_fn g;refine o.mono ?_;rintro e C ⟨rfl,i⟩;have l:=Hd i;clear i)
 go_ret;exact⟨rfl,l⟩
def QW{v:nU}{l:List ByteArray}(H:BD Cc w v l)(p:ByteArray->Bool)(g:Nat)(lb:Array nU)(R:∀args y,(callFunc g args).run Tryz.prog y=.ok (.enter g args) y)
  (o:∀x∈l,∀y,Below w w y->() g (#[Cc x]++lb) y (BF y (p x))) :
  () 97 #[v,.func (.func g) #[] lb] w (BF w (l.all p)):=by
 have I:=Hd (fun(a0:Obj)=>dR (H.later ((Below.refl _ w).alloc (AF _) a0)) (fun x=>!p x) 135 #[(w,0)] (fun _ _=>by kernel_rfl));have P:Hid (∀t,∀x∈l,∀y,Below (w.alloc (nO #[.func (.func g) #[] lb] t)).heap.size (w.alloc (nO #[.func (.func g) #[] lb] t)) y->() 135 (#[Cc x]++#[nF (nJ ⟨w.heap.size,0,nK⟩)]) y (BF y (!p x))):=Hd (by
  intro t x T y i;refine jV g lb R x (p x) w.heap.size y ?_ (fun z U=>o x T z ?_)
  ·exact(i.cell (p:=(w,0)) mV).trans ((Ah.new w t _).cell 0)
  ·exact Et (i.trans (U.mono i.size)))
 have J:=Hd (NF p l);clear H o;generalize l.all p=b at *;go_enter Tryz.func97,Tryz.ntmps97
 go_wp2_with fail
 refine(I _ (P _)).mono ?_;rintro e w' ⟨rfl,j⟩;have C:=Hd (Et j);clear j;go_wp2;go_ret;exact⟨C9 J,C⟩
def dY{v:nU}{l:List Int}(H:BD BZ w v l)(p:Int->Bool)(g:Nat)(lb:Array nU)(eg:∀args y,(callFunc g args).run Tryz.prog y=.ok (.enter g args) y)
  (hp:∀x∈l,∀y,Below w w y->() g (#[BZ x]++lb) y (BF y (p x))) :
  () 205 #[v,.func (.func g) #[] lb] w fun e w'=>e=nP (nE nM (GM p l))/\Below w w w':=by
 obtain⟨⟨A,c,rfl,hc⟩,hs⟩:=H;have HC:=Hd hc;have HP:=Hd hp;clear hc hp;go_enter Tryz.func205,Tryz.ntmps205
 go_wp2;go_loopw [5,8] (fun _ i wr=>∃k:Nat,k<=l.length/\i=nE nM k/\Hid (∀j y,j<k->l[j]?=nJ y->p y=false)/\Hid (Below w w wr)) (fun _ i _=>l.length-(intOf i).toNat)
 case atStart=>exact⟨0,A0 _,rfl,Hd (fun j y hj=>absurd hj (Nat.not_lt_zero _)),Hd (Below.refl _ w)⟩
 case round=>
  obtain⟨k,hk,rfl,P,o⟩:=hrel;by_cases a1:k<l.length
  ·have I:=eG a1
   generalize l[k]=x at I;have hm:=mG I;obtain⟨b,off,rfl,a2,a0⟩:=HC k x I;have a3:=(o.cell (p:=(b,off+k)) a2).trans a0;have J:=Hd (HP x hm wr o);simp only[BZ]at *;have U:=Hd I;clear I a0 hm;cases t:p x with
   | true=>
    rw[t]at J;have T:=Hd (NW U t P);clear t;go_wp2_with (go_at_fn g;refine J.mono ?_;rintro e w' ⟨rfl,C⟩;have R:=Hd (o.trans (C.mono o.size));clear C)
    go_ret;exact⟨by rw[T.out];rfl,R⟩
   | false=>
    rw[t]at J;have HN:=Hd (OP U t P);clear t;go_wp2_with (go_at_fn g;refine J.mono ?_;rintro e w' ⟨rfl,C⟩;have R:=Hd (o.trans (C.mono o.size));clear C)
    go_roundw
    case rel=>exact⟨k+1,mR,mY,HN,R⟩
    case measure=>simp[intOf];omega
  ·obtain rfl:k=l.length:=by omega
   have T:=Hd (NM P);go_wp2;go_ret;exact⟨by rw[T.out];rfl,o⟩
def WM{v:nU}{l:List Int}(H:BD BZ w v l)(p:Int->Bool)(g:Nat)(lb:Array nU)(I:∀args y,(callFunc g args).run Tryz.prog y=.ok (.enter g args) y)
  (j:∀x∈l,∀y,Below w w y->() g (#[BZ x]++lb) y (BF y (p x))) :
  () 179 #[v,.func (.func g) #[] lb] w (BF w (l.any p)):=by
 have C:=Hd (dY H p g lb I j);have t:=Hd (Oi p l);generalize l.any p=a at *;generalize GM p l=n at *;clear H j;go_enter Tryz.func179,Tryz.ntmps179
 go_wp2_with fail
 refine C.mono ?_;rintro e J ⟨rfl,i⟩;have o:=Hd i;clear i;go_wp2;go_ret;exact⟨C9 (by rw[<-t.out]),o⟩
def ZB(g:Nat)(lb:Array nU)(p:∀args y,(callFunc g args).run Tryz.prog y=.ok (.enter g args) y)(x:Int)(b:Bool)(B:Nat)(w:nS)(t:nQ w (B,0)=nJ (.func (.func g) #[] lb))
  (j:∀y,Below w w y->() g (#[BZ x]++lb) y (BF y b)):() 180 #[BZ x,(B,0)] w (BF w (!b)):=by
 have o:=Hd (j w (Below.refl _ w));clear j;simp only[BZ]at *;go_enter Tryz.func180,Tryz.ntmps180
 go_wp2_with (go_at_fn g;refine o.mono ?_;rintro e C ⟨rfl,i⟩;have l:=Hd i;clear i)
 go_ret;exact⟨rfl,l⟩
def XT{v:nU}{l:List Int}(H:BD BZ w v l)(p:Int->Bool)(g:Nat)(lb:Array nU)(R:∀args y,(callFunc g args).run Tryz.prog y=.ok (.enter g args) y)
  (o:∀x∈l,∀y,Below w w y->() g (#[BZ x]++lb) y (BF y (p x))) :
  () 138 #[v,.func (.func g) #[] lb] w (BF w (l.all p)):=by
 have I:=Hd (fun(a0:Obj)=>WM (H.later ((Below.refl _ w).alloc (AF _) a0)) (fun x=>!p x) 180 #[(w,0)] (fun _ _=>by kernel_rfl));have P:Hid (∀t,∀x∈l,∀y,Below (w.alloc (nO #[.func (.func g) #[] lb] t)).heap.size (w.alloc (nO #[.func (.func g) #[] lb] t)) y->() 180 (#[BZ x]++#[nF (nJ ⟨w.heap.size,0,nK⟩)]) y (BF y (!p x))):=Hd (by
  intro t x T y i;refine ZB g lb R x (p x) w.heap.size y ?_ (fun z U=>o x T z ?_)
  ·exact(i.cell (p:=(w,0)) mV).trans ((Ah.new w t _).cell 0)
  ·exact Et (i.trans (U.mono i.size)))
 have J:=Hd (NF p l);clear H o;generalize l.all p=b at *;go_enter Tryz.func138,Tryz.ntmps138
 go_wp2_with fail
 refine(I _ (P _)).mono ?_;rintro e w' ⟨rfl,j⟩;have C:=Hd (Et j);clear j;go_wp2;go_ret;exact⟨C9 J,C⟩
def l5{v:nU}(H:E4 w v l)(p:Ru->Bool)(g:Nat)(lb:Array nU)(eg:∀args y,(callFunc g args).run Tryz.prog y=.ok (.enter g args) y)
  (hp:∀x∈l,∀y,Below w w y->() g (#[DR x]++lb) y (BF y (p x))) :
  () 175 #[v,.func (.func g) #[] lb] w fun e w'=>e=nP (nE nM (GM p l))/\Below w w w':=by
 obtain⟨⟨A,c,rfl,hc⟩,hs⟩:=H;have HC:=Hd hc;have HP:=Hd hp;clear hc hp;go_enter Tryz.func175,Tryz.ntmps175
 go_wp2;go_loopw [5,8] (fun _ i wr=>∃k:Nat,k<=l.length/\i=nE nM k/\Hid (∀j y,j<k->l[j]?=nJ y->p y=false)/\Hid (Below w w wr)) (fun _ i _=>l.length-(intOf i).toNat)
 case atStart=>exact⟨0,A0 _,rfl,Hd (fun j y hj=>absurd hj (Nat.not_lt_zero _)),Hd (Below.refl _ w)⟩
 case round=>
  obtain⟨k,hk,rfl,P,o⟩:=hrel;by_cases a3:k<l.length
  ·have I:=eG a3
   generalize l[k]=x at I;have hm:=mG I;obtain⟨b,off,rfl,a1,a0,a2,_⟩:=HC k x I;have a4:=(o.cell (p:=(b,off+k*2)) a1).trans a0;have a5:=(o.cell (p:=(b,off+k*2+1)) a1).trans a2;have J:=Hd (HP x hm wr o);simp only[DR]at *;have U:=Hd I;clear I a0 hm;cases t:p x with
   | true=>
    rw[t]at J;have T:=Hd (NW U t P);clear t;go_wp2_with (go_at_fn g;refine J.mono ?_;rintro e w' ⟨rfl,C⟩;have R:=Hd (o.trans (C.mono o.size));clear C)
    go_ret;exact⟨by rw[T.out];rfl,R⟩
   | false=>
    rw[t]at J;have HN:=Hd (OP U t P);clear t;go_wp2_with (go_at_fn g;refine J.mono ?_;rintro e w' ⟨rfl,C⟩;have R:=Hd (o.trans (C.mono o.size));clear C)
    go_roundw
    case rel=>exact⟨k+1,mR,mY,HN,R⟩
    case measure=>simp[intOf];omega
  ·obtain rfl:k=l.length:=by omega
   have T:=Hd (NM P);go_wp2;go_ret;exact⟨by rw[T.out];rfl,o⟩
def UZ{v:nU}(H:E4 w v l)(p:Ru->Bool)(g:Nat)(lb:Array nU)(I:∀args y,(callFunc g args).run Tryz.prog y=.ok (.enter g args) y)
  (j:∀x∈l,∀y,Below w w y->() g (#[DR x]++lb) y (BF y (p x))) :
  () 132 #[v,.func (.func g) #[] lb] w (BF w (l.any p)):=by
 have C:=Hd (l5 H p g lb I j);have t:=Hd (Oi p l);generalize l.any p=a at *;generalize GM p l=n at *;clear H j;go_enter Tryz.func132,Tryz.ntmps132
 go_wp2_with fail
 refine C.mono ?_;rintro e J ⟨rfl,i⟩;have o:=Hd i;clear i;go_wp2;go_ret;exact⟨C9 (by rw[<-t.out]),o⟩
def V6(g:Nat)(lb:Array nU)(t:∀args y,(callFunc g args).run Tryz.prog y=.ok (.enter g args) y)(x:Ru)(b:Bool)(B:Nat)(w:nS)(p:nQ w (B,0)=nJ (.func (.func g) #[] lb))
  (j:∀y,Below w w y->() g (#[DR x]++lb) y (BF y b)):() 133 #[DR x,(B,0)] w (BF w (!b)):=by
 have o:=Hd j;clear j;have C:B<w.heap.size:=World.block_lt_of_cell? w _ p;simp only[DR]at *;go_enter Tryz.func133,Tryz.ntmps133
 go_wp2_with (go_at_fn g;refine(o _ ((Below.refl _ w).alloc (AF _) _)).mono ?_;rintro e I ⟨rfl,i⟩;have l:=Hd (Et i);clear i)
 go_ret;exact⟨rfl,l⟩
def Qt{v:nU}(H:E4 w v l)(p:Ru->Bool)(g:Nat)(lb:Array nU)(R:∀args y,(callFunc g args).run Tryz.prog y=.ok (.enter g args) y)
  (o:∀x∈l,∀y,Below w w y->() g (#[DR x]++lb) y (BF y (p x))) :
  () 96 #[v,.func (.func g) #[] lb] w (BF w (l.all p)):=by
 have I:=Hd (fun(a0:Obj)=>UZ (H.later ((Below.refl _ w).alloc (AF _) a0)) (fun x=>!p x) 133 #[(w,0)] (fun _ _=>by kernel_rfl));have P:Hid (∀t,∀x∈l,∀y,Below (w.alloc (nO #[.func (.func g) #[] lb] t)).heap.size (w.alloc (nO #[.func (.func g) #[] lb] t)) y->() 133 (#[DR x]++#[nF (nJ ⟨w.heap.size,0,nK⟩)]) y (BF y (!p x))):=Hd (by
  intro t x T y i;refine V6 g lb R x (p x) w.heap.size y ?_ (fun z U=>o x T z ?_)
  ·exact(i.cell (p:=(w,0)) mV).trans ((Ah.new w t _).cell 0)
  ·exact Et (i.trans (U.mono i.size)))
 have J:=Hd (NF p l);clear H o;generalize l.all p=b at *;go_enter Tryz.func96,Tryz.ntmps96
 go_wp2_with fail
 refine(I _ (P _)).mono ?_;rintro e w' ⟨rfl,j⟩;have C:=Hd (Et j);clear j;go_wp2;go_ret;exact⟨C9 J,C⟩
def Ei.open_{v:nU}(h:Ei w v g):∃l t i o j p,v=.agg #[nC l g.T.length t,nC i g.N.length o,nC j g.R.length p,g.s] /\
  BD Cc w (nC l g.T.length t) g.T/\BD Cc w (nC i g.N.length o) g.N/\E4 w (nC j g.R.length p) g.R:=by
 obtain⟨⟨vT,vN,vR,P,C,I,J⟩,hs⟩:=h;obtain⟨⟨l,t,rfl,U⟩,sT⟩:=id C;obtain⟨⟨i,o,rfl,R⟩,sN⟩:=id I;obtain⟨⟨j,p,rfl,T⟩,sR⟩:=id J;exact⟨l,t,i,o,j,p,P,C,I,J⟩
section
variable {w:nS} {v:nU} {g:Gm}
def LO(h:Ei w v g):() 22 #[v] w fun e w'=>e=nP (nE nM ((g.T.length:Int)+(g.N.length:Int)))/\Below w w w':=by
 obtain⟨t,J,o,C,p,I,rfl,l,i,j⟩:=h.open_;have P:=h.small.2.2.1;have R:=h.small.2.2.2.1;clear h l i j;go_enter Tryz.func22,Tryz.ntmps22
 go_wp2;go_ret;exact⟨rfl,AE _ _⟩
def Pc(h:Ei w v g)(s:Int):() 51 #[v,s] w (BF w (g.term s)):=by
 obtain⟨t,J,o,C,p,I,rfl,l,i,j⟩:=h.open_;clear h l i j;unfold Gm.term;generalize g.T.length=n;generalize g.N.length=m;go_enter Tryz.func51,Tryz.ntmps51
 go_wp2;all_goals go_ret
 all_goals exact⟨C9 (by rw[Bool.eq_iff_iff];simp[*]<;>omega),AE _ _⟩
def Lu(h:Ei w v g)(s:Int):() 52 #[v,s] w (BF w (g.BK s)):=by
 have o:=Hd (fun y (I:Below w w y)=>LO (h.later I));obtain⟨R,cT,J,T,P,U,rfl,C,p,t⟩:=h.open_;clear h C p t;unfold Gm.BK;generalize g.T.length=n at *;generalize g.N.length=m at *;generalize g.R.length=r at *;generalize g.s=gs at *;by_cases j:(n:Int)<s
 ·rw[decide_eq_true j,Bool.true_and]
  go_enter Tryz.func52,Tryz.ntmps52
  go_wp2_with (go_at_call 22;refine(o _ (AE _ _)).mono ?_;rintro e w' ⟨rfl,i⟩;have l:=Hd (Et i);clear i)
  go_ret;exact⟨rfl,l⟩
 ·rw[decide_eq_false j,Bool.false_and]
  go_enter Tryz.func52,Tryz.ntmps52
  go_wp2;go_ret;exact⟨rfl,AE _ _⟩
end
structure Ek(y:nS)(B:Nat)(v:nU):Prop where
 lt:B<y.heap.size
 cell:∀j,j<4->nQ y ⟨B,j,nK⟩=v.cells[j]?
variable{y:nS}{B:Nat}{v:nU}
def Ek.later{l:nS}(h:Ek y B v)(i:Below y y l):Ek l B v:=
 ⟨AK h.lt i.size,fun j o=>(i.cell (p:=⟨B,j,nK⟩) h.lt).trans (h.cell j o)⟩
def Ek.new(w:nS)(t:TypeId)(v:nU):Ek (w.alloc (nO v.cells t)) w.heap.size v:=⟨mV,fun j _=>(Ah.new w t _).cell j⟩
def Ek.four{a b c d:nU}(h:Ek y B (.agg #[a,b,c,d])):nQ y (B,0)=nJ a/\nQ y (B,1)=nJ b/\nQ y (B,2)=nJ c/\nQ y (B,3)=nJ d:=
 ⟨h.cell 0 mR,h.cell 1 mR,h.cell 2 mR,h.cell 3 mR⟩
def XY(h:Ei w v g)(s:Int)(t:Below w w y)(l:Ek y B v):() 139 #[s,(B,0)] y (BF y (g.sym s)):=by
 have R:=Hd (fun z (p:Below w w z)=>Pc (h.later p) s);have P:=Hd (fun z (p:Below w w z)=>Lu (h.later p) s);obtain⟨AT,cT,AN,cN,AR,cR,rfl,hT,U,hR⟩:=h.open_;have o:=Hd t;have J:=Hd l;have a0:=l.lt;obtain⟨T,c1,c2,c3⟩:=l.four;clear h hT U hR t l;unfold Gm.sym;generalize g.term s=a at *;generalize g.BK s=b at *;go_enter Tryz.func139,Tryz.ntmps139
 go_wp2_with fail
 refine(R _ o).mono ?_;rintro e w1 ⟨rfl,j⟩;have i:=Hd j;cases a with
 | true=>clear j;go_wp2;go_ret;exact⟨rfl,i⟩
 | false=>
  obtain⟨d0,d1,d2,d3⟩:=(J.later j).four;clear j T c1 c2 c3;go_wp2_with fail
  refine(P _ (o.trans (i.mono o.size))).mono ?_;rintro e w2 ⟨rfl,C⟩;have I:=Hd (i.trans (C.mono i.size));clear C;go_wp2;go_ret;exact⟨rfl,I⟩
def iO{u:nU}(h:Ei w v g)(p:TU w u r):Calls Tryz.prog 103 #[v,u] w (BF w (g.Hg r)):=by
 have R:=Hd (fun z (j:Below w.heap.size w z)=>Lu (h.later j) r.left);have J:=Hd (Ek.new w 58 v);have C:Hid (∀z,Below w.heap.size w z->Ek z w.heap.size v->Calls Tryz.prog 138 #[r.v,.func (.func 139) #[] #[nF (nJ ⟨w.heap.size,0,nK⟩)]] z (BF z (r.right.all g.sym))):=Hd (by intro z j a0;exact XT (p.right.later j) g.sym 139 #[nF (nJ ⟨w.heap.size,0,nK⟩)] (fun _ _=>by kernel_rfl) (fun x hx y t=>XY h x (j.trans (t.mono j.size)) (a0.later t)))
 obtain⟨AT,cT,AN,cN,AR,cR,rfl,hT,T,U⟩:=h.open_;obtain⟨rfl,a1⟩:=p;unfold Gm.Hg DR;clear h hT T U a1;generalize r.right.all g.sym=b at *;generalize r.left=rl at *;generalize r.v=rv at *;generalize g.BK rl=a at *;go_enter Tryz.func103,Tryz.ntmps103
 go_wp2_with fail
 refine(R.out _ ((AE w _).trans ((AE _ _).mono mV))).mono ?_;rintro e w1 ⟨rfl,i⟩;have l:=Hd ((AE w _).trans (((AE _ _).trans (i.mono mV)).mono mV));cases a with
 | false=>clear i;go_wp2;go_ret;exact⟨rfl,l.out⟩
 | true=>
  have P:=Hd ((J.out.later (AE _ _)).later i);have e1:=(i.cell (p:=⟨w.heap.size+1,1,nK⟩) mV).trans (World.cell?_alloc_at _ _ _ _ mV);clear i;go_wp2_with fail
  refine(C.out _ l.out P.out).mono ?_;rintro e w2 ⟨rfl,o⟩;have I:=Hd (l.out.trans (o.mono l.out.size));clear o;go_wp2;go_ret;exact⟨rfl,I.out⟩
theorem Yy(s:ByteArray)(t:s.size<=4611686018427387904)(w:nS):() 98 #[.string s] w (BF w (CQ s.data.toList||CG s.data.toList)):=by
 have o:=Hd (Rf s mR w);have p:=Hd (XH s t);generalize CQ s.data.toList=a at *;generalize CG s.data.toList=b at *;go_enter Tryz.func98,Tryz.ntmps98
 go_wp2_with fail
 refine o.mono ?_;rintro e C ⟨rfl,i⟩;have j:=Hd i;clear i;cases a with
 | true=>go_wp2;go_ret;exact⟨rfl,j⟩
 | false=>
  go_wp2_with fail
  refine(p _).mono ?_;rintro e I ⟨rfl,i⟩;have l:=Hd (j.trans (i.mono j.size));clear i;go_wp2;go_ret;exact⟨rfl,l⟩
def WQ(r:Ru)(w:nS)(j:BD BZ w r.v r.right):() 95 #[DR r] w (BF w (Iu r)):=by
 obtain⟨⟨A,c,i,_⟩,l⟩:=j;unfold Iu DR;rw[i];clear i;generalize r.right.length=n at *;generalize r.left=o at *;go_enter Tryz.func95,Tryz.ntmps95
 go_wp2;go_ret;exact⟨C9 (by rw[decide_eq_decide];omega),AE _ _⟩
def cX(h:Ei w v g)(p:BD BZ w r.v r.right)(l:Below w w y)(i:Ek y B v):() 102 #[DR r,(B,0)] y (BF y (g.Hg r)):=by
 have I:=Hd (fun z (t:Below w w z)=>iO (h.later t) (⟨rfl,p.later t⟩:TU z (DR r) r));obtain⟨AT,cT,T,cN,U,cR,rfl,R,J,P⟩:=h.open_;have j:=Hd l;have HG:=Hd i;have a0:=i.lt;obtain⟨c0,c1,c2,c3⟩:=i.four;clear h R J P l i p;unfold DR at *;generalize g.Hg r=a at *;go_enter Tryz.func102,Tryz.ntmps102
 go_wp2_with fail
 refine(I _ (j.trans ((AE _ _).mono j.size))).mono ?_;rintro e w1 ⟨rfl,o⟩;have C:=Hd (Et o);clear o;go_wp2;go_ret;exact⟨rfl,C⟩
def PA(h:Below B w w')(n:Nat):Below B w (w'.drewN n):=⟨h.os,h.tape,h.output,h.size,h.block⟩
def KY(a b:List Int)(k:Nat):Prop:=∀j x y,j<k->a[j]?=nJ x->b[j]?=nJ y->x=y
def KY.next{a b:List Int}{k:Nat}{x y:Int}(h:KY a b k)(p:a[k]?=nJ x)(t:b[k]?=nJ y)(o:x=y):KY a b (k+1):=by
 intro j C I J i l;by_cases e:j=k
 ·subst e
  rw[p]at i;rw[t]at l;cases i;cases l;exact o
 ·exact h j C I mR i l
def KY.all{a b:List Int}(l:a.length=b.length)(h:KY a b a.length):(a==b)=true:=by
 rw[beq_iff_eq];apply List.ext_getElem?;intro j;by_cases i:j<a.length
 ·rw[eG i,eG mR]
  rw[h j _ _ i (eG i) (eG mR)]
 ·rw[nG mR,nG mR]
def XG{a b:List Int}{x y:Int}(l:a[k]?=nJ x)(i:b[k]?=nJ y)(j:¬x=y):(a==b)=false:=by
 rw[bN];rintro rfl;rw[l]at i;cases i
 exact j rfl
def WB{u:nU}{a b:List Int}(ha:BD BZ w u a)(j:BD BZ w v b):() 141 #[u,v] w (BF w (a==b)):=by
 obtain⟨⟨A,c,rfl,U⟩,ae⟩:=ha;obtain⟨⟨B,d,rfl,a0⟩,a7⟩:=j;have a3:=Hd U;have a4:=Hd a0;clear U a0;by_cases t:a.length=b.length
 ·rw[<-t]
  have J:=Hd t;clear t a7;go_enter Tryz.func141,Tryz.ntmps141
  go_wp2;go_loopw [5,13] (fun _ i wr=>∃k:Nat,k<=a.length/\i=nE nM k/\Hid (KY a b k)/\Hid (∃q,wr=w.drewN q)) (fun _ i _=>a.length-(intOf i).toNat)
  case atStart=>exact⟨0,A0 _,rfl,Hd (fun af x y hj=>absurd hj (Nat.not_lt_zero _)),Hd ⟨0,rfl⟩⟩
  case round=>
   obtain⟨k,hk,rfl,P,o⟩:=hrel;by_cases a6:k<a.length
   ·have C:=eG a6
    have I:=eG (show k<b.length by have:=J.out;omega);generalize a[k]=x at C;generalize b[k]'(by have:=J.out;omega)=y at I;obtain⟨b1,a8,rfl,ab,a1⟩:=a3 k x C;obtain⟨b2,a9,rfl,ad,a2⟩:=a4 k y I;have R:=Hd C;have T:=Hd I;have e1:nQ wr (b1,a8+k)=nJ (nE nM x):=by obtain⟨q,rfl⟩:=o.out;exact a1
    have e2:nQ wr (b2,a9+k)=nJ (nE nM y):=by obtain⟨q,rfl⟩:=o.out;exact a2
    clear C I a1 a2;by_cases l:x=y
    ·have p:=Hd (P.next R T l)
     have j:(x != y)=false:=by simp[l]
     clear l;go_wp2;go_quiet (fail)
     have a5:Hid (∃q,wr.drewN nq=w.drewN q):=Hd (by obtain⟨q,hq⟩:=o.out;exact⟨q+nq,by rw[hq,World.drewN_drewN]⟩)
     go_wp2;go_roundw
     case rel=>exact⟨k+1,mR,mY,p,a5⟩
     case measure=>simp[intOf];omega
    ·have p:=Hd (XG R T l)
     have j:(x != y)=true:=by simp[l]
     clear l;go_wp2;go_quiet (fail)
     go_wp2;go_ret;refine⟨C9 p.symm,?_⟩;obtain⟨q,rfl⟩:=o.out;exact PA (PA (Below.refl _ w) _) _
   ·obtain rfl:k=a.length:=by omega
    have p:=Hd (P.all J);go_wp2;go_ret;refine⟨C9 p.symm,?_⟩;obtain⟨q,rfl⟩:=o.out;exact PA (Below.refl _ w) _
 ·have j:(a==b)=false:=by
   rw[bN];rintro rfl;exact t rfl
  rw[j];have aa:¬(a.length:Int)=(b.length:Int):=by omega
  clear t j;go_enter Tryz.func141,Tryz.ntmps141
  go_wp2;go_ret;exact⟨rfl,Below.refl _ w⟩
def LX(h:Below B w w'):Below B w w'.drew:=⟨h.os,h.tape,h.output,h.size,h.block⟩
def dE{a b:Ru}(ha:BD BZ w a.v a.right)(o:BD BZ w b.v b.right):() 105 #[DR a,DR b] w (BF w (Fv a b)):=by
 have I:=Hd (fun z (t:Below w w z)=>WB (ha.later t) (o.later t));clear ha o;unfold Fv DR;generalize (a.right==b.right)=q at *;generalize a.v=J at *;generalize b.v=P at *;generalize a.left=i at *;generalize b.left=j at *;by_cases h:i=j
 ·have l:(i==j)=true:=by simp[h]
  rw[l,Bool.true_and];clear h;go_enter Tryz.func105,Tryz.ntmps105
  go_wp2_with fail
  refine(I _ ((AE w _).trans ((AE _ _).mono mV))).mono ?_;rintro e R ⟨rfl,p⟩;have C:=Hd ((AE w _).trans (((AE _ _).trans (p.mono mV)).mono mV));clear p;go_wp2;go_ret;exact⟨rfl,C⟩
 ·have l:(i==j)=false:=by simp[h]
  rw[l,Bool.false_and];clear h;go_enter Tryz.func105,Tryz.ntmps105
  go_wp2;go_ret;exact⟨rfl,((AE w _).trans ((AE _ _).mono mV))⟩
def WE{x:Ru}{l p o b off n c i:Nat}(hF:nQ y (l,0)=nJ (.func (.func 105) #[] #[]))(J:nQ y (p,0)=nJ (nC (b,off) n c))(hI:nQ y (o,0)=nJ (nE nM i))
  (hi:i<n) (I:nQ y (b,off+i*2)=nJ (nE nM r.left)) (T:nQ y (b,off+i*2+1)=nJ r.v) (hx:BD BZ y x.v x.right) (U:BD BZ y r.v r.right) :
  () 140 #[DR x,(l,0),(p,0),(o,0)] y (BF y (Fv x r)):=by
 have HS:=Hd (fun z (hz:Below y y z)=>dE (hx.later hz) (U.later hz));have lF:=World.block_lt_of_cell? y _ hF;have lL:=World.block_lt_of_cell? y _ J;have lI:=World.block_lt_of_cell? y _ hI;have lb:=World.block_lt_of_cell? y _ I;clear hx U;unfold DR at *;generalize Fv x r=q at *;generalize x.left=t at *;generalize x.v=C at *;generalize r.left=rl at *;generalize r.v=rv at *;go_enter Tryz.func140,Tryz.ntmps140
 have R:Hid (∀j,Below (y.alloc (nO #[t,C] 145)).heap.size (y.alloc (nO #[t,C] 145)) j->nQ j (l,0)=nJ (.func (.func 105) #[] #[])/\nQ j (p,0)=nJ (nC (b,off) n c)/\nQ j (o,0)=nJ (nE nM i)/\nQ j (b,off+i*2)=nJ (nE nM rl)/\nQ j (b,off+i*2+1)=nJ rv/\nQ j (y,0)=nJ (nE nM t)/\nQ j (y,1)=nJ C):=Hd (fun j h=>by
  have h0:=Et h;exact⟨(h0.cell (p:=(l,0)) lF).trans hF,(h0.cell (p:=(p,0)) lL).trans J,(h0.cell (p:=(o,0)) lI).trans hI,(h0.cell (p:=(b,off+i*2)) lb).trans I,(h0.cell (p:=(b,off+i*2+1)) lb).trans T,
   (h.cell (p:=(y,0)) mV).trans ((Ah.new y _ _).cell 0),(h.cell (p:=(y,1)) mV).trans ((Ah.new y _ _).cell 1)⟩)
 clear hF J hI I T;go_wp2_with fail
 go_region_held3 (fun j=>nQ j (l,0)=nJ (.func (.func 105) #[] #[])/\nQ j (p,0)=nJ (nC (b,off) n c)/\nQ j (o,0)=nJ (nE nM i)/\nQ j (b,off+i*2)=nJ (nE nM rl)/\nQ j (b,off+i*2+1)=nJ rv/\nQ j (y,0)=nJ (nE nM t)/\nQ j (y,1)=nJ C)
  (first|exact R _ HZ|exact R _ ⟨rfl,rfl,rfl,AF _,fun _ _=>rfl⟩)
  (first|(go_at_call 105;refine(HS _ (LX (AE y _))).mono ?_;rintro e w2 ⟨rfl,P⟩;have a0:=Hd ((LX (AE y _)).trans (P.mono (LX (AE y _)).size));have HZ:=Hd ((LX (Below.refl _ _)).trans (P.mono (AF _)));clear P))
 all_goals go_wp2
 all_goals go_ret
 all_goals exact⟨rfl,a0⟩
def Ka(l:List Ru)(k:Nat):Prop:=∀(i j:Nat) (x r:Ru),i<k->j<i->l[j]?=nJ x->l[i]?=nJ r->Fv x r=false
theorem Ka.next{l:List Ru}{k:Nat}{r:Ru}(h:Ka l k)(J:l[k]?=nJ r)(ha:((l.take k).any fun x=>Fv x r)=false):Ka l (k+1):=by
 intro i j x P R p t o;by_cases e:i=k
 ·subst e
  rw[J]at o;cases o
  have C:x∈l.take i:=mG (i:=j) (by rw[List.getElem?_take,if_pos p];exact t);cases I:Fv x r with
  | false=>rfl
  | true=>have:((l.take i).any fun x=>Fv x r)=true:=List.any_eq_true.2 ⟨x,C,I⟩;rw[ha]at this;cases this
 ·exact h i j x P mR p t o
open Classical in
def Ka.all{l:List Ru}(h:Ka l l.length):decide (Un l)=true:=by rw[decide_eq_true_eq];intro i j x r p t o;exact h i j x r (sG.1 o).1 p t o
def Xm(I:l[k]?=nJ r)(ha:((l.take k).any fun x=>Fv x r)=true):¬Un l:=by
 intro h;obtain⟨x,t,C⟩:=List.any_eq_true.1 ha;obtain⟨j,o,i⟩:=List.mem_iff_getElem.1 t;have p:j<k:=by rw[List.length_take]at o;omega
 have:=h k j x r p (by rw[<-i,List.getElem_take];exact eG _) I;rw[C]at this;cases this
def UK(w:nS)(i:nU)(y:nS):Prop:=Below w w y/\w.heap.size+1<y.heap.size/\nQ y (w,0)=nJ i/\nQ y (w.heap.size+1,0)=nJ (.func (.func 105) #[] #[])
def UK.later{z:nS}{j:nU}(h:UK w j y)(i:Below y y z):UK w j z:=
 ⟨h.1.trans (i.mono h.1.size),AK h.2.1 i.size,(i.cell (p:=(w,0)) (by have:=h.2.1;show w.heap.size<_;omega)).trans h.2.2.1,(i.cell (p:=(w.heap.size+1,0)) h.2.1).trans h.2.2.2⟩
open Classical in
def QL{b:Bool}(h:decide (Un l)=b)(i:Below w w w'):BF w (decide (Un l)) (nP (.bool b)) w':=⟨by rw[h],i⟩
open Classical in
def cV(h:E4 w v l):() 104 #[v,.func (.func 105) #[] #[]] w (BF w (decide (Un l))):=by
 have hl:=h;obtain⟨⟨A,c,rfl,U⟩,hs,a0⟩:=hl;have a3:Hid (∀k r b off,l[k]?=nJ r->A=nJ ⟨b,off,nK⟩->∀y,UK w (nC A l.length c) y->() 132 #[nC A k c,.func (.func 140) #[] #[(w.heap.size+1,0),(w,0),(y,0)]] (y.alloc (nO #[nE nM k] 3)) (BF (y.alloc (nO #[nE nM k] 3)) ((l.take k).any fun x=>Fv x r))):=Hd (by
  intro k r b off j P y hy;subst P;have hk:=(sG.1 j).1;have a1:=hy.later (AE y (nO #[nE nM k] 3));refine UZ ((h.take k mR c ⟨by have:=(a0 _ _ _ rfl).1;omega,fun e=>by cases e⟩).later a1.1) (fun x=>Fv x r) 140 _ (fun _ _=>by kernel_rfl) (fun x hx z hz=>?_);have p:=a1.later hz;obtain⟨b',a7,e,R,h1,h2,h3⟩:=U k r j;cases e
  refine WE (r:=r) (b:=b) (off:=off) (n:=l.length) (c:=c) (i:=k) p.2.2.2 p.2.2.1 ?_ hk ?_ ?_ ((h.mem (List.mem_of_mem_take hx)).later p.1) (h3.later p.1)
  ·exact(hz.cell (p:=(y,0)) mV).trans ((Ah.new y _ _).cell 0)
  ·exact(p.1.cell (p:=⟨b,off+k*2,nK⟩) R).trans h1
  ·exact(p.1.cell (p:=⟨b,off+k*2+1,nK⟩) R).trans h2)
 have a2:=Hd U;have a4:=(a0 _ _ _ rfl).1;clear h U a0;go_enter Tryz.func104,Tryz.ntmps104
 go_wp2;go_loopw [8] (fun i wr=>∃k:Nat,k<=l.length/\i=nE nM k/\Hid (Ka l k)/\Hid (UK w (nC A l.length c) wr)) (fun i _=>l.length-(intOf i).toNat)
 case atStart=>exact⟨0,A0 _,rfl,Hd (fun i a6 x r hi=>absurd hi (Nat.not_lt_zero _)),Hd ⟨(AE w _).trans ((AE _ _).mono mV),mV,(World.cell?_alloc_lt _ _ (w,0) mV).trans ((Ah.new w _ _).cell 0),mV⟩⟩
 case round=>
  obtain⟨k,hk,rfl,HU,t⟩:=hrel;by_cases R:k<l.length
  ·have j:=eG R
   generalize l[k]=r at j;obtain⟨b,off,P,a5,_⟩:=a2 k r j;have J:=Hd (a3 k r b off j P wr t);have HR:=Hd j;obtain⟨c1,c2,c3,c4⟩:=t.out;have l1:w.heap.size<wr.heap.size:=by omega
   clear c1 j;subst P;cases o:(l.take k).any fun x=>Fv x r with
   | false=>
    rw[o]at J;have C:=Hd (HU.next HR o);clear o;go_wp2_with fail
    refine J.mono ?_;rintro e w1 ⟨rfl,I⟩;have T:=Hd ((t.later (AE wr _)).later I);clear I;go_wp2;go_roundw
    case rel=>exact⟨k+1,mR,mY,C,T⟩
    case measure=>simp[intOf];omega
   | true=>
    rw[o]at J;have C:=Hd (Xm HR o);clear o;go_wp2_with fail
    refine J.mono ?_;rintro e w1 ⟨rfl,I⟩;have T:=Hd ((t.later (AE wr _)).later I);clear I;go_wp2;go_ret;exact QL (decide_eq_false C) T.1
  ·obtain rfl:k=l.length:=by omega
   have C:=Hd HU.all;go_wp2;go_ret;exact QL C t.1
def Tryz.Y4:(Tryz.prog.info? 3).map (fun i=>(i.zero,i.size,i.bytes))=nJ (nJ (nE nM 0),1,8):=by kernel_rfl
def LH:El Tryz.prog 34 3 1 8:=El.of Tryz.underlying34 Tryz.Y4 rfl mT
def AV{base:Nat}{e:TypeId}{size:Nat}(h:w.ownsRow base e size v k xs)(o:Below w w w'):w'.ownsRow base e size v k xs:=by
 refine⟨h.1,?_⟩;rcases h.2 with p|⟨g,cap,j,rfl,l,i,rest⟩
 ·exact .inl p
 ·exact .inr ⟨g,cap,j,rfl,l,by rw[o.block g (aG.1 i).1];exact i,rest⟩
def Dp(T:TypeId)(w:nS)(xs:List nU)(o:nU)(wr:nS):Prop:=∃A c,o=nC A xs.length c/\wr.ownsRow w T 1 (nC A xs.length c) xs.length xs/\Below w w wr
def Dp.nil(T:TypeId)(w:nS):Dp T w [] (nC nK 0 0) w:=⟨nK,0,rfl,⟨rfl,.inl ⟨rfl,rfl⟩⟩,Below.refl _ _⟩
def My{wr w2:nS}{i:List nU}{A:Option Addr}{N c:Nat}(j:Below w w wr)(l:xs.length+i.length=N)(o:w2.ownsRow w T 1 (nC A N c) N (xs++i))(p:AI w [T] wr w2):Dp T w (xs++i) (nC A N c) w2:=by subst l;exact⟨A,c,by rw[BS],by rw[BS];exact o,j.trans (p.below j.size)⟩
def Dp.later{wr w2:nS}(h:Dp T w xs o wr)(j:Below wr wr w2):Dp T w xs o w2:=by obtain⟨A,c,p,l,i⟩:=h;exact⟨A,c,p,AV l j,i.trans (j.mono i.size)⟩
def Dp.arr{C:Type}{E:C->nU}{wr:nS}{l:List C}(h:Dp T w (l.map E) o wr)(J:l.length<=4611686018427387904):BD E wr o l:=by
 obtain⟨A,c,rfl,i,U⟩:=h;rw[lM]at i ⊢;refine⟨⟨A,c,rfl,fun k x j=>?_⟩,J,fun P n' R e=>?_⟩
 ·rcases Bg i with⟨e,h0⟩|⟨b,cap,e,I,t,p,_⟩
  ·have:=(sG.1 j).1
   omega
  ·cases e
   have hk:=(sG.1 j).1;refine⟨b,0,rfl,t,?_⟩;rw[Nat.zero_add,Bb i k mR,pG,j];rfl
 ·cases e
  rcases Bg i with⟨e,h0⟩|⟨b,cap,e,I,t,p,_⟩
  ·simp only[Value.slice.injEq]at e
   exact⟨mR,fun _=>e.2.2⟩
  ·cases e
   exact⟨p,fun e=>by cases e⟩
def Md(T:TypeId)(u:nU)(i:u.oneCell'=true)(y:nS):Ba (y.alloc (nO #[u] T)) (nC (y,0) 1 1) 1 1 [u]:=
 Ba.Ap (c:=1) (cs:=[u]) (Ah.new y T _) rfl (fun x j=>by rw[mS.1 j];exact i)
def mg(T:TypeId)(u:nU)(i:u.oneCell'=true)(y:nS)(o:Obj):Ba ((y.alloc o).alloc (nO #[u] T)) (nC (y.heap.size+1,0) 1 1) 1 1 [u]:=by have h:=Md T u i (y.alloc o);rwa [show (y.alloc o).heap.size=y.heap.size+1 by simp]at h
def D0(l:List Ru)(s:Int)(k:Nat):List Int:=((List.range k).filter fun i=>(l[i]?.map (Gm.left s)).getD false).map Int.ofNat
def N3(i:l[k]?=nJ r):D0 l s (k+1)=D0 l s k++(if r.left=s then[(k:Int)] else[]):=by
 unfold D0;rw[List.range_succ,List.filter_append,Bz];congr 1;by_cases h:r.left=s
 ·simp[List.filter,i,Gm.left,h]
 ·have j:(r.left==s)=false:=by simp[h]
  simp[List.filter,i,Gm.left,h,j]
def Uj(i:l[k]?=nJ r)(h:r.left=s):D0 l s (k+1)=D0 l s k++[(k:Int)]:=by rw[N3 i,if_pos h]
def QY(i:l[k]?=nJ r)(h:¬r.left=s):D0 l s (k+1)=D0 l s k:=by rw[N3 i,if_neg h,List.append_nil]
def eV(l:List Ru)(s:Int)(k:Nat):(D0 l s k).length<=k:=by unfold D0;rw[lM];have:=List.length_filter_le (fun i=>(l[i]?.map (Gm.left s)).getD false) (List.range k);rwa [List.length_range]at this
def Zf(w:nS)(v:nU)(xs:List Int)(e:Ending)(w':nS):Prop:=∃o,e=nP o/\Dp 3 (w.alloc (nO v.cells 58)) (xs.map BZ) o w'
def Qx(h:Ei w v g)(s:Int):() 106 #[v,s] w (Zf w v (D0 g.R s g.R.length)):=by
 have af:=h.small.2.2.2.2.1;have HG:=Hd (Ek.new w 58 v);obtain⟨AT,cT,AN,cN,AR,cR,rfl,hT,hN,hR⟩:=h.open_;obtain⟨⟨A,c,hv,hc⟩,hs,a9⟩:=hR;cases hv
 have a5:=Hd hc;have ab:=LH;clear h hT hN a9 hc;generalize g.R=l at *;generalize g.T.length=nT at *;generalize g.N.length=nN at *;generalize g.s=gs at *;go_enter Tryz.func106,Tryz.ntmps106
 go_wp2;go_loopw [5,11] (fun aa a1 wr=>∃k:Nat,k<=l.length/\a1=nE nM k/\Dp 3 (w.alloc (nO #[nC AT nT cT,nC AN nN cN,nC AR l.length cR,gs] 58)) ((D0 l s k).map BZ) aa wr) (fun _ a1 _=>l.length-(intOf a1).toNat)
 case atStart=>exact⟨0,A0 _,rfl,Dp.nil _ _⟩
 case round=>
  obtain⟨k,hk,rfl,A,oc,rfl,ho,p⟩:=hrel;have P:=Hd ho;have o:=Hd p;have a4:=p.size;have ae:=eV l s k;have ad:w.heap.size<wr.heap.size:=by simp at a4;omega
  by_cases a7:k<l.length
  ·have j:=eG a7
   generalize l[k]=r at j;obtain⟨b,off,hA,a2,h1,T,h3⟩:=a5 k r j;subst hA;obtain⟨⟨RA,rc,a3,_⟩,_⟩:=h3;rw[a3]at T;have U:Below w w wr:=(AE w _).trans (p.mono mV);have e1:=(U.cell (p:=(b,off+k*2)) a2).trans h1;have e2:=(U.cell (p:=(b,off+k*2+1)) a2).trans T;have R:=Hd (fun e=>Uj (s:=s) j e);have J:=Hd (fun e=>QY (s:=s) j e);clear h1 T j ho p U a3;generalize r.left=t at *;generalize r.right.length=rn at *;by_cases i:t=s
   ·have a8:(t==s)=true:=by simp[i]
    have R:=Hd (R i);have HS:=Hd (mg 3 k rfl);clear i;generalize a0:(D0 l s k).map BZ=C at *;have ag:C.length<=1048576:=by rw[<-a0,lM];omega
    have a6:=Hd a0;clear a0;go_wp2_with (at_builtin;refine Du LH (.tmp 20) (.tmp 22) rfl rfl (base:=(w.alloc (nO #[nC AT nT cT,nC AN nN cN,nC (b,off) l.length cR,gs] 58)).heap.size) (n:=C.length) (m:=1) (N:=C.length+1) (xs:=C) (news:=[nE nM k]) rfl rfl ((P.alloc _).alloc _) (HS _ _) rfl mW mR (by simp at a4 ⊢;omega) ?_;intro A2 c2 w2 r1 r2 r3;have I:=Hd (My (o.trans (((AE _ _).trans ((AE _ _).mono mV)).mono o.size)) rfl r1 r2);clear r1 r2 r3)
    go_roundw
    case rel=>exact⟨k+1,mR,mY,by rw[R.out,Bz,a6.out];exact I⟩
    case measure=>simp[intOf];omega
   ·have a8:(t==s)=false:=by simp[i]
    have J:=Hd (J i);have I:=Hd (Dp.later ⟨A,oc,rfl,P,o⟩ (AE _ (nO #[t,nC RA rn rc] 145)));clear i;go_wp2;go_roundw
    case rel=>exact⟨k+1,mR,mY,by rw[J.out];exact I⟩
    case measure=>simp[intOf];omega
  ·obtain rfl:k=l.length:=by omega
   go_wp2;go_ret;exact⟨_,rfl,A,oc,rfl,P,o⟩
