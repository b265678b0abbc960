/- . -/
import Derived.Test.YtendpobbjjaopaaGreatDoorXab
import Derived.Shelf.Abstract
import Derived.Deep.RegionWith
import Derived.BigQuiet
import Derived.Deep.QuietTactic
import Derived.Deep.RegionHeld3
import Derived.Test.YtendpobbjjaopaaGreatDoorXnm
set_option linter.all false
set_option maxRecDepth 100000
set_option maxHeartbeats 16000000
namespace Go.Proofs.YtendpobbjjaopaaGreatDoor
open Go.RowKit
open Value renaming slice→oG,int→oH,pointer→oI
open Option renaming some→oM,none→oN
open IntKind renaming i64→oO
open Obj renaming cells→oP
open Ending renaming returned→oQ
open World renaming cell?→oT
open Go renaming World→oU,Value→oV
variable{o:oV}{k:Nat}{w w':oU}{l:List Ru}{g:Gm}{r:Ru}{xs:List oV}{T:TypeId}{s:Int}
def Pw{o:Type}{p:o->Bool}{l:List o}{x:o}(I:l[k]?=oM x)(C:p x=false)(t:∀j y,j<k->l[j]?=oM y->p y=false):∀j y,j<k+1->l[j]?=oM y->p y=false:=by
 intro j y J i;by_cases e:j=k
 ·subst e
  rw[I]at i;cases i
  exact C
 ·exact t j y nX i
def V0{v:oV}{l:List ByteArray}(H:BH Cp w v l)(p:ByteArray->Bool)(g:Nat)(lb:Array oV)(eg:∀args y,(callFunc g args).run Tryz.prog y=.ok (.enter g args) y)
  (hp:∀x∈l,∀y,Below w w y->() g (#[Cp x]++lb) y (BI y (p x))) :
  () 224 #[v,.func (.func g) #[] lb] w fun e w'=>e=oQ (oH oO (G3 p l))/\Below w w w':=by
 obtain⟨⟨A,c,rfl,hc⟩,hs⟩:=H;have HC:=Hd hc;have HP:=Hd hp;clear hc hp;go_enter Tryz.func224,Tryz.ntmps224
 go_wp2;go_loopw [5,8] (fun _ i wr=>∃k:Nat,k<=l.length/\i=oH oO k/\Hid (∀j y,j<k->l[j]?=oM y->p y=false)/\Hid (Below w w wr)) (fun _ i _=>l.length-(intOf i).toNat)
 case atStart=>exact⟨0,AX _,rfl,Hd (fun j y hj=>absurd hj (Nat.not_lt_zero _)),Hd (Below.refl _ w)⟩
 case round=>
  obtain⟨k,hk,rfl,P,o⟩:=hrel;by_cases a1:k<l.length
  ·have I:=eG a1
   generalize l[k]=x at I;have hm:=mG I;obtain⟨b,off,rfl,a2,a0⟩:=HC k x I;have a3:=(o.cell (p:=(b,off+k)) a2).trans a0;have J:=Hd (HP x hm wr o);simp only[Cp]at *;have U:=Hd I;clear I a0 hm;cases t:p x with
   | true=>
    rw[t]at J;have T:=Hd (Ob U t P);clear t;go_wp2_with (go_at_fn g;refine J.mono ?_;rintro e w' ⟨rfl,C⟩;have R:=Hd (o.trans (C.mono o.size));clear C)
    go_ret;exact⟨by rw[T.out];rfl,R⟩
   | false=>
    rw[t]at J;have HN:=Hd (Pw U t P);clear t;go_wp2_with (go_at_fn g;refine J.mono ?_;rintro e w' ⟨rfl,C⟩;have R:=Hd (o.trans (C.mono o.size));clear C)
    go_roundw
    case rel=>exact⟨k+1,nX,oD,HN,R⟩
    case measure=>simp[intOf];omega
  ·obtain rfl:k=l.length:=by omega
   have T:=Hd (Oc P);go_wp2;go_ret;exact⟨by rw[T.out];rfl,o⟩
def bT{v:oV}{l:List ByteArray}(H:BH Cp w v l)(p:ByteArray->Bool)(g:Nat)(lb:Array oV)(I:∀args y,(callFunc g args).run Tryz.prog y=.ok (.enter g args) y)
  (j:∀x∈l,∀y,Below w w y->() g (#[Cp x]++lb) y (BI y (p x))) :
  () 201 #[v,.func (.func g) #[] lb] w (BI w (l.any p)):=by
 have C:=Hd (V0 H p g lb I j);have t:=Hd (Pt p l);generalize l.any p=a at *;generalize G3 p l=n at *;clear H j;go_enter Tryz.func201,Tryz.ntmps201
 go_wp2_with fail
 refine C.mono ?_;rintro e J ⟨rfl,i⟩;have o:=Hd i;clear i;go_wp2;go_ret;exact⟨Cr (by rw[<-t.out]),o⟩
def nh(g:Nat)(lb:Array oV)(p:∀args y,(callFunc g args).run Tryz.prog y=.ok (.enter g args) y)(x:ByteArray)(b:Bool)(B:Nat)(w:oU)(t:oT w (B,0)=oM (.func (.func g) #[] lb))
  (j:∀y,Below w w y->() g (#[Cp x]++lb) y (BI y b)):() 202 #[Cp x,(B,0)] w (BI w (!b)):=by
 have o:=Hd (j w (Below.refl _ w));clear j;simp only[Cp]at *;go_enter Tryz.func202,Tryz.ntmps202
 go_wp2_with (go_at_fn g;refine o.mono ?_;rintro e C ⟨rfl,i⟩;have l:=Hd i;clear i)
 go_ret;exact⟨rfl,l⟩
def T3{v:oV}{l:List ByteArray}(H:BH Cp w v l)(p:ByteArray->Bool)(g:Nat)(lb:Array oV)(R:∀args y,(callFunc g args).run Tryz.prog y=.ok (.enter g args) y)
  (o:∀x∈l,∀y,Below w w y->() g (#[Cp x]++lb) y (BI y (p x))) :
  () 163 #[v,.func (.func g) #[] lb] w (BI w (l.all p)):=by
 have I:=Hd (fun(a0:Obj)=>bT (H.later ((Below.refl _ w).alloc (Ay _) a0)) (fun x=>!p x) 202 #[(w,0)] (fun _ _=>by kernel_rfl));have P:Hid (∀t,∀x∈l,∀y,Below (w.alloc (oP #[.func (.func g) #[] lb] t)).heap.size (w.alloc (oP #[.func (.func g) #[] lb] t)) y->() 202 (#[Cp x]++#[oI (oM ⟨w.heap.size,0,oN⟩)]) y (BI y (!p x))):=Hd (by
  intro t x T y i;refine nh g lb R x (p x) w.heap.size y ?_ (fun z U=>o x T z ?_)
  ·exact(i.cell (p:=(w,0)) oA).trans ((Ah.new w t _).cell 0)
  ·exact Fy (i.trans (U.mono i.size)))
 have J:=Hd (Pp p l);clear H o;generalize l.all p=b at *;go_enter Tryz.func163,Tryz.ntmps163
 go_wp2_with fail
 refine(I _ (P _)).mono ?_;rintro e w' ⟨rfl,j⟩;have C:=Hd (Fy j);clear j;go_wp2;go_ret;exact⟨Cr J,C⟩
def Yl{v:oV}{l:List Int}(H:BH B4 w v l)(p:Int->Bool)(g:Nat)(lb:Array oV)(eg:∀args y,(callFunc g args).run Tryz.prog y=.ok (.enter g args) y)
  (hp:∀x∈l,∀y,Below w w y->() g (#[B4 x]++lb) y (BI y (p x))) :
  () 46 #[v,.func (.func g) #[] lb] w fun e w'=>e=oQ (oH oO (G3 p l))/\Below w w w':=by
 obtain⟨⟨A,c,rfl,hc⟩,hs⟩:=H;have HC:=Hd hc;have HP:=Hd hp;clear hc hp;go_enter Tryz.func46,Tryz.ntmps46
 go_wp2;go_loopw [5,8] (fun _ i wr=>∃k:Nat,k<=l.length/\i=oH oO k/\Hid (∀j y,j<k->l[j]?=oM y->p y=false)/\Hid (Below w w wr)) (fun _ i _=>l.length-(intOf i).toNat)
 case atStart=>exact⟨0,AX _,rfl,Hd (fun j y hj=>absurd hj (Nat.not_lt_zero _)),Hd (Below.refl _ w)⟩
 case round=>
  obtain⟨k,hk,rfl,P,o⟩:=hrel;by_cases a1:k<l.length
  ·have I:=eG a1
   generalize l[k]=x at I;have hm:=mG I;obtain⟨b,off,rfl,a2,a0⟩:=HC k x I;have a3:=(o.cell (p:=(b,off+k)) a2).trans a0;have J:=Hd (HP x hm wr o);simp only[B4]at *;have U:=Hd I;clear I a0 hm;cases t:p x with
   | true=>
    rw[t]at J;have T:=Hd (Ob U t P);clear t;go_wp2_with (go_at_fn g;refine J.mono ?_;rintro e w' ⟨rfl,C⟩;have R:=Hd (o.trans (C.mono o.size));clear C)
    go_ret;exact⟨by rw[T.out];rfl,R⟩
   | false=>
    rw[t]at J;have HN:=Hd (Pw U t P);clear t;go_wp2_with (go_at_fn g;refine J.mono ?_;rintro e w' ⟨rfl,C⟩;have R:=Hd (o.trans (C.mono o.size));clear C)
    go_roundw
    case rel=>exact⟨k+1,nX,oD,HN,R⟩
    case measure=>simp[intOf];omega
  ·obtain rfl:k=l.length:=by omega
   have T:=Hd (Oc P);go_wp2;go_ret;exact⟨by rw[T.out];rfl,o⟩
def Ya{v:oV}{l:List Int}(H:BH B4 w v l)(p:Int->Bool)(g:Nat)(lb:Array oV)(I:∀args y,(callFunc g args).run Tryz.prog y=.ok (.enter g args) y)
  (j:∀x∈l,∀y,Below w w y->() g (#[B4 x]++lb) y (BI y (p x))) :
  () 23 #[v,.func (.func g) #[] lb] w (BI w (l.any p)):=by
 have C:=Hd (Yl H p g lb I j);have t:=Hd (Pt p l);generalize l.any p=a at *;generalize G3 p l=n at *;clear H j;go_enter Tryz.func23,Tryz.ntmps23
 go_wp2_with fail
 refine C.mono ?_;rintro e J ⟨rfl,i⟩;have o:=Hd i;clear i;go_wp2;go_ret;exact⟨Cr (by rw[<-t.out]),o⟩
def Wu(g:Nat)(lb:Array oV)(p:∀args y,(callFunc g args).run Tryz.prog y=.ok (.enter g args) y)(x:Int)(b:Bool)(B:Nat)(w:oU)(t:oT w (B,0)=oM (.func (.func g) #[] lb))
  (j:∀y,Below w w y->() g (#[B4 x]++lb) y (BI y b)):() 226 #[B4 x,(B,0)] w (BI w (!b)):=by
 have o:=Hd (j w (Below.refl _ w));clear j;simp only[B4]at *;go_enter Tryz.func226,Tryz.ntmps226
 go_wp2_with (go_at_fn g;refine o.mono ?_;rintro e C ⟨rfl,i⟩;have l:=Hd i;clear i)
 go_ret;exact⟨rfl,l⟩
def XX{v:oV}{l:List Int}(H:BH B4 w v l)(p:Int->Bool)(g:Nat)(lb:Array oV)(R:∀args y,(callFunc g args).run Tryz.prog y=.ok (.enter g args) y)
  (o:∀x∈l,∀y,Below w w y->() g (#[B4 x]++lb) y (BI y (p x))) :
  () 204 #[v,.func (.func g) #[] lb] w (BI w (l.all p)):=by
 have I:=Hd (fun(a0:Obj)=>Ya (H.later ((Below.refl _ w).alloc (Ay _) a0)) (fun x=>!p x) 226 #[(w,0)] (fun _ _=>by kernel_rfl));have P:Hid (∀t,∀x∈l,∀y,Below (w.alloc (oP #[.func (.func g) #[] lb] t)).heap.size (w.alloc (oP #[.func (.func g) #[] lb] t)) y->() 226 (#[B4 x]++#[oI (oM ⟨w.heap.size,0,oN⟩)]) y (BI y (!p x))):=Hd (by
  intro t x T y i;refine Wu g lb R x (p x) w.heap.size y ?_ (fun z U=>o x T z ?_)
  ·exact(i.cell (p:=(w,0)) oA).trans ((Ah.new w t _).cell 0)
  ·exact Fy (i.trans (U.mono i.size)))
 have J:=Hd (Pp p l);clear H o;generalize l.all p=b at *;go_enter Tryz.func204,Tryz.ntmps204
 go_wp2_with fail
 refine(I _ (P _)).mono ?_;rintro e w' ⟨rfl,j⟩;have C:=Hd (Fy j);clear j;go_wp2;go_ret;exact⟨Cr J,C⟩
def VX{v:oV}(H:Fe w v l)(p:Ru->Bool)(g:Nat)(lb:Array oV)(eg:∀args y,(callFunc g args).run Tryz.prog y=.ok (.enter g args) y)
  (hp:∀x∈l,∀y,Below w w y->() g (#[D3 x]++lb) y (BI y (p x))) :
  () 223 #[v,.func (.func g) #[] lb] w fun e w'=>e=oQ (oH oO (G3 p l))/\Below w w w':=by
 obtain⟨⟨A,c,rfl,hc⟩,hs⟩:=H;have HC:=Hd hc;have HP:=Hd hp;clear hc hp;go_enter Tryz.func223,Tryz.ntmps223
 go_wp2;go_loopw [5,8] (fun _ i wr=>∃k:Nat,k<=l.length/\i=oH oO k/\Hid (∀j y,j<k->l[j]?=oM y->p y=false)/\Hid (Below w w wr)) (fun _ i _=>l.length-(intOf i).toNat)
 case atStart=>exact⟨0,AX _,rfl,Hd (fun j y hj=>absurd hj (Nat.not_lt_zero _)),Hd (Below.refl _ w)⟩
 case round=>
  obtain⟨k,hk,rfl,P,o⟩:=hrel;by_cases a3:k<l.length
  ·have I:=eG a3
   generalize l[k]=x at I;have hm:=mG I;obtain⟨b,off,rfl,a1,a0,a2,_⟩:=HC k x I;have a4:=(o.cell (p:=(b,off+k*2)) a1).trans a0;have a5:=(o.cell (p:=(b,off+k*2+1)) a1).trans a2;have J:=Hd (HP x hm wr o);simp only[D3]at *;have U:=Hd I;clear I a0 hm;cases t:p x with
   | true=>
    rw[t]at J;have T:=Hd (Ob U t P);clear t;go_wp2_with (go_at_fn g;refine J.mono ?_;rintro e w' ⟨rfl,C⟩;have R:=Hd (o.trans (C.mono o.size));clear C)
    go_ret;exact⟨by rw[T.out];rfl,R⟩
   | false=>
    rw[t]at J;have HN:=Hd (Pw U t P);clear t;go_wp2_with (go_at_fn g;refine J.mono ?_;rintro e w' ⟨rfl,C⟩;have R:=Hd (o.trans (C.mono o.size));clear C)
    go_roundw
    case rel=>exact⟨k+1,nX,oD,HN,R⟩
    case measure=>simp[intOf];omega
  ·obtain rfl:k=l.length:=by omega
   have T:=Hd (Oc P);go_wp2;go_ret;exact⟨by rw[T.out];rfl,o⟩
def RN{v:oV}(H:Fe w v l)(p:Ru->Bool)(g:Nat)(lb:Array oV)(I:∀args y,(callFunc g args).run Tryz.prog y=.ok (.enter g args) y)
  (j:∀x∈l,∀y,Below w w y->() g (#[D3 x]++lb) y (BI y (p x))) :
  () 199 #[v,.func (.func g) #[] lb] w (BI w (l.any p)):=by
 have C:=Hd (VX H p g lb I j);have t:=Hd (Pt p l);generalize l.any p=a at *;generalize G3 p l=n at *;clear H j;go_enter Tryz.func199,Tryz.ntmps199
 go_wp2_with fail
 refine C.mono ?_;rintro e J ⟨rfl,i⟩;have o:=Hd i;clear i;go_wp2;go_ret;exact⟨Cr (by rw[<-t.out]),o⟩
def fI(g:Nat)(lb:Array oV)(t:∀args y,(callFunc g args).run Tryz.prog y=.ok (.enter g args) y)(x:Ru)(b:Bool)(B:Nat)(w:oU)(p:oT w (B,0)=oM (.func (.func g) #[] lb))
  (j:∀y,Below w w y->() g (#[D3 x]++lb) y (BI y b)):() 200 #[D3 x,(B,0)] w (BI w (!b)):=by
 have o:=Hd j;clear j;have C:B<w.heap.size:=World.block_lt_of_cell? w _ p;simp only[D3]at *;go_enter Tryz.func200,Tryz.ntmps200
 go_wp2_with (go_at_fn g;refine(o _ ((Below.refl _ w).alloc (Ay _) _)).mono ?_;rintro e I ⟨rfl,i⟩;have l:=Hd (Fy i);clear i)
 go_ret;exact⟨rfl,l⟩
def Tv{v:oV}(H:Fe w v l)(p:Ru->Bool)(g:Nat)(lb:Array oV)(R:∀args y,(callFunc g args).run Tryz.prog y=.ok (.enter g args) y)
  (o:∀x∈l,∀y,Below w w y->() g (#[D3 x]++lb) y (BI y (p x))) :
  () 162 #[v,.func (.func g) #[] lb] w (BI w (l.all p)):=by
 have I:=Hd (fun(a0:Obj)=>RN (H.later ((Below.refl _ w).alloc (Ay _) a0)) (fun x=>!p x) 200 #[(w,0)] (fun _ _=>by kernel_rfl));have P:Hid (∀t,∀x∈l,∀y,Below (w.alloc (oP #[.func (.func g) #[] lb] t)).heap.size (w.alloc (oP #[.func (.func g) #[] lb] t)) y->() 200 (#[D3 x]++#[oI (oM ⟨w.heap.size,0,oN⟩)]) y (BI y (!p x))):=Hd (by
  intro t x T y i;refine fI g lb R x (p x) w.heap.size y ?_ (fun z U=>o x T z ?_)
  ·exact(i.cell (p:=(w,0)) oA).trans ((Ah.new w t _).cell 0)
  ·exact Fy (i.trans (U.mono i.size)))
 have J:=Hd (Pp p l);clear H o;generalize l.all p=b at *;go_enter Tryz.func162,Tryz.ntmps162
 go_wp2_with fail
 refine(I _ (P _)).mono ?_;rintro e w' ⟨rfl,j⟩;have C:=Hd (Fy j);clear j;go_wp2;go_ret;exact⟨Cr J,C⟩
def Ev.open_{v:oV}(h:Ev w v g):∃l t i o j p,v=.agg #[oG l g.T.length t,oG i g.N.length o,oG j g.R.length p,g.s] /\
  BH Cp w (oG l g.T.length t) g.T/\BH Cp w (oG i g.N.length o) g.N/\Fe w (oG j g.R.length p) g.R:=by
 obtain⟨⟨vT,vN,vR,P,C,I,J⟩,hs⟩:=h;obtain⟨⟨l,t,rfl,U⟩,sT⟩:=id C;obtain⟨⟨i,o,rfl,R⟩,sN⟩:=id I;obtain⟨⟨j,p,rfl,T⟩,sR⟩:=id J;exact⟨l,t,i,o,j,p,P,C,I,J⟩
section
variable {w:oU} {v:oV} {g:Gm}
def Nc(h:Ev w v g):() 129 #[v] w fun e w'=>e=oQ (oH oO ((g.T.length:Int)+(g.N.length:Int)))/\Below w w w':=by
 obtain⟨t,J,o,C,p,I,rfl,l,i,j⟩:=h.open_;have P:=h.small.2.2.1;have R:=h.small.2.2.2.1;clear h l i j;go_enter Tryz.func129,Tryz.ntmps129
 go_wp2;go_ret;exact⟨rfl,AG _ _⟩
def YI(h:Ev w v g)(s:Int):() 206 #[v,s] w (BI w (g.term s)):=by
 obtain⟨t,J,o,C,p,I,rfl,l,i,j⟩:=h.open_;clear h l i j;unfold Gm.term;generalize g.T.length=n;generalize g.N.length=m;go_enter Tryz.func206,Tryz.ntmps206
 go_wp2;all_goals go_ret
 all_goals exact⟨Cr (by rw[Bool.eq_iff_iff];simp[*]<;>omega),AG _ _⟩
def MZ(h:Ev w v g)(s:Int):() 168 #[v,s] w (BI w (g.BW s)):=by
 have o:=Hd (fun y (I:Below w w y)=>Nc (h.later I));obtain⟨R,cT,J,T,P,U,rfl,C,p,t⟩:=h.open_;clear h C p t;unfold Gm.BW;generalize g.T.length=n at *;generalize g.N.length=m at *;generalize g.R.length=r at *;generalize g.s=gs at *;by_cases j:(n:Int)<s
 ·rw[decide_eq_true j,Bool.true_and]
  go_enter Tryz.func168,Tryz.ntmps168
  go_wp2_with (go_at_call 129;refine(o _ (AG _ _)).mono ?_;rintro e w' ⟨rfl,i⟩;have l:=Hd (Fy i);clear i)
  go_ret;exact⟨rfl,l⟩
 ·rw[decide_eq_false j,Bool.false_and]
  go_enter Tryz.func168,Tryz.ntmps168
  go_wp2;go_ret;exact⟨rfl,AG _ _⟩
end
structure EE(y:oU)(B:Nat)(v:oV):Prop where
 lt:B<y.heap.size
 cell:∀j,j<4->oT y ⟨B,j,oN⟩=v.cells[j]?
variable{y:oU}{B:Nat}{v:oV}
def EE.later{l:oU}(h:EE y B v)(i:Below y y l):EE l B v:=
 ⟨A0 h.lt i.size,fun j o=>(i.cell (p:=⟨B,j,oN⟩) h.lt).trans (h.cell j o)⟩
def EE.new(w:oU)(t:TypeId)(v:oV):EE (w.alloc (oP v.cells t)) w.heap.size v:=⟨oA,fun j _=>(Ah.new w t _).cell j⟩
def EE.four{a b c d:oV}(h:EE y B (.agg #[a,b,c,d])):oT y (B,0)=oM a/\oT y (B,1)=oM b/\oT y (B,2)=oM c/\oT y (B,3)=oM d:=
 ⟨h.cell 0 nX,h.cell 1 nX,h.cell 2 nX,h.cell 3 nX⟩
def kD(h:Ev w v g)(s:Int)(t:Below w w y)(l:EE y B v):() 205 #[s,(B,0)] y (BI y (g.sym s)):=by
 have R:=Hd (fun z (p:Below w w z)=>YI (h.later p) s);have P:=Hd (fun z (p:Below w w z)=>MZ (h.later p) s);obtain⟨AT,cT,AN,cN,AR,cR,rfl,hT,U,hR⟩:=h.open_;have o:=Hd t;have J:=Hd l;have a0:=l.lt;obtain⟨T,c1,c2,c3⟩:=l.four;clear h hT U hR t l;unfold Gm.sym;generalize g.term s=a at *;generalize g.BW s=b at *;go_enter Tryz.func205,Tryz.ntmps205
 go_wp2_with fail
 refine(R _ o).mono ?_;rintro e w1 ⟨rfl,j⟩;have i:=Hd j;cases a with
 | true=>clear j;go_wp2;go_ret;exact⟨rfl,i⟩
 | false=>
  obtain⟨d0,d1,d2,d3⟩:=(J.later j).four;clear j T c1 c2 c3;go_wp2_with fail
  refine(P _ (o.trans (i.mono o.size))).mono ?_;rintro e w2 ⟨rfl,C⟩;have I:=Hd (i.trans (C.mono i.size));clear C;go_wp2;go_ret;exact⟨rfl,I⟩
def aX{u:oV}(h:Ev w v g)(p:TC w u r):Calls Tryz.prog 170 #[v,u] w (BI w (g.Hq r)):=by
 have R:=Hd (fun z (j:Below w.heap.size w z)=>MZ (h.later j) r.left);have J:=Hd (EE.new w 47 v);have C:Hid (∀z,Below w.heap.size w z->EE z w.heap.size v->Calls Tryz.prog 204 #[r.v,.func (.func 205) #[] #[oI (oM ⟨w.heap.size,0,oN⟩)]] z (BI z (r.right.all g.sym))):=Hd (by intro z j a0;exact XX (p.right.later j) g.sym 205 #[oI (oM ⟨w.heap.size,0,oN⟩)] (fun _ _=>by kernel_rfl) (fun x hx y t=>kD h x (j.trans (t.mono j.size)) (a0.later t)))
 obtain⟨AT,cT,AN,cN,AR,cR,rfl,hT,T,U⟩:=h.open_;obtain⟨rfl,a1⟩:=p;unfold Gm.Hq D3;clear h hT T U a1;generalize r.right.all g.sym=b at *;generalize r.left=rl at *;generalize r.v=rv at *;generalize g.BW rl=a at *;go_enter Tryz.func170,Tryz.ntmps170
 go_wp2_with fail
 refine(R.out _ ((AG w _).trans ((AG _ _).mono oA))).mono ?_;rintro e w1 ⟨rfl,i⟩;have l:=Hd ((AG w _).trans (((AG _ _).trans (i.mono oA)).mono oA));cases a with
 | false=>clear i;go_wp2;go_ret;exact⟨rfl,l.out⟩
 | true=>
  have P:=Hd ((J.out.later (AG _ _)).later i);have e1:=(i.cell (p:=⟨w.heap.size+1,1,oN⟩) oA).trans (World.cell?_alloc_at _ _ _ _ oA);clear i;go_wp2_with fail
  refine(C.out _ l.out P.out).mono ?_;rintro e w2 ⟨rfl,o⟩;have I:=Hd (l.out.trans (o.mono l.out.size));clear o;go_wp2;go_ret;exact⟨rfl,I.out⟩
theorem Wr(s:ByteArray)(t:s.size<=4611686018427387904)(w:oU):() 164 #[.string s] w (BI w (CS s.data.toList||CO s.data.toList)):=by
 have o:=Hd (Ur s nX w);have p:=Hd (VT s t);generalize CS s.data.toList=a at *;generalize CO s.data.toList=b at *;go_enter Tryz.func164,Tryz.ntmps164
 go_wp2_with fail
 refine o.mono ?_;rintro e C ⟨rfl,i⟩;have j:=Hd i;clear i;cases a with
 | true=>go_wp2;go_ret;exact⟨rfl,j⟩
 | false=>
  go_wp2_with fail
  refine(p _).mono ?_;rintro e I ⟨rfl,i⟩;have l:=Hd (j.trans (i.mono j.size));clear i;go_wp2;go_ret;exact⟨rfl,l⟩
def eX(r:Ru)(w:oU)(j:BH B4 w r.v r.right):() 161 #[D3 r] w (BI w (IQ r)):=by
 obtain⟨⟨A,c,i,_⟩,l⟩:=j;unfold IQ D3;rw[i];clear i;generalize r.right.length=n at *;generalize r.left=o at *;go_enter Tryz.func161,Tryz.ntmps161
 go_wp2;go_ret;exact⟨Cr (by rw[decide_eq_decide];omega),AG _ _⟩
def VV(h:Ev w v g)(p:BH B4 w r.v r.right)(l:Below w w y)(i:EE y B v):() 169 #[D3 r,(B,0)] y (BI y (g.Hq r)):=by
 have I:=Hd (fun z (t:Below w w z)=>aX (h.later t) (⟨rfl,p.later t⟩:TC z (D3 r) r));obtain⟨AT,cT,T,cN,U,cR,rfl,R,J,P⟩:=h.open_;have j:=Hd l;have HG:=Hd i;have a0:=i.lt;obtain⟨c0,c1,c2,c3⟩:=i.four;clear h R J P l i p;unfold D3 at *;generalize g.Hq r=a at *;go_enter Tryz.func169,Tryz.ntmps169
 go_wp2_with fail
 refine(I _ (j.trans ((AG _ _).mono j.size))).mono ?_;rintro e w1 ⟨rfl,o⟩;have C:=Hd (Fy o);clear o;go_wp2;go_ret;exact⟨rfl,C⟩
def PY(h:Below B w w')(n:Nat):Below B w (w'.drewN n):=⟨h.os,h.tape,h.output,h.size,h.block⟩
def KO(a b:List Int)(k:Nat):Prop:=∀j x y,j<k->a[j]?=oM x->b[j]?=oM y->x=y
def KO.next{a b:List Int}{k:Nat}{x y:Int}(h:KO a b k)(p:a[k]?=oM x)(t:b[k]?=oM y)(o:x=y):KO a b (k+1):=by
 intro j C I J i l;by_cases e:j=k
 ·subst e
  rw[p]at i;rw[t]at l;cases i;cases l;exact o
 ·exact h j C I nX i l
def KO.all{a b:List Int}(l:a.length=b.length)(h:KO a b a.length):(a==b)=true:=by
 rw[beq_iff_eq];apply List.ext_getElem?;intro j;by_cases i:j<a.length
 ·rw[eG i,eG nX]
  rw[h j _ _ i (eG i) (eG nX)]
 ·rw[nG nX,nG nX]
def fC{a b:List Int}{x y:Int}(l:a[k]?=oM x)(i:b[k]?=oM y)(j:¬x=y):(a==b)=false:=by
 rw[bN];rintro rfl;rw[l]at i;cases i
 exact j rfl
def jS{u:oV}{a b:List Int}(ha:BH B4 w u a)(j:BH B4 w v b):() 208 #[u,v] w (BI w (a==b)):=by
 obtain⟨⟨A,c,rfl,U⟩,ae⟩:=ha;obtain⟨⟨B,d,rfl,a0⟩,a7⟩:=j;have a3:=Hd U;have a4:=Hd a0;clear U a0;by_cases t:a.length=b.length
 ·rw[<-t]
  have J:=Hd t;clear t a7;go_enter Tryz.func208,Tryz.ntmps208
  go_wp2;go_loopw [5,13] (fun _ i wr=>∃k:Nat,k<=a.length/\i=oH oO k/\Hid (KO a b k)/\Hid (∃q,wr=w.drewN q)) (fun _ i _=>a.length-(intOf i).toNat)
  case atStart=>exact⟨0,AX _,rfl,Hd (fun af x y hj=>absurd hj (Nat.not_lt_zero _)),Hd ⟨0,rfl⟩⟩
  case round=>
   obtain⟨k,hk,rfl,P,o⟩:=hrel;by_cases a6:k<a.length
   ·have C:=eG a6
    have I:=eG (show k<b.length by have:=J.out;omega);generalize a[k]=x at C;generalize b[k]'(by have:=J.out;omega)=y at I;obtain⟨b1,a8,rfl,ab,a1⟩:=a3 k x C;obtain⟨b2,a9,rfl,ad,a2⟩:=a4 k y I;have R:=Hd C;have T:=Hd I;have e1:oT wr (b1,a8+k)=oM (oH oO x):=by obtain⟨q,rfl⟩:=o.out;exact a1
    have e2:oT wr (b2,a9+k)=oM (oH oO y):=by obtain⟨q,rfl⟩:=o.out;exact a2
    clear C I a1 a2;by_cases l:x=y
    ·have p:=Hd (P.next R T l)
     have j:(x != y)=false:=by simp[l]
     clear l;go_wp2;go_quiet (fail)
     have a5:Hid (∃q,wr.drewN nq=w.drewN q):=Hd (by obtain⟨q,hq⟩:=o.out;exact⟨q+nq,by rw[hq,World.drewN_drewN]⟩)
     go_wp2;go_roundw
     case rel=>exact⟨k+1,nX,oD,p,a5⟩
     case measure=>simp[intOf];omega
    ·have p:=Hd (fC R T l)
     have j:(x != y)=true:=by simp[l]
     clear l;go_wp2;go_quiet (fail)
     go_wp2;go_ret;refine⟨Cr p.symm,?_⟩;obtain⟨q,rfl⟩:=o.out;exact PY (PY (Below.refl _ w) _) _
   ·obtain rfl:k=a.length:=by omega
    have p:=Hd (P.all J);go_wp2;go_ret;refine⟨Cr p.symm,?_⟩;obtain⟨q,rfl⟩:=o.out;exact PY (Below.refl _ w) _
 ·have j:(a==b)=false:=by
   rw[bN];rintro rfl;exact t rfl
  rw[j];have aa:¬(a.length:Int)=(b.length:Int):=by omega
  clear t j;go_enter Tryz.func208,Tryz.ntmps208
  go_wp2;go_ret;exact⟨rfl,Below.refl _ w⟩
def LB(h:Below B w w'):Below B w w'.drew:=⟨h.os,h.tape,h.output,h.size,h.block⟩
def Ww{a b:Ru}(ha:BH B4 w a.v a.right)(o:BH B4 w b.v b.right):() 172 #[D3 a,D3 b] w (BI w (FM a b)):=by
 have I:=Hd (fun z (t:Below w w z)=>jS (ha.later t) (o.later t));clear ha o;unfold FM D3;generalize (a.right==b.right)=q at *;generalize a.v=J at *;generalize b.v=P at *;generalize a.left=i at *;generalize b.left=j at *;by_cases h:i=j
 ·have l:(i==j)=true:=by simp[h]
  rw[l,Bool.true_and];clear h;go_enter Tryz.func172,Tryz.ntmps172
  go_wp2_with fail
  refine(I _ ((AG w _).trans ((AG _ _).mono oA))).mono ?_;rintro e R ⟨rfl,p⟩;have C:=Hd ((AG w _).trans (((AG _ _).trans (p.mono oA)).mono oA));clear p;go_wp2;go_ret;exact⟨rfl,C⟩
 ·have l:(i==j)=false:=by simp[h]
  rw[l,Bool.false_and];clear h;go_enter Tryz.func172,Tryz.ntmps172
  go_wp2;go_ret;exact⟨rfl,((AG w _).trans ((AG _ _).mono oA))⟩
def Yg{x:Ru}{l p o b off n c i:Nat}(hF:oT y (l,0)=oM (.func (.func 172) #[] #[]))(J:oT y (p,0)=oM (oG (b,off) n c))(hI:oT y (o,0)=oM (oH oO i))
  (hi:i<n) (I:oT y (b,off+i*2)=oM (oH oO r.left)) (T:oT y (b,off+i*2+1)=oM r.v) (hx:BH B4 y x.v x.right) (U:BH B4 y r.v r.right) :
  () 207 #[D3 x,(l,0),(p,0),(o,0)] y (BI y (FM x r)):=by
 have HS:=Hd (fun z (hz:Below y y z)=>Ww (hx.later hz) (U.later hz));have lF:=World.block_lt_of_cell? y _ hF;have lL:=World.block_lt_of_cell? y _ J;have lI:=World.block_lt_of_cell? y _ hI;have lb:=World.block_lt_of_cell? y _ I;clear hx U;unfold D3 at *;generalize FM x r=q at *;generalize x.left=t at *;generalize x.v=C at *;generalize r.left=rl at *;generalize r.v=rv at *;go_enter Tryz.func207,Tryz.ntmps207
 have R:Hid (∀j,Below (y.alloc (oP #[t,C] 113)).heap.size (y.alloc (oP #[t,C] 113)) j->oT j (l,0)=oM (.func (.func 172) #[] #[])/\oT j (p,0)=oM (oG (b,off) n c)/\oT j (o,0)=oM (oH oO i)/\oT j (b,off+i*2)=oM (oH oO rl)/\oT j (b,off+i*2+1)=oM rv/\oT j (y,0)=oM (oH oO t)/\oT j (y,1)=oM C):=Hd (fun j h=>by
  have h0:=Fy h;exact⟨(h0.cell (p:=(l,0)) lF).trans hF,(h0.cell (p:=(p,0)) lL).trans J,(h0.cell (p:=(o,0)) lI).trans hI,(h0.cell (p:=(b,off+i*2)) lb).trans I,(h0.cell (p:=(b,off+i*2+1)) lb).trans T,
   (h.cell (p:=(y,0)) oA).trans ((Ah.new y _ _).cell 0),(h.cell (p:=(y,1)) oA).trans ((Ah.new y _ _).cell 1)⟩)
 clear hF J hI I T;go_wp2_with fail
 go_region_held3 (fun j=>oT j (l,0)=oM (.func (.func 172) #[] #[])/\oT j (p,0)=oM (oG (b,off) n c)/\oT j (o,0)=oM (oH oO i)/\oT j (b,off+i*2)=oM (oH oO rl)/\oT j (b,off+i*2+1)=oM rv/\oT j (y,0)=oM (oH oO t)/\oT j (y,1)=oM C)
  (first|exact R _ HZ|exact R _ ⟨rfl,rfl,rfl,Ay _,fun _ _=>rfl⟩)
  (first|(go_at_call 172;refine(HS _ (LB (AG y _))).mono ?_;rintro e w2 ⟨rfl,P⟩;have a0:=Hd ((LB (AG y _)).trans (P.mono (LB (AG y _)).size));have HZ:=Hd ((LB (Below.refl _ _)).trans (P.mono (Ay _)));clear P))
 all_goals go_wp2
 all_goals go_ret
 all_goals exact⟨rfl,a0⟩
def KN(l:List Ru)(k:Nat):Prop:=∀(i j:Nat) (x r:Ru),i<k->j<i->l[j]?=oM x->l[i]?=oM r->FM x r=false
theorem KN.next{l:List Ru}{k:Nat}{r:Ru}(h:KN l k)(J:l[k]?=oM r)(ha:((l.take k).any fun x=>FM x r)=false):KN l (k+1):=by
 intro i j x P R p t o;by_cases e:i=k
 ·subst e
  rw[J]at o;cases o
  have C:x∈l.take i:=mG (i:=j) (by rw[List.getElem?_take,if_pos p];exact t);cases I:FM x r with
  | false=>rfl
  | true=>have:((l.take i).any fun x=>FM x r)=true:=List.any_eq_true.2 ⟨x,C,I⟩;rw[ha]at this;cases this
 ·exact h i j x P nX p t o
open Classical in
def KN.all{l:List Ru}(h:KN l l.length):decide (Un l)=true:=by rw[decide_eq_true_eq];intro i j x r p t o;exact h i j x r (sG.1 o).1 p t o
def aU(I:l[k]?=oM r)(ha:((l.take k).any fun x=>FM x r)=true):¬Un l:=by
 intro h;obtain⟨x,t,C⟩:=List.any_eq_true.1 ha;obtain⟨j,o,i⟩:=List.mem_iff_getElem.1 t;have p:j<k:=by rw[List.length_take]at o;omega
 have:=h k j x r p (by rw[<-i,List.getElem_take];exact eG _) I;rw[C]at this;cases this
def UK(w:oU)(i:oV)(y:oU):Prop:=Below w w y/\w.heap.size+1<y.heap.size/\oT y (w,0)=oM i/\oT y (w.heap.size+1,0)=oM (.func (.func 172) #[] #[])
def UK.later{z:oU}{j:oV}(h:UK w j y)(i:Below y y z):UK w j z:=
 ⟨h.1.trans (i.mono h.1.size),A0 h.2.1 i.size,(i.cell (p:=(w,0)) (by have:=h.2.1;show w.heap.size<_;omega)).trans h.2.2.1,(i.cell (p:=(w.heap.size+1,0)) h.2.1).trans h.2.2.2⟩
open Classical in
def RF{b:Bool}(h:decide (Un l)=b)(i:Below w w w'):BI w (decide (Un l)) (oQ (.bool b)) w':=⟨by rw[h],i⟩
open Classical in
def gD(h:Fe w v l):() 171 #[v,.func (.func 172) #[] #[]] w (BI w (decide (Un l))):=by
 have hl:=h;obtain⟨⟨A,c,rfl,U⟩,hs,a0⟩:=hl;have a3:Hid (∀k r b off,l[k]?=oM r->A=oM ⟨b,off,oN⟩->∀y,UK w (oG A l.length c) y->() 199 #[oG A k c,.func (.func 207) #[] #[(w.heap.size+1,0),(w,0),(y,0)]] (y.alloc (oP #[oH oO k] 3)) (BI (y.alloc (oP #[oH oO k] 3)) ((l.take k).any fun x=>FM x r))):=Hd (by
  intro k r b off j P y hy;subst P;have hk:=(sG.1 j).1;have a1:=hy.later (AG y (oP #[oH oO k] 3));refine RN ((h.take k nX c ⟨by have:=(a0 _ _ _ rfl).1;omega,fun e=>by cases e⟩).later a1.1) (fun x=>FM x r) 207 _ (fun _ _=>by kernel_rfl) (fun x hx z hz=>?_);have p:=a1.later hz;obtain⟨b',a7,e,R,h1,h2,h3⟩:=U k r j;cases e
  refine Yg (r:=r) (b:=b) (off:=off) (n:=l.length) (c:=c) (i:=k) p.2.2.2 p.2.2.1 ?_ hk ?_ ?_ ((h.mem (List.mem_of_mem_take hx)).later p.1) (h3.later p.1)
  ·exact(hz.cell (p:=(y,0)) oA).trans ((Ah.new y _ _).cell 0)
  ·exact(p.1.cell (p:=⟨b,off+k*2,oN⟩) R).trans h1
  ·exact(p.1.cell (p:=⟨b,off+k*2+1,oN⟩) R).trans h2)
 have a2:=Hd U;have a4:=(a0 _ _ _ rfl).1;clear h U a0;go_enter Tryz.func171,Tryz.ntmps171
 go_wp2;go_loopw [8] (fun i wr=>∃k:Nat,k<=l.length/\i=oH oO k/\Hid (KN l k)/\Hid (UK w (oG A l.length c) wr)) (fun i _=>l.length-(intOf i).toNat)
 case atStart=>exact⟨0,AX _,rfl,Hd (fun i a6 x r hi=>absurd hi (Nat.not_lt_zero _)),Hd ⟨(AG w _).trans ((AG _ _).mono oA),oA,(World.cell?_alloc_lt _ _ (w,0) oA).trans ((Ah.new w _ _).cell 0),oA⟩⟩
 case round=>
  obtain⟨k,hk,rfl,HU,t⟩:=hrel;by_cases R:k<l.length
  ·have j:=eG R
   generalize l[k]=r at j;obtain⟨b,off,P,a5,_⟩:=a2 k r j;have J:=Hd (a3 k r b off j P wr t);have HR:=Hd j;obtain⟨c1,c2,c3,c4⟩:=t.out;have l1:w.heap.size<wr.heap.size:=by omega
   clear c1 j;subst P;cases o:(l.take k).any fun x=>FM x r with
   | false=>
    rw[o]at J;have C:=Hd (HU.next HR o);clear o;go_wp2_with fail
    refine J.mono ?_;rintro e w1 ⟨rfl,I⟩;have T:=Hd ((t.later (AG wr _)).later I);clear I;go_wp2;go_roundw
    case rel=>exact⟨k+1,nX,oD,C,T⟩
    case measure=>simp[intOf];omega
   | true=>
    rw[o]at J;have C:=Hd (aU HR o);clear o;go_wp2_with fail
    refine J.mono ?_;rintro e w1 ⟨rfl,I⟩;have T:=Hd ((t.later (AG wr _)).later I);clear I;go_wp2;go_ret;exact RF (decide_eq_false C) T.1
  ·obtain rfl:k=l.length:=by omega
   have C:=Hd HU.all;go_wp2;go_ret;exact RF C t.1
def Tryz.iC:(Tryz.prog.info? 3).map (fun i=>(i.zero,i.size,i.bytes))=oM (oM (oH oO 0),1,8):=by kernel_rfl
def Md:El Tryz.prog 22 3 1 8:=El.of Tryz.underlying22 Tryz.iC rfl nY
def AU{base:Nat}{e:TypeId}{size:Nat}(h:w.ownsRow base e size v k xs)(o:Below w w w'):w'.ownsRow base e size v k xs:=by
 refine⟨h.1,?_⟩;rcases h.2 with p|⟨g,cap,j,rfl,l,i,rest⟩
 ·exact .inl p
 ·exact .inr ⟨g,cap,j,rfl,l,by rw[o.block g (aG.1 i).1];exact i,rest⟩
def Dp(T:TypeId)(w:oU)(xs:List oV)(o:oV)(wr:oU):Prop:=∃A c,o=oG A xs.length c/\wr.ownsRow w T 1 (oG A xs.length c) xs.length xs/\Below w w wr
def Dp.nil(T:TypeId)(w:oU):Dp T w [] (oG oN 0 0) w:=⟨oN,0,rfl,⟨rfl,.inl ⟨rfl,rfl⟩⟩,Below.refl _ _⟩
def MF{wr w2:oU}{i:List oV}{A:Option Addr}{N c:Nat}(j:Below w w wr)(l:xs.length+i.length=N)(o:w2.ownsRow w T 1 (oG A N c) N (xs++i))(p:AI w [T] wr w2):Dp T w (xs++i) (oG A N c) w2:=by subst l;exact⟨A,c,by rw[Cb],by rw[Cb];exact o,j.trans (p.below j.size)⟩
def Dp.later{wr w2:oU}(h:Dp T w xs o wr)(j:Below wr wr w2):Dp T w xs o w2:=by obtain⟨A,c,p,l,i⟩:=h;exact⟨A,c,p,AU l j,i.trans (j.mono i.size)⟩
def Dp.arr{C:Type}{E:C->oV}{wr:oU}{l:List C}(h:Dp T w (l.map E) o wr)(J:l.length<=4611686018427387904):BH E wr o l:=by
 obtain⟨A,c,rfl,i,U⟩:=h;rw[lM]at i ⊢;refine⟨⟨A,c,rfl,fun k x j=>?_⟩,J,fun P n' R e=>?_⟩
 ·rcases Bj i with⟨e,h0⟩|⟨b,cap,e,I,t,p,_⟩
  ·have:=(sG.1 j).1
   omega
  ·cases e
   have hk:=(sG.1 j).1;refine⟨b,0,rfl,t,?_⟩;rw[Nat.zero_add,Bh i k nX,pG,j];rfl
 ·cases e
  rcases Bj i with⟨e,h0⟩|⟨b,cap,e,I,t,p,_⟩
  ·simp only[Value.slice.injEq]at e
   exact⟨nX,fun _=>e.2.2⟩
  ·cases e
   exact⟨p,fun e=>by cases e⟩
def Lu(T:TypeId)(u:oV)(i:u.oneCell'=true)(y:oU):Be (y.alloc (oP #[u] T)) (oG (y,0) 1 1) 1 1 [u]:=
 Be.Aj (c:=1) (cs:=[u]) (Ah.new y T _) rfl (fun x j=>by rw[mS.1 j];exact i)
def Zl(T:TypeId)(u:oV)(i:u.oneCell'=true)(y:oU)(o:Obj):Be ((y.alloc o).alloc (oP #[u] T)) (oG (y.heap.size+1,0) 1 1) 1 1 [u]:=by have h:=Lu T u i (y.alloc o);rwa [show (y.alloc o).heap.size=y.heap.size+1 by simp]at h
def Eb(l:List Ru)(s:Int)(k:Nat):List Int:=((List.range k).filter fun i=>(l[i]?.map (Gm.left s)).getD false).map Int.ofNat
def NZ(i:l[k]?=oM r):Eb l s (k+1)=Eb l s k++(if r.left=s then[(k:Int)] else[]):=by
 unfold Eb;rw[List.range_succ,List.filter_append,BB];congr 1;by_cases h:r.left=s
 ·simp[List.filter,i,Gm.left,h]
 ·have j:(r.left==s)=false:=by simp[h]
  simp[List.filter,i,Gm.left,h,j]
def U0(i:l[k]?=oM r)(h:r.left=s):Eb l s (k+1)=Eb l s k++[(k:Int)]:=by rw[NZ i,if_pos h]
def UM(i:l[k]?=oM r)(h:¬r.left=s):Eb l s (k+1)=Eb l s k:=by rw[NZ i,if_neg h,List.append_nil]
def Xz(l:List Ru)(s:Int)(k:Nat):(Eb l s k).length<=k:=by unfold Eb;rw[lM];have:=List.length_filter_le (fun i=>(l[i]?.map (Gm.left s)).getD false) (List.range k);rwa [List.length_range]at this
def aV(w:oU)(v:oV)(xs:List Int)(e:Ending)(w':oU):Prop:=∃o,e=oQ o/\Dp 3 (w.alloc (oP v.cells 47)) (xs.map B4) o w'
def Rh(h:Ev w v g)(s:Int):() 173 #[v,s] w (aV w v (Eb g.R s g.R.length)):=by
 have af:=h.small.2.2.2.2.1;have HG:=Hd (EE.new w 47 v);obtain⟨AT,cT,AN,cN,AR,cR,rfl,hT,hN,hR⟩:=h.open_;obtain⟨⟨A,c,hv,hc⟩,hs,a9⟩:=hR;cases hv
 have a5:=Hd hc;have ab:=Md;clear h hT hN a9 hc;generalize g.R=l at *;generalize g.T.length=nT at *;generalize g.N.length=nN at *;generalize g.s=gs at *;go_enter Tryz.func173,Tryz.ntmps173
 go_wp2;go_loopw [5,11] (fun aa a1 wr=>∃k:Nat,k<=l.length/\a1=oH oO k/\Dp 3 (w.alloc (oP #[oG AT nT cT,oG AN nN cN,oG AR l.length cR,gs] 47)) ((Eb l s k).map B4) aa wr) (fun _ a1 _=>l.length-(intOf a1).toNat)
 case atStart=>exact⟨0,AX _,rfl,Dp.nil _ _⟩
 case round=>
  obtain⟨k,hk,rfl,A,oc,rfl,ho,p⟩:=hrel;have P:=Hd ho;have o:=Hd p;have a4:=p.size;have ae:=Xz l s k;have ad:w.heap.size<wr.heap.size:=by simp at a4;omega
  by_cases a7:k<l.length
  ·have j:=eG a7
   generalize l[k]=r at j;obtain⟨b,off,hA,a2,h1,T,h3⟩:=a5 k r j;subst hA;obtain⟨⟨RA,rc,a3,_⟩,_⟩:=h3;rw[a3]at T;have U:Below w w wr:=(AG w _).trans (p.mono oA);have e1:=(U.cell (p:=(b,off+k*2)) a2).trans h1;have e2:=(U.cell (p:=(b,off+k*2+1)) a2).trans T;have R:=Hd (fun e=>U0 (s:=s) j e);have J:=Hd (fun e=>UM (s:=s) j e);clear h1 T j ho p U a3;generalize r.left=t at *;generalize r.right.length=rn at *;by_cases i:t=s
   ·have a8:(t==s)=true:=by simp[i]
    have R:=Hd (R i);have HS:=Hd (Zl 3 k rfl);clear i;generalize a0:(Eb l s k).map B4=C at *;have ag:C.length<=1048576:=by rw[<-a0,lM];omega
    have a6:=Hd a0;clear a0;go_wp2_with (at_builtin;refine DC Md (.tmp 20) (.tmp 22) rfl rfl (base:=(w.alloc (oP #[oG AT nT cT,oG AN nN cN,oG (b,off) l.length cR,gs] 47)).heap.size) (n:=C.length) (m:=1) (N:=C.length+1) (xs:=C) (news:=[oH oO k]) rfl rfl ((P.alloc _).alloc _) (HS _ _) rfl oB nX (by simp at a4 ⊢;omega) ?_;intro A2 c2 w2 r1 r2 r3;have I:=Hd (MF (o.trans (((AG _ _).trans ((AG _ _).mono oA)).mono o.size)) rfl r1 r2);clear r1 r2 r3)
    go_roundw
    case rel=>exact⟨k+1,nX,oD,by rw[R.out,BB,a6.out];exact I⟩
    case measure=>simp[intOf];omega
   ·have a8:(t==s)=false:=by simp[i]
    have J:=Hd (J i);have I:=Hd (Dp.later ⟨A,oc,rfl,P,o⟩ (AG _ (oP #[t,oG RA rn rc] 113)));clear i;go_wp2;go_roundw
    case rel=>exact⟨k+1,nX,oD,by rw[J.out];exact I⟩
    case measure=>simp[intOf];omega
  ·obtain rfl:k=l.length:=by omega
   go_wp2;go_ret;exact⟨_,rfl,A,oc,rfl,P,o⟩
