/- IndexFunc. -/
import Derived.Test.YthaacmablcpdfaaGreatDoorZae
import Derived.Shelf.Abstract
import Derived.Test.YthaacmablcpdfaaGreatDoorNm
namespace Go.Proofs.YthaacmablcpdfaaGreatDoor
open Go.RowKit
set_option linter.unusedVariables false
theorem not_so{α:Type}{p:α→Bool}{l:List α}{k:Nat}{x:α}(hx:l[k]?=some x)(hp:p x=false)(hA:∀j y,j<k→l[j]?=some y→p y=false):∀j y,j<k+1→l[j]?=some y→p y=false:=by
 intro j y hj hy;by_cases e:j=k
 ·subst e
  rw[hx]at hy;cases hy
  exact hp
 ·exact hA j y (by omega) hy
set_option maxRecDepth 100000 in
set_option maxHeartbeats 2000000 in
theorem idxS_any{w:World}{v:Value}{l:List ByteArray}(H:Arr StrV w v l)(p:ByteArray→Bool)(g:Nat)(lb:Array Value)(eg:∀args y,(callFunc g args).run Tryz.prog y=.ok (.enter g args) y)
  (hp:∀x∈l,∀y,Below w.heap.size w y→Calls Tryz.prog g (#[StrV x]++lb) y (Says y (p x))) :
  Calls Tryz.prog 181 #[v,.func (.func g) #[] lb] w fun e w'=>e=.returned (.int .i64 (idxL p l))∧Below w.heap.size w w':=by
 obtain⟨⟨A,c,rfl,hc⟩,hs⟩:=H;have HC:=Hd hc;have HP:=Hd hp;clear hc hp;go_enter Tryz.func181,Tryz.ntmps181
 go_wp2;go_loopw [5,8] (fun _ i wr=>∃k:Nat,k≤l.length∧i=.int .i64 k∧Hid (∀j y,j<k→l[j]?=some y→p y=false)∧Hid (Below w.heap.size w wr)) (fun _ i _=>l.length-(intOf i).toNat)
 case atStart=>exact⟨0,zeL _,rfl,Hd (fun j y hj=>absurd hj (Nat.not_lt_zero _)),Hd (Below.refl _ w)⟩
 case round=>
  obtain⟨k,hk,rfl,HA,HB⟩:=hrel;by_cases hlt:k<l.length
  ·have hx:=eG hlt
   generalize l[k]=x at hx;have hm:=mG hx;obtain⟨b,off,rfl,hlt0,hcell⟩:=HC.out k x hx;have hcw:=(HB.out.cell (p:=⟨b,off+k,none⟩) hlt0).trans hcell;have HCALL:=Hd (HP.out x hm wr HB.out);simp only[StrV]at *;have HX:=Hd hx;clear hx hcell hm;cases hq:p x with
   | true=>
    rw[hq]at HCALL;have HI:=Hd (idxL_hit HX.out hq HA.out);clear hq;go_wp2_with (go_at_fn g;refine HCALL.out.mono ?_;rintro e w' ⟨rfl,hb'⟩;have HB':=Hd (HB.out.trans (hb'.mono HB.out.size));clear hb')
    go_ret;exact⟨by rw[HI.out];rfl,HB'.out⟩
   | false=>
    rw[hq]at HCALL;have HN:=Hd (not_so HX.out hq HA.out);clear hq;go_wp2_with (go_at_fn g;refine HCALL.out.mono ?_;rintro e w' ⟨rfl,hb'⟩;have HB':=Hd (HB.out.trans (hb'.mono HB.out.size));clear hb')
    go_roundw
    case rel=>exact⟨k+1,by omega,by go_num,HN,HB'⟩
    case measure=>simp[intOf];omega
  ·obtain rfl:k=l.length:=by omega
   have HI:=Hd (idxL_miss HA.out);go_wp2;go_ret;exact⟨by rw[HI.out];rfl,HB.out⟩
theorem conS_any{w:World}{v:Value}{l:List ByteArray}(H:Arr StrV w v l)(p:ByteArray→Bool)(g:Nat)(lb:Array Value)(eg:∀args y,(callFunc g args).run Tryz.prog y=.ok (.enter g args) y)
  (hp:∀x∈l,∀y,Below w.heap.size w y→Calls Tryz.prog g (#[StrV x]++lb) y (Says y (p x))) :
  Calls Tryz.prog 128 #[v,.func (.func g) #[] lb] w (Says w (l.any p)):=by
 have HI:=Hd (idxS_any H p g lb eg hp);have HE:=Hd (idxL_any p l);generalize l.any p=a at *;generalize idxL p l=n at *;clear H hp;go_enter Tryz.func128,Tryz.ntmps128
 go_wp2_with fail
 refine HI.out.mono ?_;rintro e w' ⟨rfl,hb⟩;have HB:=Hd hb;clear hb;go_wp2;go_ret;exact⟨ret_bool (by rw[←HE.out]),HB.out⟩
theorem allSq_any(g:Nat)(lb:Array Value)(eg:∀args y,(callFunc g args).run Tryz.prog y=.ok (.enter g args) y)(x:ByteArray)(b:Bool)(B:Nat)(w:World)(hcell:w.cell? ⟨B,0,none⟩=some (.func (.func g) #[] lb))
  (hp:∀y,Below w.heap.size w y→Calls Tryz.prog g (#[StrV x]++lb) y (Says y b)):Calls Tryz.prog 129 #[StrV x,.pointer (some ⟨B,0,none⟩)] w (Says w (!b)):=by
 have HC:=Hd (hp w (Below.refl _ w));clear hp;simp only[StrV]at *;go_enter Tryz.func129,Tryz.ntmps129
 go_wp2_with (go_at_fn g;refine HC.out.mono ?_;rintro e w' ⟨rfl,hb'⟩;have HB':=Hd hb';clear hb')
 go_ret;exact⟨rfl,HB'.out⟩
theorem allS_any{w:World}{v:Value}{l:List ByteArray}(H:Arr StrV w v l)(p:ByteArray→Bool)(g:Nat)(lb:Array Value)(eg:∀args y,(callFunc g args).run Tryz.prog y=.ok (.enter g args) y)
  (hp:∀x∈l,∀y,Below w.heap.size w y→Calls Tryz.prog g (#[StrV x]++lb) y (Says y (p x))) :
  Calls Tryz.prog 74 #[v,.func (.func g) #[] lb] w (Says w (l.all p)):=by
 have HC:=Hd (fun(o:Obj)=>conS_any (H.later ((Below.refl _ w).alloc (leR _) o)) (fun x=>!p x) 129 #[.pointer (some ⟨w.heap.size,0,none⟩)] (fun _ _=>by kernel_rfl));have HQ:Hid (∀t,∀x∈l,∀y,Below (w.alloc (.cells #[.func (.func g) #[] lb] t)).heap.size (w.alloc (.cells #[.func (.func g) #[] lb] t)) y→Calls Tryz.prog 129 (#[StrV x]++#[.pointer (some ⟨w.heap.size,0,none⟩)]) y (Says y (!p x))):=Hd (by
  intro t x hx y hy;refine allSq_any g lb eg x (p x) w.heap.size y ?_ (fun z hz=>hp x hx z ?_)
  ·exact(hy.cell (p:=⟨w.heap.size,0,none⟩) (by simp)).trans ((Blk.new w t _).cell 0)
  ·exact below_alloc_trans (hy.trans (hz.mono hy.size)))
 have HN:=Hd (all_not_any p l);clear H hp;generalize l.all p=b at *;go_enter Tryz.func74,Tryz.ntmps74
 go_wp2_with fail
 refine(HC.out _ (HQ.out _)).mono ?_;rintro e w' ⟨rfl,hb⟩;have HB:=Hd (below_alloc_trans hb);clear hb;go_wp2;go_ret;exact⟨ret_bool HN.out,HB.out⟩
set_option maxRecDepth 100000 in
set_option maxHeartbeats 2000000 in
theorem idxI_any{w:World}{v:Value}{l:List Int}(H:Arr IntV w v l)(p:Int→Bool)(g:Nat)(lb:Array Value)(eg:∀args y,(callFunc g args).run Tryz.prog y=.ok (.enter g args) y)
  (hp:∀x∈l,∀y,Below w.heap.size w y→Calls Tryz.prog g (#[IntV x]++lb) y (Says y (p x))) :
  Calls Tryz.prog 209 #[v,.func (.func g) #[] lb] w fun e w'=>e=.returned (.int .i64 (idxL p l))∧Below w.heap.size w w':=by
 obtain⟨⟨A,c,rfl,hc⟩,hs⟩:=H;have HC:=Hd hc;have HP:=Hd hp;clear hc hp;go_enter Tryz.func209,Tryz.ntmps209
 go_wp2;go_loopw [5,8] (fun _ i wr=>∃k:Nat,k≤l.length∧i=.int .i64 k∧Hid (∀j y,j<k→l[j]?=some y→p y=false)∧Hid (Below w.heap.size w wr)) (fun _ i _=>l.length-(intOf i).toNat)
 case atStart=>exact⟨0,zeL _,rfl,Hd (fun j y hj=>absurd hj (Nat.not_lt_zero _)),Hd (Below.refl _ w)⟩
 case round=>
  obtain⟨k,hk,rfl,HA,HB⟩:=hrel;by_cases hlt:k<l.length
  ·have hx:=eG hlt
   generalize l[k]=x at hx;have hm:=mG hx;obtain⟨b,off,rfl,hlt0,hcell⟩:=HC.out k x hx;have hcw:=(HB.out.cell (p:=⟨b,off+k,none⟩) hlt0).trans hcell;have HCALL:=Hd (HP.out x hm wr HB.out);simp only[IntV]at *;have HX:=Hd hx;clear hx hcell hm;cases hq:p x with
   | true=>
    rw[hq]at HCALL;have HI:=Hd (idxL_hit HX.out hq HA.out);clear hq;go_wp2_with (go_at_fn g;refine HCALL.out.mono ?_;rintro e w' ⟨rfl,hb'⟩;have HB':=Hd (HB.out.trans (hb'.mono HB.out.size));clear hb')
    go_ret;exact⟨by rw[HI.out];rfl,HB'.out⟩
   | false=>
    rw[hq]at HCALL;have HN:=Hd (not_so HX.out hq HA.out);clear hq;go_wp2_with (go_at_fn g;refine HCALL.out.mono ?_;rintro e w' ⟨rfl,hb'⟩;have HB':=Hd (HB.out.trans (hb'.mono HB.out.size));clear hb')
    go_roundw
    case rel=>exact⟨k+1,by omega,by go_num,HN,HB'⟩
    case measure=>simp[intOf];omega
  ·obtain rfl:k=l.length:=by omega
   have HI:=Hd (idxL_miss HA.out);go_wp2;go_ret;exact⟨by rw[HI.out];rfl,HB.out⟩
theorem conI_any{w:World}{v:Value}{l:List Int}(H:Arr IntV w v l)(p:Int→Bool)(g:Nat)(lb:Array Value)(eg:∀args y,(callFunc g args).run Tryz.prog y=.ok (.enter g args) y)
  (hp:∀x∈l,∀y,Below w.heap.size w y→Calls Tryz.prog g (#[IntV x]++lb) y (Says y (p x))) :
  Calls Tryz.prog 187 #[v,.func (.func g) #[] lb] w (Says w (l.any p)):=by
 have HI:=Hd (idxI_any H p g lb eg hp);have HE:=Hd (idxL_any p l);generalize l.any p=a at *;generalize idxL p l=n at *;clear H hp;go_enter Tryz.func187,Tryz.ntmps187
 go_wp2_with fail
 refine HI.out.mono ?_;rintro e w' ⟨rfl,hb⟩;have HB:=Hd hb;clear hb;go_wp2;go_ret;exact⟨ret_bool (by rw[←HE.out]),HB.out⟩
theorem allIq_any(g:Nat)(lb:Array Value)(eg:∀args y,(callFunc g args).run Tryz.prog y=.ok (.enter g args) y)(x:Int)(b:Bool)(B:Nat)(w:World)(hcell:w.cell? ⟨B,0,none⟩=some (.func (.func g) #[] lb))
  (hp:∀y,Below w.heap.size w y→Calls Tryz.prog g (#[IntV x]++lb) y (Says y b)):Calls Tryz.prog 188 #[IntV x,.pointer (some ⟨B,0,none⟩)] w (Says w (!b)):=by
 have HC:=Hd (hp w (Below.refl _ w));clear hp;simp only[IntV]at *;go_enter Tryz.func188,Tryz.ntmps188
 go_wp2_with (go_at_fn g;refine HC.out.mono ?_;rintro e w' ⟨rfl,hb'⟩;have HB':=Hd hb';clear hb')
 go_ret;exact⟨rfl,HB'.out⟩
theorem allI_any{w:World}{v:Value}{l:List Int}(H:Arr IntV w v l)(p:Int→Bool)(g:Nat)(lb:Array Value)(eg:∀args y,(callFunc g args).run Tryz.prog y=.ok (.enter g args) y)
  (hp:∀x∈l,∀y,Below w.heap.size w y→Calls Tryz.prog g (#[IntV x]++lb) y (Says y (p x))) :
  Calls Tryz.prog 133 #[v,.func (.func g) #[] lb] w (Says w (l.all p)):=by
 have HC:=Hd (fun(o:Obj)=>conI_any (H.later ((Below.refl _ w).alloc (leR _) o)) (fun x=>!p x) 188 #[.pointer (some ⟨w.heap.size,0,none⟩)] (fun _ _=>by kernel_rfl));have HQ:Hid (∀t,∀x∈l,∀y,Below (w.alloc (.cells #[.func (.func g) #[] lb] t)).heap.size (w.alloc (.cells #[.func (.func g) #[] lb] t)) y→Calls Tryz.prog 188 (#[IntV x]++#[.pointer (some ⟨w.heap.size,0,none⟩)]) y (Says y (!p x))):=Hd (by
  intro t x hx y hy;refine allIq_any g lb eg x (p x) w.heap.size y ?_ (fun z hz=>hp x hx z ?_)
  ·exact(hy.cell (p:=⟨w.heap.size,0,none⟩) (by simp)).trans ((Blk.new w t _).cell 0)
  ·exact below_alloc_trans (hy.trans (hz.mono hy.size)))
 have HN:=Hd (all_not_any p l);clear H hp;generalize l.all p=b at *;go_enter Tryz.func133,Tryz.ntmps133
 go_wp2_with fail
 refine(HC.out _ (HQ.out _)).mono ?_;rintro e w' ⟨rfl,hb⟩;have HB:=Hd (below_alloc_trans hb);clear hb;go_wp2;go_ret;exact⟨ret_bool HN.out,HB.out⟩
set_option maxRecDepth 100000 in
set_option maxHeartbeats 2000000 in
theorem idxR_any{w:World}{v:Value}{l:List Ru}(H:Rul w v l)(p:Ru→Bool)(g:Nat)(lb:Array Value)(eg:∀args y,(callFunc g args).run Tryz.prog y=.ok (.enter g args) y)
  (hp:∀x∈l,∀y,Below w.heap.size w y→Calls Tryz.prog g (#[RuV x]++lb) y (Says y (p x))) :
  Calls Tryz.prog 180 #[v,.func (.func g) #[] lb] w fun e w'=>e=.returned (.int .i64 (idxL p l))∧Below w.heap.size w w':=by
 obtain⟨⟨A,c,rfl,hc⟩,hs⟩:=H;have HC:=Hd hc;have HP:=Hd hp;clear hc hp;go_enter Tryz.func180,Tryz.ntmps180
 go_wp2;go_loopw [5,8] (fun _ i wr=>∃k:Nat,k≤l.length∧i=.int .i64 k∧Hid (∀j y,j<k→l[j]?=some y→p y=false)∧Hid (Below w.heap.size w wr)) (fun _ i _=>l.length-(intOf i).toNat)
 case atStart=>exact⟨0,zeL _,rfl,Hd (fun j y hj=>absurd hj (Nat.not_lt_zero _)),Hd (Below.refl _ w)⟩
 case round=>
  obtain⟨k,hk,rfl,HA,HB⟩:=hrel;by_cases hlt:k<l.length
  ·have hx:=eG hlt
   generalize l[k]=x at hx;have hm:=mG hx;obtain⟨b,off,rfl,hlt0,hcell,hcell2,_⟩:=HC.out k x hx;have hcw:=(HB.out.cell (p:=⟨b,off+k*2,none⟩) hlt0).trans hcell;have hcw2:=(HB.out.cell (p:=⟨b,off+k*2+1,none⟩) hlt0).trans hcell2;have HCALL:=Hd (HP.out x hm wr HB.out);simp only[RuV]at *;have HX:=Hd hx;clear hx hcell hm;cases hq:p x with
   | true=>
    rw[hq]at HCALL;have HI:=Hd (idxL_hit HX.out hq HA.out);clear hq;go_wp2_with (go_at_fn g;refine HCALL.out.mono ?_;rintro e w' ⟨rfl,hb'⟩;have HB':=Hd (HB.out.trans (hb'.mono HB.out.size));clear hb')
    go_ret;exact⟨by rw[HI.out];rfl,HB'.out⟩
   | false=>
    rw[hq]at HCALL;have HN:=Hd (not_so HX.out hq HA.out);clear hq;go_wp2_with (go_at_fn g;refine HCALL.out.mono ?_;rintro e w' ⟨rfl,hb'⟩;have HB':=Hd (HB.out.trans (hb'.mono HB.out.size));clear hb')
    go_roundw
    case rel=>exact⟨k+1,by omega,by go_num,HN,HB'⟩
    case measure=>simp[intOf];omega
  ·obtain rfl:k=l.length:=by omega
   have HI:=Hd (idxL_miss HA.out);go_wp2;go_ret;exact⟨by rw[HI.out];rfl,HB.out⟩
theorem conR_any{w:World}{v:Value}{l:List Ru}(H:Rul w v l)(p:Ru→Bool)(g:Nat)(lb:Array Value)(eg:∀args y,(callFunc g args).run Tryz.prog y=.ok (.enter g args) y)
  (hp:∀x∈l,∀y,Below w.heap.size w y→Calls Tryz.prog g (#[RuV x]++lb) y (Says y (p x))) :
  Calls Tryz.prog 126 #[v,.func (.func g) #[] lb] w (Says w (l.any p)):=by
 have HI:=Hd (idxR_any H p g lb eg hp);have HE:=Hd (idxL_any p l);generalize l.any p=a at *;generalize idxL p l=n at *;clear H hp;go_enter Tryz.func126,Tryz.ntmps126
 go_wp2_with fail
 refine HI.out.mono ?_;rintro e w' ⟨rfl,hb⟩;have HB:=Hd hb;clear hb;go_wp2;go_ret;exact⟨ret_bool (by rw[←HE.out]),HB.out⟩
theorem allRq_any(g:Nat)(lb:Array Value)(eg:∀args y,(callFunc g args).run Tryz.prog y=.ok (.enter g args) y)(x:Ru)(b:Bool)(B:Nat)(w:World)(hcell:w.cell? ⟨B,0,none⟩=some (.func (.func g) #[] lb))
  (hp:∀y,Below w.heap.size w y→Calls Tryz.prog g (#[RuV x]++lb) y (Says y b)):Calls Tryz.prog 127 #[RuV x,.pointer (some ⟨B,0,none⟩)] w (Says w (!b)):=by
 have HP:=Hd hp;clear hp;have hB:B<w.heap.size:=World.block_lt_of_cell? w _ hcell;simp only[RuV]at *;go_enter Tryz.func127,Tryz.ntmps127
 go_wp2_with (go_at_fn g;refine(HP.out _ ((Below.refl _ w).alloc (leR _) _)).mono ?_;rintro e w' ⟨rfl,hb'⟩;have HB':=Hd (below_alloc_trans hb');clear hb')
 go_ret;exact⟨rfl,HB'.out⟩
theorem allR_any{w:World}{v:Value}{l:List Ru}(H:Rul w v l)(p:Ru→Bool)(g:Nat)(lb:Array Value)(eg:∀args y,(callFunc g args).run Tryz.prog y=.ok (.enter g args) y)
  (hp:∀x∈l,∀y,Below w.heap.size w y→Calls Tryz.prog g (#[RuV x]++lb) y (Says y (p x))) :
  Calls Tryz.prog 73 #[v,.func (.func g) #[] lb] w (Says w (l.all p)):=by
 have HC:=Hd (fun(o:Obj)=>conR_any (H.later ((Below.refl _ w).alloc (leR _) o)) (fun x=>!p x) 127 #[.pointer (some ⟨w.heap.size,0,none⟩)] (fun _ _=>by kernel_rfl));have HQ:Hid (∀t,∀x∈l,∀y,Below (w.alloc (.cells #[.func (.func g) #[] lb] t)).heap.size (w.alloc (.cells #[.func (.func g) #[] lb] t)) y→Calls Tryz.prog 127 (#[RuV x]++#[.pointer (some ⟨w.heap.size,0,none⟩)]) y (Says y (!p x))):=Hd (by
  intro t x hx y hy;refine allRq_any g lb eg x (p x) w.heap.size y ?_ (fun z hz=>hp x hx z ?_)
  ·exact(hy.cell (p:=⟨w.heap.size,0,none⟩) (by simp)).trans ((Blk.new w t _).cell 0)
  ·exact below_alloc_trans (hy.trans (hz.mono hy.size)))
 have HN:=Hd (all_not_any p l);clear H hp;generalize l.all p=b at *;go_enter Tryz.func73,Tryz.ntmps73
 go_wp2_with fail
 refine(HC.out _ (HQ.out _)).mono ?_;rintro e w' ⟨rfl,hb⟩;have HB:=Hd (below_alloc_trans hb);clear hb;go_wp2;go_ret;exact⟨ret_bool HN.out,HB.out⟩
end Go.Proofs.YthaacmablcpdfaaGreatDoor
