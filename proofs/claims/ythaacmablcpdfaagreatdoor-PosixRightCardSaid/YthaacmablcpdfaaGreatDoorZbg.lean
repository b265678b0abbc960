/- A number in a row of numbers. Whether a row of names is among those that have. The builder. The builder. The builder. The first symbol of a name. What is read is short. A symbol's name. Symbols and rules. Whether two grammars are the same. -/
import Derived.Test.YthaacmablcpdfaaGreatDoorZbd
import Derived.Test.YthaacmablcpdfaaGreatDoorZbf
import Derived.Shelf.Abstract
import Derived.Test.YthaacmablcpdfaaGreatDoorZbe
import Derived.Test.YthaacmablcpdfaaGreatDoorZak
import Derived.Deep.RegionLaw
import Derived.BigRegion
import Derived.Test.YthaacmablcpdfaaGreatDoorNm
namespace Go.Proofs.YthaacmablcpdfaaGreatDoor
open Go.RowKit
set_option linter.unusedVariables false
set_option maxRecDepth 100000
set_option maxHeartbeats 1600000 in
theorem index_any{w:World}{v:Value}{l:List Nat}(h:Nums w v l)(hl:l.length≤1000000)(s:Nat) :
  Calls Tryz.prog 116 #[v,.int .i64 s] w fun e w'=>∃r:Int,e=.returned (.int .i64 r)∧(0≤r↔s∈l)∧w'=w:=by
 obtain⟨⟨Ad,c,rfl,hcc⟩,-,-⟩:=h;obtain⟨n,hn⟩:∃n,l.length=n:=⟨_,rfl⟩
 have HC:=Hd hcc;have HN:=Hd hn;rw[hn]at hl ⊢;clear hcc hn;go_enter Tryz.func116,Tryz.ntmps116
 go_wp2_with fail
 go_loopw [8] (fun ii wr=>∃k:Nat,k≤n∧ii=.int .i64 k∧Hid (wr=w∧∀j,j<k→l[j]?≠some s)) (fun ii _=>n-(intOf ii).toNat)
 case atStart=>exact⟨0,zeL _,rfl,Hd ⟨rfl,fun j hj=>by omega⟩⟩
 case round=>
  obtain⟨k,hk,rfl,HB⟩:=hrel;obtain⟨hw,hb⟩:=HB.out;have hw2:=hw.symm;subst hw2;clear hw;have HH:=Hd hb;clear hb HB;by_cases hlt:k<n
  ·obtain⟨x,hx⟩:∃x,l[k]?=some x:=⟨_,eG (by rw[HN.out];exact hlt)⟩
   obtain⟨b,off,rfl,hb0,d0⟩:=HC.out k x hx;unfold NatV at d0;have HX:=Hd hx;clear hx;by_cases hq:x=s
   ·have hq1:((s:Int)==(x:Int))=true:=by rw[hq];simp
    have HQ:=Hd hq;clear hq;go_wp2_with fail
    go_ret;exact⟨_,rfl,⟨fun _=>mG (by rw[←HQ.out];exact HX.out),fun _=>by omega⟩,rfl⟩
   ·have hq1:((s:Int)==(x:Int))=false:=by rw[bN];omega
    have HQ:=Hd hq;clear hq;go_wp2_with fail
    go_roundw
    case rel=>exact⟨k+1,by omega,by go_num,Hd ⟨trivial,fun j hj=>by
     by_cases e:j=k
     ·rw[e,HX.out]
      intro h;exact HQ.out (Option.some.inj h)
     ·exact HH.out j (by omega)⟩⟩
    case measure=>simp[intOf];omega
  ·obtain rfl:k=n:=by omega
   go_wp2_with fail
   go_ret;refine⟨_,rfl,⟨fun h=>by omega,fun h=>?_⟩,rfl⟩;obtain⟨j,hj,e⟩:=List.mem_iff_getElem.1 h;exact absurd (by rw[eG hj,e]) (HH.out j (by rw[←HN.out];exact hj))
theorem contains_any{w:World}{v:Value}{l:List Nat}(h:Nums w v l)(hl:l.length≤1000000)(s:Nat) :
  Calls Tryz.prog 64 #[v,.int .i64 s] w fun e w'=>e=.returned (.bool (decide (s∈l)))∧w'=w:=by
 have HI:=Hd (index_any h hl s);obtain⟨⟨Ad,c,rfl,hcc⟩,-,-⟩:=h;clear hcc;go_enter Tryz.func64,Tryz.ntmps64
 go_wp2_with (go_at_call 116;refine HI.out.mono ?_;rintro e w' ⟨r,rfl,hr,rfl⟩;have HR:=Hd hr;clear hr)
 go_ret;refine⟨?_,rfl⟩;exact congrArg (fun b=>Ending.returned (.bool b)) (decide_eq_decide.2 HR.out)
end Go.Proofs.YthaacmablcpdfaaGreatDoor
namespace Go.Proofs.YthaacmablcpdfaaGreatDoor
open Go.RowKit Go.Maps
set_option linter.unusedVariables false
theorem sideq_any{w:World}{B1 B2:Nat}{p:Addr}{u v:Value}{a b:List Nme}(ha:w.ownsRow B1 9 1 u a.length (a.map Nv))(hb:w.ownsRow B2 9 1 v b.length (b.map Nv))(hp:w.cell? p=some u):Calls Tryz.prog 177 #[v,.pointer (some p)] w fun e w'=>e=.returned (.bool (a==b))∧∃q,w'=w.drewN q:=by
 have HE:=Hd (equalN_any ha hb);clear ha hb;go_enter Tryz.func177,Tryz.ntmps177
 go_wp2_with (go_at_call 178;refine HE.out.mono ?_;intro e w' hx;obtain⟨rfl,hq⟩:=hx)
 go_ret;exact⟨rfl,hq⟩
theorem none_so{α:Type}{p:α→Bool}{l:List α}{k:Nat}{x:α}(hx:l[k]?=some x)(hp:p x=false)(hA:∀j y,j<k→l[j]?=some y→p y=false):∀j y,j<k+1→l[j]?=some y→p y=false:=by
 intro j y hj hy;by_cases e:j=k
 ·subst e
  rw[hx]at hy;cases hy
  exact hp
 ·exact hA j y (by omega) hy
set_option maxRecDepth 100000 in
set_option maxHeartbeats 2000000 in
theorem idxN_any{w:World}{B:Nat}{v:Value}{l:List GNm}(H:w.ownsRow B 30 1 v l.length (l.map GNm.v))(p:List Nme→Bool)(g:Nat)(lb:Array Value)(eg:∀args y,(callFunc g args).run Tryz.prog y=.ok (.enter g args) y)
  (hp:∀x∈l,∀y,Below w.heap.size w y→Calls Tryz.prog g (#[x.v]++lb) y (fun e w'=>e=.returned (.bool (p x.l))∧Below y.heap.size y w')) :
  Calls Tryz.prog 208 #[v,.func (.func g) #[] lb] w fun e w'=>(∃i:Int,e=.returned (.int .i64 i)∧((∃x∈l,p x.l=true)∧0≤i∨(∀x∈l,p x.l=false)∧i = -1))∧Below w.heap.size w w':=by
 obtain⟨A,c,rfl⟩:=own_shape H;have hal:l.length≤9223372036854775807:=by
  rcases own_form H with⟨_,h0⟩|⟨_,c3,_,_,_,h1,h2,_⟩
  ·omega
  ·unfold maxLen at h2;omega
 have HC:=Hd (fun(h:0<l.length)=>row_cell H h);have HP:=Hd hp;clear H hp;go_enter Tryz.func208,Tryz.ntmps208
 go_wp2;go_loopw [5,8] (fun _ i wr=>∃k:Nat,k≤l.length∧i=.int .i64 k∧Hid (∀j y,j<k→l[j]?=some y→p y.l=false)∧Hid (Below w.heap.size w wr)) (fun _ i _=>l.length-(intOf i).toNat)
 case atStart=>exact⟨0,zeL _,rfl,Hd (fun j y hj=>absurd hj (Nat.not_lt_zero _)),Hd (Below.refl _ w)⟩
 case round=>
  obtain⟨k,hk,rfl,HA,HB⟩:=hrel;by_cases hlt:k<l.length
  ·have hx:=eG hlt
   generalize l[k]=x at hx;have hm:=mG hx;obtain⟨b,c2,e1,hcell⟩:=HC.out (by omega);cases e1
   have hcx:=hcell k x.v (by rw[pG,hx];rfl);have hcw:=(HB.out.cell (p:=⟨b,k,none⟩) (World.block_lt_of_cell? w _ hcx)).trans hcx;have HCALL:=Hd (HP.out x hm wr HB.out);have HX:=Hd hx;have HM:=Hd hm;clear hx hcell hm hcx HC;cases hq:p x.l with
   | true=>
    rw[hq]at HCALL;have HQ:=Hd hq;clear hq;go_wp2_with (go_at_fn g;refine HCALL.out.mono ?_;rintro e w' ⟨rfl,hb'⟩;have HB':=Hd (HB.out.trans (hb'.mono HB.out.size));clear hb')
    go_ret;exact⟨⟨_,rfl,.inl ⟨⟨x,HM.out,HQ.out⟩,by omega⟩⟩,HB'.out⟩
   | false=>
    rw[hq]at HCALL;have HN:=Hd (none_so (p:=fun y:GNm=>p y.l) HX.out hq HA.out);clear hq;go_wp2_with (go_at_fn g;refine HCALL.out.mono ?_;rintro e w' ⟨rfl,hb'⟩;have HB':=Hd (HB.out.trans (hb'.mono HB.out.size));clear hb')
    go_roundw
    case rel=>exact⟨k+1,by omega,by go_num,HN,HB'⟩
    case measure=>simp[intOf];omega
  ·obtain rfl:k=l.length:=by omega
   have HI:Hid (∀x∈l,p x.l=false):=Hd (fun x hx=>by obtain⟨j,hj⟩:=List.mem_iff_getElem?.1 hx;exact HA.out j x (sG.1 hj).1 hj)
   go_wp2;go_ret;exact⟨⟨_,rfl,.inr ⟨HI.out,rfl⟩⟩,HB.out⟩
theorem conN_any{w:World}{B:Nat}{v:Value}{l:List GNm}(H:w.ownsRow B 30 1 v l.length (l.map GNm.v))(p:List Nme→Bool)(g:Nat)(lb:Array Value)(eg:∀args y,(callFunc g args).run Tryz.prog y=.ok (.enter g args) y)
  (hp:∀x∈l,∀y,Below w.heap.size w y→Calls Tryz.prog g (#[x.v]++lb) y (fun e w'=>e=.returned (.bool (p x.l))∧Below y.heap.size y w')) :
  Calls Tryz.prog 176 #[v,.func (.func g) #[] lb] w fun e w'=>e=.returned (.bool ((l.map GNm.l).any p))∧Below w.heap.size w w':=by
 have HI:=Hd (idxN_any H p g lb eg hp);obtain⟨A,c,rfl⟩:=own_shape H;clear H hp eg;generalize l.length=n at *;have HYES:Hid ((∃x∈l,p x.l=true)→(l.map GNm.l).any p=true):=Hd (fun⟨x,h1,h2⟩=>by rw[List.any_eq_true];exact⟨x.l,List.mem_map_of_mem h1,h2⟩);have HNO:Hid ((∀x∈l,p x.l=false)→(l.map GNm.l).any p=false):=Hd (fun h=>by rw[List.any_eq_false];intro y hy;obtain⟨x,hx,rfl⟩:=List.mem_map.1 hy;rw[h x hx];simp);go_enter Tryz.func176,Tryz.ntmps176
 go_wp2_with (go_at_call 208;refine HI.out.mono ?_;intro e w' hx;obtain⟨⟨i,rfl,hi⟩,hb⟩:=hx;have HIX:=Hd hi;have HB:=Hd hb;clear hi hb)
 go_ret;refine⟨ret_bool ?_,HB.out⟩;rcases HIX.out with⟨h1,h2⟩|⟨h1,rfl⟩
 ·rw[HYES.out h1];simpa using h2
 ·rw[HNO.out h1];rfl
theorem BAt.past{X:Nat→Prop}{w0 w w':World}{bb tm nm rb:Nat}{tv nv gv:Value}{b:Bd}{gs:List GNm}{DT DN:DataW Unit}(h:BAt w0 w bb tm nm rb tv nv gv b gs DT DN)(hc:Chg X w w')(h0:∀k,k<w0.heap.size→¬X k)
  (hb:¬X bb) (hm:¬X tm) (hn:¬X nm) (ht:∀g,tv.ownBlock=some g→¬X g) (hv:∀g,nv.ownBlock=some g→¬X g) (hg:∀g,gv.ownBlock=some g→¬X g) (hq:∀q∈gs,∀g,q.v.ownBlock=some g→¬X g):BAt w0 w' bb tm nm rb tv nv gv b gs DT DN where
 below:=h.below.trans (hc.below h.below.size h0)
 blk:=hc.blk h.blk hb
 ft:=hc.own h.ft ht
 fn:=hc.own h.fn hv
 fg:=hc.own h.fg hg
 names:=h.names
 rows q hqq:=hc.own (h.rows q hqq) (hq q hqq)
 tn:=h.tn
 tr:=h.tr
 nr:=h.nr
 mt:=map_chg h.mt hc hm
 mn:=map_chg h.mn hc hn
 pt:=h.pt
 pn:=h.pn
 b0:=h.b0
 b1:=h.b1
 lt:=h.lt
 ln:=h.ln
 lr:=h.lr
def MineG(bb tm nm:Nat)(tv nv gv:Value)(k:Nat):Prop:=Mine bb tm nm tv nv k∨gv.ownBlock=some k
theorem Newer.mine{w:World}{bb tm nm:Nat}{tv nv tv' nv':Value}(h1:Newer w tv tv')(h2:Newer w nv nv'):∀i,i<w.heap.size→Mine bb tm nm tv' nv' i→Mine bb tm nm tv nv i:=by
 intro i hi h;rcases h with h|h|h|h|h
 ·exact .inl h
 ·exact .inr (.inl h)
 ·exact .inr (.inr (.inl h))
 ·rcases h1 i h with h|h
  ·exact .inr (.inr (.inr (.inl h)))
  ·omega
 ·rcases h2 i h with h|h
  ·exact .inr (.inr (.inr (.inr h)))
  ·omega
theorem Newer.next{w w1:World}{u v x:Value}(h1:Newer w u v)(h2:Newer w1 v x)(hs:w.heap.size≤w1.heap.size):Newer w u x:=by
 intro k hk;rcases h2 k hk with h|h
 ·exact h1 k h
 ·exact .inr (leT hs h)
structure SymsAt(w0 w:World)(bb tm nm rb:Nat)(tv0 nv0 gv:Value)(gs:List GNm)(xb sb:Nat)(sv:Value)(p:Nat)(left:Nme)(done:List Nme)(b:Bd)(tv nv xv:Value)(DT DN:DataW Unit)(wr:World):Prop where
 at_:BAt w0 wr bb tm nm rb tv nv gv b gs DT DN
 box:Blk wr xb 30 #[xv]
 sbox:Blk wr sb 211 #[sv,.int .i64 p]
 own:wr.ownsRow w.heap.size 9 1 xv (done.length+1) ((left::done).map Nv)
 xt:∀k,xv.ownBlock=some k→¬tv.ownBlock=some k
 xn:∀k,xv.ownBlock=some k→¬nv.ownBlock=some k
 chg:Chg (Mine bb tm nm tv0 nv0) w wr
 nt:Newer w tv0 tv
 nn:Newer w nv0 nv
 hx:w.heap.size≤xb
 hs:w.heap.size≤sb
 h0:w0.heap.size≤w.heap.size
 hg:∀k,gv.ownBlock=some k→k<w.heap.size
 hq:∀q∈gs,∀k,q.v.ownBlock=some k→k<w.heap.size
theorem mine_no{w0 w:World}{bb tm nm rb g:Nat}{tv nv gv:Value}{b:Bd}{gs:List GNm}{DT DN:DataW Unit}{t:TypeId}{cs:Array Value}(h:BAt w0 w bb tm nm rb tv nv gv b gs DT DN)(hb:Blk w g t cs)(h1:t≠144)(h2:t≠9):¬Mine bb tm nm tv nv g:=by
 rintro(rfl|rfl|rfl|hh|hh)
 ·exact Blk.ne_ hb h.blk h1 rfl
 ·exact map_blk h.mt hb rfl
 ·exact map_blk h.mn hb rfl
 ·exact row_blk h.ft hb (Ne.symm h2) hh
 ·exact row_blk h.fn hb (Ne.symm h2) hh
theorem mineG_no{w0 w:World}{bb tm nm rb g:Nat}{tv nv gv:Value}{b:Bd}{gs:List GNm}{DT DN:DataW Unit}{t:TypeId}{cs:Array Value}(h:BAt w0 w bb tm nm rb tv nv gv b gs DT DN)(hb:Blk w g t cs)(h1:t≠144)(h2:t≠9)(h3:t≠30):¬MineG bb tm nm tv nv gv g:=by
 rintro(hh|hh)
 ·exact mine_no h hb h1 h2 hh
 ·exact row_blk h.fg hb (Ne.symm h3) hh
namespace SymsAt
variable {w0 w wr:World} {bb tm nm rb:Nat} {tv0 nv0 gv:Value} {gs:List GNm} {xb sb:Nat} {sv:Value} {p:Nat} {left:Nme} {done:List Nme} {b:Bd} {tv nv xv:Value} {DT DN:DataW Unit}
theorem later(h:SymsAt w0 w bb tm nm rb tv0 nv0 gv gs xb sb sv p left done b tv nv xv DT DN wr){w':World}(hb:Below wr.heap.size wr w'):SymsAt w0 w bb tm nm rb tv0 nv0 gv gs xb sb sv p left done b tv nv xv DT DN w':=by have hc:Chg (fun _=>False) wr w':=.of_below hb;exact⟨h.at_.chg hc (fun _ _=>id),hc.blk h.box id,hc.blk h.sbox id,hc.own h.own (fun _ _=>id),h.xt,h.xn,h.chg.next (.of_below hb),h.nt,h.nn,h.hx,h.hs,h.h0,h.hg,h.hq⟩
theorem alloc(h:SymsAt w0 w bb tm nm rb tv0 nv0 gv gs xb sb sv p left done b tv nv xv DT DN wr)(o:Obj):SymsAt w0 w bb tm nm rb tv0 nv0 gv gs xb sb sv p left done b tv nv xv DT DN (wr.alloc o):=h.later (below_alloc wr o)
theorem drew(h:SymsAt w0 w bb tm nm rb tv0 nv0 gv gs xb sb sv p left done b tv nv xv DT DN wr):SymsAt w0 w bb tm nm rb tv0 nv0 gv gs xb sb sv p left done b tv nv xv DT DN wr.drew:=h.later (drew_below wr)
theorem sym(h:SymsAt w0 w bb tm nm rb tv0 nv0 gv gs xb sb sv p left done b tv nv xv DT DN wr){w2:World}{b':Bd}{tv' nv':Value}{DT' DN':DataW Unit}(ha:BAt w0 w2 bb tm nm rb tv' nv' gv b' gs DT' DN')(hc:Chg (Mine bb tm nm tv nv) wr w2)(ht:Newer wr tv tv')(hn:Newer wr nv nv') :
  SymsAt w0 w bb tm nm rb tv0 nv0 gv gs xb sb sv p left done b' tv' nv' xv DT' DN' w2:=by
 have hno:∀k,xv.ownBlock=some k→¬Mine bb tm nm tv nv k:=by
  rintro k hk (rfl|rfl|rfl|hh|hh)
  ·exact row_blk h.own h.at_.blk (by decide) hk
  ·exact map_apart h.at_.mt h.own hk
  ·exact map_apart h.at_.mn h.own hk
  ·exact h.xt k hk hh
  ·exact h.xn k hk hh
 have hsz:=h.chg.size;refine⟨ha,hc.blk h.box (mine_no h.at_ h.box (by decide) (by decide)),hc.blk h.sbox (mine_no h.at_ h.sbox (by decide) (by decide)),hc.own h.own hno,?_,?_,h.chg.trans hc (fun i hi=>h.nt.mine h.nn i hi),h.nt.next ht hsz,h.nn.next hn hsz,h.hx,h.hs,h.h0,h.hg,h.hq⟩
 ·intro k hk hh
  rcases ht k hh with e|e
  ·exact h.xt k hk e
  ·have:=(own_ge h.own k hk).2;omega
 ·intro k hk hh
  rcases hn k hh with e|e
  ·exact h.xn k hk e
  ·have:=(own_ge h.own k hk).2;omega
theorem app(h:SymsAt w0 w bb tm nm rb tv0 nv0 gv gs xb sb sv p left done b tv nv xv DT DN wr){w2:World}{o:Obj}{A2:Option Addr}{c2:Nat}{s:Nme}
  (ho:w2.ownsRow w.heap.size 9 1 (.slice A2 (done.length+1+1) c2) (done.length+1+1) ((left::done).map Nv++[Nv s]))
  (hg:(wr.alloc o).grownBy w2 xv.ownBlock∧((Value.slice A2 (done.length+1+1) c2).ownBlock=xv.ownBlock∨(Value.slice A2 (done.length+1+1) c2).ownBlock=some (wr.alloc o).heap.size)) :
  SymsAt w0 w bb tm nm rb tv0 nv0 gv gs xb sb sv p left (done++[s]) b tv nv (.slice A2 (done.length+1+1) c2) DT DN (w2.setCell ⟨xb,0,none⟩ (.slice A2 (done.length+1+1) c2)):=by
 have hX:Chg (fun k=>xv.ownBlock=some k) wr w2:=((Chg.refl _ wr).alloc o).next (.of_grown hg.1);have hY:Chg (fun k=>xv.ownBlock=some k∨k=xb) wr (w2.setCell ⟨xb,0,none⟩ (.slice A2 (done.length+1+1) c2)):=(hX.mono (fun i hi=>.inl hi)).set (p:=⟨xb,0,none⟩) (.inr (.inr rfl)) _;have hge:∀k,xv.ownBlock=some k→w.heap.size≤k∧k<wr.heap.size:=fun k hk=>own_ge h.own k hk
 have hxb:=h.box.lt;have hw0:=h.h0;have hx:=h.hx;have e1:¬xv.ownBlock=some xb:=row_blk h.own h.box (by decide);have e2:¬(xv.ownBlock=some sb∨sb=xb):=by
  rintro(e|rfl)
  ·exact row_blk h.own h.sbox (by decide) e
  ·exact Blk.ne_ h.sbox h.box (by decide) rfl
 have hnew:∀k,(Value.slice A2 (done.length+1+1) c2).ownBlock=some k→xv.ownBlock=some k∨wr.heap.size≤k:=by
  intro k hk;rcases hg.2 with e|e
  ·exact .inl (e▸hk)
  ·rw[e]at hk;cases hk;exact .inr (by simp)
 refine⟨h.at_.past hY ?_ ?_ ?_ ?_ ?_ ?_ ?_ ?_,?_,hY.blk h.sbox e2,?_,?_,?_,(h.chg.trans (hY.mono (Y:=fun k=>w.heap.size≤k) ?_) (fun i hi hh=>by omega)),h.nt,h.nn,h.hx,h.hs,h.h0,h.hg,h.hq⟩
 ·rintro k hk (hh|hh)
  ·have:=(hge k hh).1;omega
  ·omega
 ·rintro(hh|hh)
  ·exact row_blk h.own h.at_.blk (by decide) hh
  ·subst hh;exact Blk.ne_ h.box h.at_.blk (by decide) rfl
 ·rintro(hh|hh)
  ·exact map_apart h.at_.mt h.own hh
  ·exact map_blk h.at_.mt h.box hh
 ·rintro(hh|hh)
  ·exact map_apart h.at_.mn h.own hh
  ·exact map_blk h.at_.mn h.box hh
 ·rintro g hgg (hh|hh)
  ·exact h.xt g hh hgg
  ·subst hh;exact row_blk h.at_.ft h.box (by decide) hgg
 ·rintro g hgg (hh|hh)
  ·exact h.xn g hh hgg
  ·subst hh;exact row_blk h.at_.fn h.box (by decide) hgg
 ·rintro g hgg (hh|hh)
  ·have:=h.hg g hgg;have:=(hge g hh).1;omega
  ·have:=h.hg g hgg;omega
 ·rintro q hq g hgg (hh|hh)
  ·have:=h.hq q hq g hgg;have:=(hge g hh).1;omega
  ·have:=h.hq q hq g hgg;omega
 ·simpa using(hX.blk h.box e1).set_ 0 (.slice A2 (done.length+1+1) c2)
 ·rw[show (done++[s]).length+1=done.length+1+1 by simp,show (left::(done++[s])).map Nv=(left::done).map Nv++[Nv s] by simp]
  refine own_far ho ?_ _;intro e;rcases hnew _ e with e|e
  ·exact e1 e
  ·simp at e;omega
 ·intro k hk hh
  rcases hnew k hk with e|e
  ·exact h.xt k e hh
  ·have:=(own_ge h.at_.ft k hh).2;omega
 ·intro k hk hh
  rcases hnew k hk with e|e
  ·exact h.xn k e hh
  ·have:=(own_ge h.at_.fn k hh).2;omega
 ·rintro i (hh|hh)
  ·exact(hge i hh).1
  ·omega
end SymsAt
theorem gn_rel{w0 w w2:World}{bb tm nm rb:Nat}{tv nv gv xv:Value}{b:Bd}{gs:List GNm}{DT DN:DataW Unit}{x:List Nme}{A2:Option Addr}{c2:Nat}{o:Obj}
  (h:BAt w0 w bb tm nm rb tv nv gv b gs DT DN) (hx:w.ownsRow w0.heap.size 9 1 xv x.length (x.map Nv)) (hxt:∀k,xv.ownBlock=some k→¬tv.ownBlock=some k) (hxn:∀k,xv.ownBlock=some k→¬nv.ownBlock=some k) (hlt:b.R.length<300)
  (ho:w2.ownsRow w0.heap.size 30 1 (.slice A2 (gs.length+1) c2) (gs.length+1) (gs.map GNm.v++[xv]))
  (hg:(w.alloc o).grownBy w2 gv.ownBlock∧((Value.slice A2 (gs.length+1) c2).ownBlock=gv.ownBlock∨(Value.slice A2 (gs.length+1) c2).ownBlock=some (w.alloc o).heap.size)) :
  BAt w0 (w2.setCell ⟨bb,7,none⟩ (.slice A2 (gs.length+1) c2)) bb tm nm rb tv nv (.slice A2 (gs.length+1) c2) {b with R:=b.R++[x]} (gs++[⟨xv,x⟩]) DT DN∧Chg (fun k=>gv.ownBlock=some k∨k=bb) w (w2.setCell ⟨bb,7,none⟩ (.slice A2 (gs.length+1) c2)):=by
 have hX:Chg (fun k=>gv.ownBlock=some k) w w2:=((Chg.refl _ w).alloc o).next (.of_grown hg.1);have hY:Chg (fun k=>gv.ownBlock=some k∨k=bb) w (w2.setCell ⟨bb,7,none⟩ (.slice A2 (gs.length+1) c2)):=(hX.mono (fun i hi=>.inl hi)).set (p:=⟨bb,7,none⟩) (.inr (.inr rfl)) _;have e1:¬gv.ownBlock=some bb:=row_blk h.fg h.blk (by decide);have hrow:∀{n:Nat} {v:Value} {xs:List Value},w.ownsRow w0.heap.size 9 1 v n xs→(w2.setCell ⟨bb,7,none⟩ (.slice A2 (gs.length+1) c2)).ownsRow w0.heap.size 9 1 v n xs:=by
  intro n v xs hr;refine hY.own hr ?_;rintro k hk (hh|rfl)
  ·exact own_apart hr h.fg (by decide) k hk hh
  ·exact row_blk hr h.blk (by decide) hk
 have hbb:=h.blk.lt;refine⟨⟨?_,?_,hrow h.ft,hrow h.fn,?_,by rw[mpA,h.names];rfl,?_,h.tn,?_,?_,map_chg h.mt hY ?_,map_chg h.mn hY ?_,h.pt,h.pn,h.b0,h.b1,h.lt,h.ln,by simp;omega⟩,hY⟩
 ·refine h.below.trans (hY.below h.below.size ?_)
  rintro k hk (hh|hh)
  ·have:=(own_ge h.fg k hh).1;omega
  ·have:=h.b0.1;omega
 ·simpa using(hX.blk h.blk e1).set_ 7 (.slice A2 (gs.length+1) c2)
 ·rw[show (gs++[(⟨xv,x⟩:GNm)]).length=gs.length+1 by simp,mpA]
  refine own_far ho ?_ _;intro e;rcases hg.2 with e2|e2
  ·exact e1 (e2▸e)
  ·rw[e2]at e;injection e with e;simp at e;omega
 ·intro q hq
  rcases mA.1 hq with hq|hq
  ·exact hrow (h.rows q hq)
  ·rw[mS.1 hq];exact hrow hx
 ·intro q hq k hk hk2
  rcases mA.1 hq with hq|hq
  ·exact h.tr q hq k hk hk2
  ·rw[mS.1 hq]at hk2;exact hxt k hk2 hk
 ·intro q hq k hk hk2
  rcases mA.1 hq with hq|hq
  ·exact h.nr q hq k hk hk2
  ·rw[mS.1 hq]at hk2;exact hxn k hk2 hk
 ·rintro(hh|hh)
  ·exact map_apart h.mt h.fg hh
  ·exact map_blk h.mt h.blk hh
 ·rintro(hh|hh)
  ·exact map_apart h.mn h.fg hh
  ·exact map_blk h.mn h.blk hh
theorem own_row{w:World}{B g n:Nat}{e:TypeId}{cs:Array Value}(h:Blk w g e cs)(hB:B≤g)(hn:cs.size=n)(hm:n≤maxLen):w.ownsRow B e 1 (.slice (some ⟨g,0,none⟩) n n) n cs.toList:=by refine⟨by simp[hn],.inr ⟨g,n,cs,rfl,hB,h,leR _,hm,by simp[hn],?_⟩⟩;rw[tkL (by simp[hn])]
theorem ElStrs:El Tryz.prog 142 30 1 24:=El.of (z:=.slice none 0 0) Tryz.underlying142 (by kernel_rfl) rfl (by decide)
def SEnd(w0 w:World)(bb tm nm rb:Nat)(tv nv gv:Value)(r:Except Flt Bd)(e:Ending)(w':World):Prop:=
 Below w0.heap.size w0 w'∧match r with
 | .ok b=>e=.returned (.tuple #[])∧∃tv' nv' gv' gs' DT DN,BAt w0 w' bb tm nm rb tv' nv' gv' b gs' DT DN∧Chg (MineG bb tm nm tv nv gv) w w'∧Newer w tv tv'∧Newer w nv nv'∧Newer w gv gv'
 | .error f=>Gives f e
theorem tok_cells{w:World}{B:Nat}{g:Nat}{c:Nat}{l:List Tk}{k:Nat}{t:Tk}(h:w.ownsRow B 201 3 (.slice (some ⟨g,0,none⟩) l.length c) l.length (l.flatMap Tk.cells))(ht:l[k]?=some t) :
  w.cell? ⟨g,k*3,none⟩=some (.int .i64 t.k)∧w.cell? ⟨g,k*3+1,none⟩=some (.string (str t.s))∧w.cell? ⟨g,k*3+2,none⟩=some (.int .i64 t.p):=by
 obtain⟨hk,hx⟩:=sG.1 ht;have hg:∀j,j<3→(l.flatMap Tk.cells)[k*3+j]?=(Tk.cells t)[j]?:=fun j hj=>by rw[fm_get Tk.cells 3 Tk.cells_len l k j hk hj,hx]
 have e0:=own_cell h (k*3) (by omega);have e1:=own_cell h (k*3+1) (by omega);have e2:=own_cell h (k*3+2) (by omega);rw[e0,e1,e2,hg 1 (by omega),hg 2 (by omega)];have:=hg 0 (by omega);rw[Nat.add_zero]at this;rw[this];exact⟨rfl,rfl,rfl⟩
theorem row_some{w:World}{B n:Nat}{e:TypeId}{s:Nat}{v:Value}{xs:List Value}(h:w.ownsRow B e s v n xs)(hn:0<n):∃g c,v=.slice (some ⟨g,0,none⟩) n c:=by
 rcases own_form h with⟨rfl,h0⟩|⟨g,c,rfl,_⟩
 ·omega
 ·exact⟨g,c,rfl⟩
set_option maxRecDepth 100000 in
set_option maxHeartbeats 4000000 in
theorem bside_any{w0 w:World}{bb tm nm rb:Nat}{tv nv gv:Value}{b:Bd}{gs:List GNm}{DT DN:DataW Unit}(h:BAt w0 w bb tm nm rb tv nv gv b gs DT DN){B mb:Nat}{tb:Option Nat}{l:List Tk}{x:Txt}{dv kv sv rv:Value}{rs:List GRu}{D:DataW Unit}(hr:Rules w0 B rb mb tb l x dv kv sv rv rs D)(hrl:rs.map GRu.r=x.rules)
  (left:Nme) (q:GS) (hq:GoodS w0 B q) (hsh:∀t∈q.s.l,t.s.length≤8192) (hll:q.s.l.length≤100000) :
  Calls Tryz.prog 124 #[.pointer (some ⟨bb,0,none⟩),.string (str left),.agg #[q.v,.int .i64 q.s.p]] w (SEnd w0 w bb tm nm rb tv nv gv (sideB (leftOf x) b left q.s)):=by
 obtain⟨c0,c1,c2,c3,c4,c7,hbb⟩:=h.cells;have hgl:gs.length=b.R.length:=by rw[←h.names,lM]
 have hrow:w0.ownsRow B 201 3 q.v q.s.l.length (q.s.l.flatMap Tk.cells):=hq;obtain⟨As,cs,hqv⟩:=own_shape hrow;obtain⟨Ag,cg,rfl⟩:=own_shape h.fg;by_cases h300:300≤b.R.length
 ·have q1:(300:Int)≤(gs.length:Int):=by omega
  have HE:Hid (sideB (leftOf x) b left q.s=.error (7,q.s.p)):=Hd (by simp[sideB,h300]);have HA:=Hd (h.alloc (.cells #[q.v,.int .i64 q.s.p] 211));rw[hqv]at HA ⊢;clear h hr hrl hq hsh hrow hgl h300;generalize gs.length=n at *;generalize q.s.l.length=n2 at *;go_enter Tryz.func124,Tryz.ntmps124
  go_wp2_with (go_at_call 173;refine(fail_any _ _ _).mono ?_;rintro e w' ⟨rfl,hw'⟩;subst hw')
  refine⟨rfl,HA.out.below,?_⟩;rw[HE.out];exact Gives.of rfl rfl
 ·have q1:¬(300:Int)≤(gs.length:Int):=by omega
  have hlt3:b.R.length<300:=by omega
  have HE0:Hid (∀b',symsB (leftOf x) b 0 q.s.l=.ok b'→b'.R=b.R→sideB (leftOf x) b left q.s=if b.R.contains (left::q.s.l.map Tk.s) then .error (8,q.s.p) else .ok {b' with R:=b'.R++[left::q.s.l.map Tk.s]}):=Hd (fun b' h1 h2=>by unfold sideB;rw[if_neg h300,h1];simp only;rw[h2]);have HEE:Hid (∀f,symsB (leftOf x) b 0 q.s.l=.error f→sideB (leftOf x) b left q.s=.error f):=Hd (fun f h1=>by unfold sideB;rw[if_neg h300,h1]);have hw0:=h.below.size;have hst0:SymsAt w0 w bb tm nm rb tv nv (.slice Ag gs.length cg) gs (w.heap.size+1+1) w.heap.size q.v q.s.p left [] b tv nv (.slice (some ⟨w.heap.size+1,0,none⟩) 1 1) DT DN (((w.alloc (.cells #[q.v,.int .i64 q.s.p] 211)).alloc (.cells #[.string (str left)] 9)).alloc (.cells #[.slice (some ⟨w.heap.size+1,0,none⟩) 1 1] 30)):=by
   have k1:=Blk.new w 211 #[q.v,.int .i64 q.s.p];have k2:=Blk.new (w.alloc (.cells #[q.v,.int .i64 q.s.p] 211)) 9 #[.string (str left)];have k3:=Blk.new ((w.alloc (.cells #[q.v,.int .i64 q.s.p] 211)).alloc (.cells #[.string (str left)] 9)) 30 #[.slice (some ⟨w.heap.size+1,0,none⟩) 1 1];rw[World.size_alloc]at k2;rw[World.size_alloc,World.size_alloc]at k3;refine⟨((h.alloc _).alloc _).alloc _,k3,(k1.alloc _).alloc _,?_,?_,?_,(((Chg.refl _ w).alloc _).alloc _).alloc _,Newer.refl _ _,Newer.refl _ _,by omega,leR _,hw0,fun k hk=>(own_ge h.fg k hk).2,fun q' hq' k hk=>(own_ge (h.rows q' hq') k hk).2⟩
   ·exact own_row (k2.alloc _) (by omega) rfl (by unfold maxLen;omega)
   ·rintro k hk hh
    cases hk
    have h2:=(own_ge h.ft _ hh).2;simp at h2;omega
   ·rintro k hk hh
    cases hk
    have h2:=(own_ge h.fn _ hh).2;simp at h2;omega
  have HST:=Hd hst0;have HH:=Hd h;have HR:=Hd hr;have HRL:=Hd hrl;have HROW:=Hd hrow;have HSH:=Hd hsh;have HL:Hid (∀k t,q.s.l[k]?=some t→∃g c,q.v=.slice (some ⟨g,0,none⟩) q.s.l.length c∧∀w',Below w0.heap.size w0 w'→w'.cell? ⟨g,k*3,none⟩=some (.int .i64 t.k)∧w'.cell? ⟨g,k*3+1,none⟩=some (.string (str t.s))∧w'.cell? ⟨g,k*3+2,none⟩=some (.int .i64 t.p)):=Hd (fun k t ht=>by obtain⟨hk,_⟩:=sG.1 ht;obtain⟨g,c,hv⟩:=row_some hrow (by omega);refine⟨g,c,hv,fun w' hw'=>?_⟩;have h2:=(Chg.of_below (X:=fun _=>False) hw').own hrow (fun _ _=>id);rw[hv]at h2;exact tok_cells h2 ht)
  clear h hr hrl hq hsh hrow hst0 hgl;have HQV:=Hd hqv;rw[hqv]at HST ⊢;clear hqv c0 c1 c2 c3 c4;generalize hnl:q.s.l.length=nl at *;have HNL:=Hd hnl;clear hnl;have hgm:gs.length≤300:=by omega
  have hmf:∀(fn:Fn) (first cap:Array Value) (w:World),(Instr.makeFunc fn first cap).run Tryz.prog w=.ok (.func fn first cap) w:=fun _ _ _ _=>rfl
  go_enter Tryz.func124,Tryz.ntmps124
  go_wp2;generalize hwS:(((w.alloc (.cells #[.slice As nl cs,.int .i64 q.s.p] 211)).alloc (.cells #[.string (str left)] 9)).alloc (.cells #[.slice (some ⟨w.heap.size+1,0,none⟩) 1 1] 30))=wS at *;generalize hxb:w.heap.size+1+1=xb at *;clear hwS c7;go_loopw [23] (fun i wr=>∃(k:Nat) (done:List Nme) (b':Bd) (tv' nv' xv:Value) (DT' DN':DataW Unit),k≤nl∧i=.int .i64 k∧done.length=k∧Hid (SymsAt w0 w bb tm nm rb tv nv (.slice Ag gs.length cg) gs xb w.heap.size (.slice As nl cs) q.s.p left done b' tv' nv' xv DT' DN' wr)∧Hid (done=(q.s.l.take k).map Tk.s)∧Hid (symsB (leftOf x) b 0 q.s.l=symsB (leftOf x) b' k (q.s.l.drop k))∧Hid (b'.R=b.R)) (fun i _=>nl-(intOf i).toNat)
  case atStart=>exact⟨0,[],b,tv,nv,_,DT,DN,zeL _,rfl,rfl,HST,Hd rfl,Hd rfl,Hd rfl⟩
  case round=>
   obtain⟨_,done,b',tv',nv',xv,DT',DN',hk,rfl,rfl,HS,HD,HY,HBR⟩:=hrel;by_cases hlt:done.length<nl
   ·obtain⟨t,ht⟩:∃t,q.s.l[done.length]?=some t:=⟨_,eG (by rw[HNL.out];exact hlt)⟩
    obtain⟨g,c,hgv,hcell⟩:=HL.out done.length t ht;obtain⟨e0,e1,e2⟩:=hcell wr HS.out.at_.below;rw[HQV.out]at hgv;cases hgv
    have hdrop:q.s.l.drop done.length=t::q.s.l.drop (done.length+1):=by obtain⟨hk',e⟩:=sG.1 ht;rw[List.drop_eq_getElem_cons hk',e]
    have HDN:Hid (done++[t.s]=(q.s.l.take (done.length+1)).map Tk.s):=Hd (by obtain⟨hk',e⟩:=sG.1 ht;have h1:=HD.out;rw[List.take_succ_eq_append_getElem hk',e,mpA,←h1];rfl)
    have hts:=HSH.out t (mG ht);have HS1:=Hd (HS.out.alloc (.cells #[.int .i64 t.k,.string (str t.s),.int .i64 t.p] 201));have HSYM:=Hd (symb9_any HS1.out.at_ HR.out HRL.out t hts done.length (done.length:Int) rfl);have HBX:=Hd (Blk.new wr 201 #[.int .i64 t.k,.string (str t.s),.int .i64 t.p]);have HYY:Hid (∀r,symbolB (leftOf x) b' t done.length=r→symsB (leftOf x) b 0 q.s.l=match r with | .error e=>.error e | .ok b2=>symsB (leftOf x) b2 (done.length+1) (q.s.l.drop (done.length+1))):=Hd (fun r hr=>by rw[HY.out,hdrop,symsB,hr];cases r<;>rfl);clear ht hcell hdrop
    obtain⟨Ax,cx,hxv⟩:=own_shape HS.out.own;subst hxv;cases hsy:symbolB (leftOf x) b' t done.length with
    | error f=>
     have HE:=Hd (HEE.out f (HYY.out _ hsy));rw[hsy]at HSYM;clear hsy;go_wp2_with (go_at_call 175;refine HSYM.out.mono ?_;intro e w2 hx;obtain⟨hb2,hx⟩:=hx;have hx:e=_:=hx;subst hx)
     refine⟨rfl,hb2,?_⟩;rw[HE.out];exact Gives.of rfl rfl
    | ok b2=>
     have HY2:=Hd (HYY.out _ hsy);have HB2R:Hid (b2.R=b.R):=Hd (by
      have h1:=HBR.out;unfold symbolB at hsy;split at hsy
      ·cases hsy
      split at hsy
      ·injection hsy with hsy;rw[←hsy];exact h1
      split at hsy
      ·split at hsy
       · cases hsy
       · injection hsy with hsy;rw[←hsy];exact h1
      split at hsy
      ·injection hsy with hsy;rw[←hsy];exact h1
      ·cases hsy)
     rw[hsy]at HSYM;clear hsy;have hw0r:=HS.out.chg.size;go_wp2_with (first
      | (
        go_at_call 175;refine HSYM.out.mono ?_;intro e w2 hx;obtain⟨hb2,rfl,tv2,nv2,DT2,DN2,z1,z2,z3,z4⟩:=hx
        have HS2:=Hd (HS1.out.sym z1 z2 z3 z4);have HX2:=Hd (z2.blk HBX.out (mine_no HS1.out.at_ HBX.out (by decide) (by decide)));have x1:=HX2.out.cell 1;have y0:=HS2.out.box.cell 0;have y1:=HS2.out.box.frozen 0;have hsz2:=z2.size;simp at x1 y0 hsz2;clear hb2 z1 z2 z3 z4)
      | (
        at_builtin;refine wpList_app ElStrR (.tmp 32) (.tmp 35) rfl rfl (base:=w.heap.size) (n:=done.length+1) (m:=1) (N:=done.length+1+1) (xs:=(left::done).map Nv) (news:=[Nv t.s]) rfl rfl (HS2.out.own.alloc _) (src_str w2 _) rfl (by unfold maxLen;omega) (by omega) (by simp;omega) ?_
        intro A3 c3 w3 r1 r2 r3;have HF:=Hd (HS2.out.app r1 r3);have hk3:=r2.blk (HS2.out.box.alloc _) (.inr (by decide));have z0:=hk3.cell 0;have zf:=hk3.frozen 0;simp at z0;clear r1 r2 r3 hk3))
     go_roundw
     case rel=>exact⟨done.length+1,done++[t.s],b2,tv2,nv2,_,DT2,DN2,by omega,by go_num,by simp,HF,HDN,HY2,HB2R⟩
     case measure=>simp[intOf];omega
   ·obtain rfl:nl=done.length:=by omega
    have HX:Hid (done=q.s.l.map Tk.s):=Hd (by have h1:=HD.out;rw[tkL (by have:=HNL.out;omega)]at h1;exact h1)
    have HSY:Hid (symsB (leftOf x) b 0 q.s.l=.ok b'):=Hd (by have h1:=HY.out;rw[List.drop_of_length_le (by have:=HNL.out;omega)]at h1;exact h1)
    have HCON:=Hd (conN_any HS.out.at_.fg (fun l=>(left::done)==l) 177 #[.pointer (some ⟨xb,0,none⟩)] (fun _ _=>by kernel_rfl) (fun u hu y hy=>by have h1:=HS.out.later hy;refine(sideq_any (p:=⟨xb,0,none⟩) (a:=left::done) h1.own (h1.at_.rows u hu) (h1.box.cell 0)).mono ?_;rintro e w' ⟨h2,n,rfl⟩;exact⟨h2,⟨rfl,rfl,rfl,leR _,fun _ _=>rfl⟩⟩))
    have HCN:Hid (b.R.contains (left::q.s.l.map Tk.s)=(gs.map GNm.l).any fun l=>(left::done)==l):=Hd (by rw[HS.out.at_.names,HBR.out,←HX.out];exact List.contains_eq_any_beq)
    have HOK:=Hd (HE0.out b' HSY.out HBR.out);have hR3:b'.R.length<300:=by rw[HBR.out];exact hlt3
    obtain⟨Ax,cx,hxv⟩:=own_shape HS.out.own;subst hxv;obtain⟨c0,c1,c2,c3,c4,c7,hbb2⟩:=HS.out.at_.cells;clear hlt hbb h300;cases hcc:(gs.map GNm.l).any fun l=>(left::done)==l with
    | true=>
     rw[hcc]at HCON HCN;clear hcc;have HE:Hid (sideB (leftOf x) b left q.s=.error (8,q.s.p)):=Hd (by rw[HOK.out,HCN.out];rfl);go_wp2_with (first
      | (
        go_at_call 176;refine HCON.out.mono ?_;rintro e w3 ⟨rfl,hb3⟩
        have HS3:=Hd (HS.out.later hb3);have y1:=HS3.out.sbox.cell 1;simp at y1;clear hb3)
      | (go_at_call 173;refine(fail_any _ _ _).mono ?_;rintro e w' ⟨rfl,hw'⟩;subst hw'))
     refine⟨rfl,HS3.out.at_.below,?_⟩;rw[HE.out];exact Gives.of rfl rfl
    | false=>
     rw[hcc]at HCON HCN;clear hcc;have HE:Hid (sideB (leftOf x) b left q.s=.ok {b' with R:=b'.R++[left::done]}):=Hd (by rw[HOK.out,HCN.out,←HX.out];rfl);go_wp2_with (
          go_at_call 176;refine HCON.out.mono ?_;rintro e w3 ⟨rfl,hb3⟩
          have HS3:=Hd (HS.out.later hb3);clear hb3)
     clear c0 c1 c2 c3 c4 c7 hbb2;obtain⟨c0,c1,c2,c3,c4,c7,hbb2⟩:=HS3.out.at_.cells;have y0:=HS3.out.box.cell 0;simp at y0;have hxl:=HS3.out.box.lt;have HSD:=Hd HS3.out.drew;have hww:=HS3.out.chg.size;have hgl2:=gs.length;go_region_law (go_loud (
           refine step_app ElStrs (.tmp 51) (.tmp 53) ?_ ?_ (base:=w0.heap.size) (n:=gs.length) (m:=1) (N:=gs.length+1) (v:=.slice Ag gs.length cg) (src:=.slice (some ⟨w3.heap.size,0,none⟩) 1 1) (xs:=gs.map GNm.v) (news:=[.slice Ax (done.length+1) cx]) ?_ ?_ ?_ ?_ ?_ ?_ ?_ ?_ ?_
           ·rfl
           ·rfl
           ·rfl
           ·rfl
           ·exact HSD.out.at_.fg.alloc _
           ·exact SrcOK.blk (c:=1) (Blk.new w3.drew 30 #[.slice Ax (done.length+1) cx]) rfl (by simp[Value.oneCell'])
           ·rfl
           ·unfold maxLen;omega
           ·omega
           ·simp;omega
           intro A4 c4' w4 q1 q2 q3;have HF:=Hd (gn_rel (x:=left::done) HSD.out.at_ (own_mono HSD.out.own hw0) HSD.out.xt HSD.out.xn hR3 q1 q3);have HNG:Hid (Newer w (.slice Ag gs.length cg) (.slice A4 (gs.length+1) c4')):=Hd (fun k hk=>by
            rcases q3.2 with e|e
            ·exact .inl (e▸hk)
            ·rw[e]at hk;cases hk;exact .inr (by simp;omega))
           have hX:Chg (fun k=>(Value.slice Ag gs.length cg).ownBlock=some k) w3.drew w4:=((Chg.refl _ w3.drew).alloc (.cells #[.slice Ax (done.length+1) cx] 30)).next (.of_grown q3.1);have hb2:=hX.blk HSD.out.at_.blk (row_blk HSD.out.at_.fg HSD.out.at_.blk (by decide));have z7:=hb2.cell 7;have zf:=hb2.frozen 7;simp at z7;clear q1 q2 q3 hX hb2))
     all_goals go_wp2
     all_goals go_end0
     all_goals refine⟨HF.out.1.below,?_⟩
     all_goals rw[HE.out]
     all_goals refine⟨rfl,_,_,_,_,_,_,HF.out.1,?_,HSD.out.nt,HSD.out.nn,HNG.out⟩
     all_goals exact(HSD.out.chg.mono (fun _ h=>.inl h)).next (HF.out.2.mono (fun i hi=>hi.elim .inr (fun h=>.inl (.inl h))))
def withT(b:Bd):Except Flt (List Nme)→Except Flt Bd
 | .ok T=>.ok {b with T:=T}
 | .error f=>.error f
theorem term_decl{b:Bd}{t:Tk}(hc:t.s ∉ b.T):termB b t=match declT b.T t with | .error e=>.error e | .ok T=>.ok {b with T:=T}:=by
 unfold termB declT;rw[if_neg (show ¬b.T.contains t.s=true by simpa using hc)];by_cases h:120≤b.T.length
 ·rw[if_pos h,if_pos h]
 ·rw[if_neg h,if_neg h]
theorem mark_some{x:Txt}{m:Nat}{st:Tk}(h:markT x=some (m,st)):(∃r,x.marks=m::r)∧∃r,x.starts=st::r:=by
 unfold markT at h;split at h
 ·rename_i h1 h2
  injection h with h;injection h with e1 e2;subst e1;subst e2;exact⟨⟨_,h1⟩,⟨_,h2⟩⟩
 ·cases h
theorem mark_none{x:Txt}(hs:x.marks.length=x.starts.length)(h:markT x=none):x.starts.length=0:=by
 unfold markT at h;split at h
 ·cases h
 ·rename_i hn
  cases hm:x.marks with
  | nil=>rw[hm]at hs;simpa using hs.symm
  | cons a r=>
   cases ht:x.starts with
   | nil=>rfl
   | cons s q=>exact absurd ht (fun e=>hn a r s q hm e)
theorem term_fail{w0 w:World}{bb tm nm rb:Nat}{tv nv gv:Value}{b:Bd}{gs:List GNm}{DT DN:DataW Unit}(h:BAt w0 w bb tm nm rb tv nv gv b gs DT DN)(t:Tk)(hm:120≤b.T.length) :
  Calls Tryz.prog 207 #[.pointer (some ⟨bb,0,none⟩),.agg #[.int .i64 t.k,.string (str t.s),.int .i64 t.p]] w fun e w'=>Gives (7,t.p) e∧Below w.heap.size w w':=by
 obtain⟨A,c,rfl⟩:=own_shape h.ft;have HB:=Hd (below_alloc w (.cells #[.int .i64 t.k,.string (str t.s),.int .i64 t.p] 201));obtain⟨c0,c1,c2,c3,c4,c7,hbb⟩:=h.cells;have q1:(120:Int)≤(b.T.length:Int):=by omega
 clear h hm;generalize b.T.length=n at *;go_enter Tryz.func207,Tryz.ntmps207
 go_wp2_with (go_at_call 173;refine(fail_any _ _ _).mono ?_;rintro e w' ⟨rfl,hw'⟩;subst hw')
 exact⟨rfl,Gives.of rfl rfl,HB.out⟩
def DEnd(w0 w:World)(bb tm nm rb:Nat)(tv nv gv:Value)(gs:List GNm)(r:Except Flt Bd)(e:Ending)(w':World):Prop:=
 ∃b' tv' nv' DT DN,BAt w0 w' bb tm nm rb tv' nv' gv b' gs DT DN∧Chg (Mine bb tm nm tv nv) w w'∧match r with
 | .ok b=>e=.returned (.tuple #[])∧b'=b
 | .error f=>Gives f e
set_option maxRecDepth 100000 in
set_option maxHeartbeats 6000000 in
theorem declare_any{w0 w:World}{bb tm nm rb:Nat}{tv nv gv:Value}{b:Bd}{gs:List GNm}{DT DN:DataW Unit}(h:BAt w0 w bb tm nm rb tv nv gv b gs DT DN){B mb:Nat}{tb:Option Nat}{l:List Tk}{x:Txt}{dv kv sv rv:Value}{rs:List GRu}{D:DataW Unit}(hr:Rules w0 B rb mb tb l x dv kv sv rv rs D)(hrl:rs.map GRu.r=x.rules)
  (hsame:x.marks.length=x.starts.length) (hsd:∀t∈x.decl,t.s.length≤8192) (hss:∀t∈x.starts,t.s.length≤8192) :
  Calls Tryz.prog 174 #[.pointer (some ⟨bb,0,none⟩)] w (DEnd w0 w bb tm nm rb tv nv gv gs (withT b (declL (leftOf x) (markT x) x.decl b.T))):=by
 obtain⟨c0,c1,c2,c3,c4,c7,hbb⟩:=h.cells;obtain⟨k1,k2,k3,_,_,_⟩:=(hr.later h.below).heads.stand.cells;have HCE:Hid (∀w',Below w0.heap.size w0 w'→w'.cell? ⟨rb,2,none⟩=some kv∧w'.cell? ⟨rb,3,none⟩=some sv):=Hd (fun w' hb=>by obtain⟨_,a2,a3,_,_,_⟩:=(hr.later hb).heads.stand.cells;exact⟨a2,a3⟩)
 obtain⟨As,cs,hsv⟩:=own_shape hr.heads.starts;obtain⟨Ad,cd,hdv⟩:=own_shape hr.heads.decl;have HL:Hid (∀k t,x.decl[k]?=some t→∃g c,dv=.slice (some ⟨g,0,none⟩) x.decl.length c∧∀w',Below w0.heap.size w0 w'→w'.cell? ⟨g,k*3,none⟩=some (.int .i64 t.k)∧w'.cell? ⟨g,k*3+1,none⟩=some (.string (str t.s))∧w'.cell? ⟨g,k*3+2,none⟩=some (.int .i64 t.p)):=Hd (fun k t ht=>by obtain⟨hk,_⟩:=sG.1 ht;obtain⟨g,c,hv⟩:=row_some hr.heads.decl (by omega);refine⟨g,c,hv,fun w' hw'=>?_⟩;have h2:=(Chg.of_below (X:=fun _=>False) hw').own hr.heads.decl (fun _ _=>id);rw[hv]at h2;exact tok_cells h2 ht)
 have HM:Hid (∀m st,markT x=some (m,st)→∃g c,kv=.slice (some ⟨g,0,none⟩) x.marks.length c∧0<x.marks.length∧∀w',Below w0.heap.size w0 w'→w'.cell? ⟨g,0,none⟩=some (.int .i64 m)):=Hd (fun m st hm=>by
  obtain⟨⟨r,e1⟩,r2,e2⟩:=mark_some hm;have hlt:0<x.marks.length:=by rw[e1];simp
  obtain⟨g,c,hv⟩:=row_some hr.heads.marks hlt;refine⟨g,c,hv,hlt,fun w' hw'=>?_⟩;have h2:=(Chg.of_below (X:=fun _=>False) hw').own hr.heads.marks (fun _ _=>id);rw[hv]at h2;have:=own_cell h2 0 (by omega);rw[this,e1];rfl)
 have HST:Hid (∀m st,markT x=some (m,st)→∀w',Below w0.heap.size w0 w'→w'.cell? ⟨bb,0,none⟩=some (.pointer (some ⟨rb,0,none⟩))→Calls Tryz.prog 206 #[.pointer (some ⟨bb,0,none⟩)] w' (Unit_ w' (startT (leftOf x) st))):=Hd (fun m st hm w' hw' hc=>by obtain⟨_,r2,e2⟩:=mark_some hm;exact start_any (hr.later hw') hc hrl e2 (hss st (by rw[e2];simp)))
 have HOPT:Hid ((markT x=none∧x.starts.length=0)∨(markT x≠none∧0<x.starts.length)):=Hd (by
  cases hm:markT x with
  | none=>exact .inl ⟨rfl,mark_none hsame hm⟩
  | some p=>obtain⟨_,r2,e2⟩:=mark_some (m:=p.1) (st:=p.2) hm;exact .inr ⟨by simp,by rw[e2];simp⟩)
 have HDL:Hid (∀t∈x.decl,t.s.length≤8192):=Hd hsd;have hnd:x.decl.length≤100000:=by have:=hr.heads.ld;omega
 have hns:x.starts.length≤100000:=by have:=hr.heads.ls;omega
 have hnk:x.marks.length≤100000:=by have:=hr.heads.lm;omega
 have HH:=Hd h;have HSV:=Hd hsv;have HDV:=Hd hdv;clear h hr hrl hsame hsd hss c1 c2 c3 c4 c7;subst hsv;subst hdv;clear HSV HDV;generalize hnd0:x.decl.length=nd at *;generalize hns0:x.starts.length=ns at *;generalize hnk0:x.marks.length=nk at *;have HND:=Hd hnd0;clear hnd0 hns0 hnk0;go_enter Tryz.func174,Tryz.ntmps174
 go_wp2;go_loopw [2,20] (fun st i wr=>∃(k:Nat) (opt:Option (Nat×Tk)) (n':Nat) (A':Option Addr) (c':Nat) (b':Bd) (tv' nv':Value) (DT' DN':DataW Unit),k≤nd∧i=.int .i64 k∧st=.slice A' n' c'∧n'≤100000∧Hid ((opt=none∧n'=0)∨(opt=markT x∧opt≠none∧0<n'))∧Hid (BAt w0 wr bb tm nm rb tv' nv' gv b' gs DT' DN')∧Hid (Chg (Mine bb tm nm tv nv) w wr∧Newer w tv tv'∧Newer w nv nv')∧Hid (declL (leftOf x) (markT x) x.decl b.T=declL (leftOf x) opt (x.decl.drop k) b'.T)∧Hid (b'.N=b.N∧b'.R=b.R)) (fun _ i _=>nd-(intOf i).toNat)
 case atStart=>exact⟨0,markT x,ns,_,_,b,tv,nv,DT,DN,zeL _,rfl,rfl,hns,Hd (HOPT.out.imp id (fun h=>⟨rfl,h.1,h.2⟩)),HH,Hd ⟨Chg.refl _ _,Newer.refl _ _,Newer.refl _ _⟩,Hd rfl,Hd ⟨rfl,rfl⟩⟩
 case round=>
  obtain⟨k,opt,n',A',c',b',tv',nv',DT',DN',hk,rfl,rfl,hn',HO,HA,HC,HY,HBR⟩:=hrel;clear c0 k1 k2 k3 hbb;obtain⟨c0,c1,c2,c3,c4,c7,hbb⟩:=HA.out.cells;by_cases hlt:k<nd
  ·obtain⟨t,ht⟩:∃t,x.decl[k]?=some t:=⟨_,eG (by rw[HND.out];exact hlt)⟩
   obtain⟨g,c,hgv,hcell⟩:=HL.out k t ht;obtain⟨e0,e1,e2⟩:=hcell wr HA.out.below;cases hgv
   have hts:=HDL.out t (mG ht);have hdrop:x.decl.drop k=t::x.decl.drop (k+1):=by obtain⟨hk',e⟩:=sG.1 ht;rw[List.drop_eq_getElem_cons hk',e]
   have HY1:Hid (declL (leftOf x) (markT x) x.decl b.T=declL (leftOf x) opt (t::x.decl.drop (k+1)) b'.T):=Hd (by rw[HY.out,hdrop]);clear ht hcell hdrop;have HX1:=Hd (Blk.new wr 201 #[.int .i64 t.k,.string (str t.s),.int .i64 t.p]);have HA1:=Hd (HA.out.alloc (.cells #[.int .i64 t.k,.string (str t.s),.int .i64 t.p] 201));have HC1:=Hd (HC.out.1.alloc (.cells #[.int .i64 t.k,.string (str t.s),.int .i64 t.p] 201));have hxw:wr.heap.size<(wr.alloc (.cells #[.int .i64 t.k,.string (str t.s),.int .i64 t.p] 201)).heap.size:=by simp
   generalize hw1:(wr.alloc (.cells #[.int .i64 t.k,.string (str t.s),.int .i64 t.p] 201))=w1 at *;have HW1:=Hd hw1;clear c0 c1 c2 c3 c4 c7 hbb;obtain⟨c0,c1,c2,c3,c4,c7,hbb⟩:=HA1.out.cells;obtain⟨k2,k3⟩:=HCE.out w1 HA1.out.below;have x0:=HX1.out.cell 0;have x1:=HX1.out.cell 1;have x2:=HX1.out.cell 2;simp at x0 x1 x2;rcases HO.out with⟨ho,hn0⟩|⟨ho,ho2,hn0⟩
   ·subst hn0
    go_wp2
    go_region
    go_wp2;obtain⟨opt2,n2,A2,c2',hA2,hn2,HO2,HY2⟩:∃(opt2:Option (Nat×Tk)) (n2:Nat) (A2:Option Addr) (c2':Nat),Value.slice A' 0 c'=.slice A2 n2 c2'∧n2≤100000∧Hid ((opt2=none∧n2=0)∨(opt2=markT x∧opt2≠none∧0<n2))∧Hid (∀r,declT b'.T t=r→declL (leftOf x) (markT x) x.decl b.T=match r with | .error e=>.error e | .ok T'=>declL (leftOf x) opt2 (x.decl.drop (k+1)) T'):=
     ⟨none,0,A',c',rfl,by omega,Hd (.inl ⟨rfl,rfl⟩),Hd (fun r hr=>by rw[HY1.out,ho,declL,hr];cases r<;>rfl)⟩
    rw[hA2];clear hA2;have HA2:=Hd HA1.out.drew;have HX2:=Hd (((Chg.refl (fun _=>False) w1).drew).blk HX1.out id);have HC2:=Hd HC1.out.drew;clear c0 c1 c2 c3 c4 c7 hbb x0 x1 x2 k2 k3 e0 e1 e2;generalize w1.drew=wz at *;have HE8:Hid (∀r,declT b'.T t=r→∀f,r=.error f→withT b (declL (leftOf x) (markT x) x.decl b.T)=.error f):=Hd (fun r h1 f h2=>by rw[HY2.out _ h1,h2];rfl);clear HA HY HY1 HA1 HX1 HC1 HW1 HO hxw;obtain⟨c0,c1,c2,c3,c4,c7,hbb⟩:=HA2.out.cells;have x0:=HX2.out.cell 0;have x1:=HX2.out.cell 1;have x2:=HX2.out.cell 2;simp at x0 x1 x2;have hlook:=places_look HA2.out.drew.mt HA2.out.pt hts
    have hzsz:=HX2.out.lt;generalize wr.heap.size=xb at *;by_cases hc:t.s∈b'.T
    ·have HE:=Hd (HE8.out (.error (8,t.p)) (by unfold declT;rw[if_pos (by simpa using hc)]) (8,t.p) rfl)
     rw[if_pos hc]at hlook;have hn1:b'.T.idxOf t.s+1≠0:=by omega
     generalize b'.T.idxOf t.s+1=n1 at *;have q2:(0:Int)<(n1:Int):=by
      rcases Nat.eq_zero_or_pos n1 with e|e
      ·exact absurd hn1 (by omega)
      ·omega
     clear hc hts
     go_region
     go_wp2_with (go_at_call 173;refine(fail_any _ _ _).mono ?_;rintro e w' ⟨rfl,hw'⟩;subst hw')
     refine⟨rfl,_,_,_,_,_,HA2.out.drew,HC2.out.drew,?_⟩;rw[HE.out];exact Gives.of rfl rfl
    ·rw[if_neg hc,show ((0:Nat):Int)=0 from rfl]at hlook
     have HTM:=Hd (bterm_any HA2.out.drew t hts hc);have hte:=term_decl hc;cases htd:declT b'.T t with
     | error f=>
      obtain⟨hf,h120⟩:f=(7,t.p)∧120≤b'.T.length:=by
       unfold declT at htd;rw[if_neg (by simpa using hc)]at htd;split at htd
       ·rename_i h
        injection htd with htd;exact⟨htd.symm,h⟩
       ·cases htd
      subst hf;have HTF:=Hd (term_fail HA2.out.drew t h120);have HE:=Hd (HE8.out _ htd _ rfl);clear hte htd hc hts HTM h120
      go_region
      go_wp2_with (go_at_call 207;refine HTF.out.mono ?_;intro e w2 hx;obtain⟨hx,hb2⟩:=hx;have hx:e=_:=hx;subst hx)
      refine⟨rfl,_,_,_,_,_,HA2.out.drew.chg (.of_below (X:=fun _=>False) hb2) (fun _ _=>id),HC2.out.drew.next (.of_below hb2),?_⟩;rw[HE.out];exact Gives.of rfl rfl
     | ok T2=>
      rw[htd]at hte;rw[hte]at HTM;have HY3:=Hd (HY2.out _ htd);clear hte htd hc hts
      go_region
      go_wp2_with (
           go_at_call 207;refine HTM.out.mono ?_;intro e w2 hx;obtain⟨hb2,rfl,tv2,nv2,DT2,DN2,z1,z2,z3,z4⟩:=hx
           have HZ1:=Hd z1;have HZ2:Hid (Chg (Mine bb tm nm tv nv) w w2∧Newer w tv tv2∧Newer w nv nv2):=Hd ⟨HC2.out.drew.trans z2 (fun i hi=>HC.out.2.1.mine HC.out.2.2 i hi),HC.out.2.1.next z3 HC2.out.drew.size,HC.out.2.2.next z4 HC2.out.drew.size⟩;clear hb2 z1 z2 z3 z4)
      go_roundw
      case rel=>exact⟨k+1,opt2,n2,A2,c2',_,tv2,nv2,DT2,DN2,by omega,by go_num,rfl,hn2,HO2,HZ1,HZ2,HY3,HBR⟩
      case measure=>simp[intOf];omega
   ·obtain⟨m,st,hm⟩:∃m st,markT x=some (m,st):=by
     cases hm:markT x with
     | none=>exact absurd (ho.trans hm) ho2
     | some p=>exact⟨p.1,p.2,rfl⟩
    obtain⟨g2,cc,hkv,hkl,hcm⟩:=HM.out m st hm;have m0:=hcm w1 HA1.out.below;cases hkv
    have HU:=Hd (HST.out m st hm w1.drew HA1.out.drew.below HA1.out.drew.cells.1);have hn1':(0:Int)<(n':Int):=by omega
    have hk1':(0:Int)<(nk:Int):=by omega
    have HMK:=Hd hm;have HO1:=Hd ho;clear hm ho ho2 hcm;by_cases hmp:m<t.p
    ·have q1:(m:Int)<(t.p:Int):=by omega
     cases hs:startT (leftOf x) st with
     | error f=>
      rw[hs]at HU;have HE:Hid (withT b (declL (leftOf x) (markT x) x.decl b.T)=.error f):=Hd (by rw[HY1.out,HO1.out,HMK.out,declL,if_pos hmp,hs];rfl);clear hs hmp;go_wp2
      go_region
      go_wp2_with (go_at_call 206;refine HU.out.mono ?_;intro e w2 hx;obtain⟨hb2,hx⟩:=hx;have hx:e=_:=hx;subst hx)
      refine⟨rfl,_,_,_,_,_,HA1.out.drew.chg (.of_below (X:=fun _=>False) hb2) (fun _ _=>id),HC1.out.drew.next (.of_below hb2),?_⟩;rw[HE.out];exact Gives.of rfl rfl
     | ok uu=>
      rw[hs]at HU;have HYs:Hid (∀r,declT b'.T t=r→declL (leftOf x) (markT x) x.decl b.T=match r with | .error e=>.error e | .ok T'=>declL (leftOf x) none (x.decl.drop (k+1)) T'):=Hd (fun r hr=>by rw[HY1.out,HO1.out,HMK.out,declL,if_pos hmp,hs];simp only;rw[hr];cases r<;>rfl);clear hs hmp;go_wp2
      go_region
      go_wp2_with (go_at_call 206;refine HU.out.mono ?_;intro e wz hx;obtain⟨hb2,rfl⟩:=hx;have HBZ:=Hd hb2;clear hb2)
      obtain⟨opt2,n2,A2,c2',hA2,hn2,HO2,HY2⟩:∃(opt2:Option (Nat×Tk)) (n2:Nat) (A2:Option Addr) (c2':Nat),Value.slice none 0 0=.slice A2 n2 c2'∧n2≤100000∧Hid ((opt2=none∧n2=0)∨(opt2=markT x∧opt2≠none∧0<n2))∧Hid (∀r,declT b'.T t=r→declL (leftOf x) (markT x) x.decl b.T=match r with | .error e=>.error e | .ok T'=>declL (leftOf x) opt2 (x.decl.drop (k+1)) T'):=
       ⟨none,0,none,0,rfl,by omega,Hd (.inl ⟨rfl,rfl⟩),HYs⟩
      rw[hA2];clear hA2;have HA2:=Hd (HA1.out.drew.chg (.of_below (X:=fun _=>False) HBZ.out) (fun _ _=>id));have HX2:=Hd (((Chg.refl (fun _=>False) w1).drew.next (.of_below HBZ.out)).blk HX1.out id);have HC2:=Hd (HC1.out.drew.next (.of_below HBZ.out));clear c0 c1 c2 c3 c4 c7 hbb x0 x1 x2 k2 k3 e0 e1 e2 HU HBZ;have HE8:Hid (∀r,declT b'.T t=r→∀f,r=.error f→withT b (declL (leftOf x) (markT x) x.decl b.T)=.error f):=Hd (fun r h1 f h2=>by rw[HY2.out _ h1,h2];rfl);clear HA HY HY1 HA1 HX1 HC1 HW1 HO hxw;obtain⟨c0,c1,c2,c3,c4,c7,hbb⟩:=HA2.out.cells;have x0:=HX2.out.cell 0;have x1:=HX2.out.cell 1
      have x2:=HX2.out.cell 2;simp at x0 x1 x2;have hlook:=places_look HA2.out.drew.mt HA2.out.pt hts;have hzsz:=HX2.out.lt;generalize wr.heap.size=xb at *;by_cases hc:t.s∈b'.T
      ·have HE:=Hd (HE8.out (.error (8,t.p)) (by unfold declT;rw[if_pos (by simpa using hc)]) (8,t.p) rfl)
       rw[if_pos hc]at hlook;have hn1:b'.T.idxOf t.s+1≠0:=by omega
       generalize b'.T.idxOf t.s+1=n1 at *;have q2:(0:Int)<(n1:Int):=by
        rcases Nat.eq_zero_or_pos n1 with e|e
        ·exact absurd hn1 (by omega)
        ·omega
       clear hc hts
       go_region
       go_wp2_with (go_at_call 173;refine(fail_any _ _ _).mono ?_;rintro e w' ⟨rfl,hw'⟩;subst hw')
       refine⟨rfl,_,_,_,_,_,HA2.out.drew,HC2.out.drew,?_⟩;rw[HE.out];exact Gives.of rfl rfl
      ·rw[if_neg hc,show ((0:Nat):Int)=0 from rfl]at hlook
       have HTM:=Hd (bterm_any HA2.out.drew t hts hc);have hte:=term_decl hc;cases htd:declT b'.T t with
       | error f=>
        obtain⟨hf,h120⟩:f=(7,t.p)∧120≤b'.T.length:=by
         unfold declT at htd;rw[if_neg (by simpa using hc)]at htd;split at htd
         ·rename_i h
          injection htd with htd;exact⟨htd.symm,h⟩
         ·cases htd
        subst hf;have HTF:=Hd (term_fail HA2.out.drew t h120);have HE:=Hd (HE8.out _ htd _ rfl);clear hte htd hc hts HTM h120
        go_region
        go_wp2_with (go_at_call 207;refine HTF.out.mono ?_;intro e w2 hx;obtain⟨hx,hb2⟩:=hx;have hx:e=_:=hx;subst hx)
        refine⟨rfl,_,_,_,_,_,HA2.out.drew.chg (.of_below (X:=fun _=>False) hb2) (fun _ _=>id),HC2.out.drew.next (.of_below hb2),?_⟩;rw[HE.out];exact Gives.of rfl rfl
       | ok T2=>
        rw[htd]at hte;rw[hte]at HTM;have HY3:=Hd (HY2.out _ htd);clear hte htd hc hts
        go_region
        go_wp2_with (
             go_at_call 207;refine HTM.out.mono ?_;intro e w2 hx;obtain⟨hb2,rfl,tv2,nv2,DT2,DN2,z1,z2,z3,z4⟩:=hx
             have HZ1:=Hd z1;have HZ2:Hid (Chg (Mine bb tm nm tv nv) w w2∧Newer w tv tv2∧Newer w nv nv2):=Hd ⟨HC2.out.drew.trans z2 (fun i hi=>HC.out.2.1.mine HC.out.2.2 i hi),HC.out.2.1.next z3 HC2.out.drew.size,HC.out.2.2.next z4 HC2.out.drew.size⟩;clear hb2 z1 z2 z3 z4)
        go_roundw
        case rel=>exact⟨k+1,opt2,n2,A2,c2',_,tv2,nv2,DT2,DN2,by omega,by go_num,rfl,hn2,HO2,HZ1,HZ2,HY3,HBR⟩
        case measure=>simp[intOf];omega
    ·have q1:¬(m:Int)<(t.p:Int):=by omega
     go_wp2
     go_region
     go_wp2;obtain⟨opt2,n2,A2,c2',hA2,hn2,HO2,HY2⟩:∃(opt2:Option (Nat×Tk)) (n2:Nat) (A2:Option Addr) (c2':Nat),Value.slice A' n' c'=.slice A2 n2 c2'∧n2≤100000∧Hid ((opt2=none∧n2=0)∨(opt2=markT x∧opt2≠none∧0<n2))∧Hid (∀r,declT b'.T t=r→declL (leftOf x) (markT x) x.decl b.T=match r with | .error e=>.error e | .ok T'=>declL (leftOf x) opt2 (x.decl.drop (k+1)) T'):=
      ⟨opt,n',A',c',rfl,by omega,Hd (.inr ⟨HO1.out,by rw[HO1.out,HMK.out];simp,hn0⟩),Hd (fun r hr=>by rw[HY1.out,HO1.out,HMK.out,declL,if_neg hmp,hr];cases r<;>rfl)⟩
     rw[hA2];clear hA2 hmp;have HA2:=Hd HA1.out.drew;have HX2:=Hd (((Chg.refl (fun _=>False) w1).drew).blk HX1.out id);have HC2:=Hd HC1.out.drew;clear c0 c1 c2 c3 c4 c7 hbb x0 x1 x2 k2 k3 e0 e1 e2 HU;generalize w1.drew=wz at *;have HE8:Hid (∀r,declT b'.T t=r→∀f,r=.error f→withT b (declL (leftOf x) (markT x) x.decl b.T)=.error f):=Hd (fun r h1 f h2=>by rw[HY2.out _ h1,h2];rfl);clear HA HY HY1 HA1 HX1 HC1 HW1 HO hxw;obtain⟨c0,c1,c2,c3,c4,c7,hbb⟩:=HA2.out.cells;have x0:=HX2.out.cell 0;have x1:=HX2.out.cell 1;have x2:=HX2.out.cell 2;simp at x0 x1 x2;have hlook:=places_look HA2.out.drew.mt HA2.out.pt hts
     have hzsz:=HX2.out.lt;generalize wr.heap.size=xb at *;by_cases hc:t.s∈b'.T
     ·have HE:=Hd (HE8.out (.error (8,t.p)) (by unfold declT;rw[if_pos (by simpa using hc)]) (8,t.p) rfl)
      rw[if_pos hc]at hlook;have hn1:b'.T.idxOf t.s+1≠0:=by omega
      generalize b'.T.idxOf t.s+1=n1 at *;have q2:(0:Int)<(n1:Int):=by
       rcases Nat.eq_zero_or_pos n1 with e|e
       ·exact absurd hn1 (by omega)
       ·omega
      clear hc hts
      go_region
      go_wp2_with (go_at_call 173;refine(fail_any _ _ _).mono ?_;rintro e w' ⟨rfl,hw'⟩;subst hw')
      refine⟨rfl,_,_,_,_,_,HA2.out.drew,HC2.out.drew,?_⟩;rw[HE.out];exact Gives.of rfl rfl
     ·rw[if_neg hc,show ((0:Nat):Int)=0 from rfl]at hlook
      have HTM:=Hd (bterm_any HA2.out.drew t hts hc);have hte:=term_decl hc;cases htd:declT b'.T t with
      | error f=>
       obtain⟨hf,h120⟩:f=(7,t.p)∧120≤b'.T.length:=by
        unfold declT at htd;rw[if_neg (by simpa using hc)]at htd;split at htd
        ·rename_i h
         injection htd with htd;exact⟨htd.symm,h⟩
        ·cases htd
       subst hf;have HTF:=Hd (term_fail HA2.out.drew t h120);have HE:=Hd (HE8.out _ htd _ rfl);clear hte htd hc hts HTM h120
       go_region
       go_wp2_with (go_at_call 207;refine HTF.out.mono ?_;intro e w2 hx;obtain⟨hx,hb2⟩:=hx;have hx:e=_:=hx;subst hx)
       refine⟨rfl,_,_,_,_,_,HA2.out.drew.chg (.of_below (X:=fun _=>False) hb2) (fun _ _=>id),HC2.out.drew.next (.of_below hb2),?_⟩;rw[HE.out];exact Gives.of rfl rfl
      | ok T2=>
       rw[htd]at hte;rw[hte]at HTM;have HY3:=Hd (HY2.out _ htd);clear hte htd hc hts
       go_region
       go_wp2_with (
            go_at_call 207;refine HTM.out.mono ?_;intro e w2 hx;obtain⟨hb2,rfl,tv2,nv2,DT2,DN2,z1,z2,z3,z4⟩:=hx
            have HZ1:=Hd z1;have HZ2:Hid (Chg (Mine bb tm nm tv nv) w w2∧Newer w tv tv2∧Newer w nv nv2):=Hd ⟨HC2.out.drew.trans z2 (fun i hi=>HC.out.2.1.mine HC.out.2.2 i hi),HC.out.2.1.next z3 HC2.out.drew.size,HC.out.2.2.next z4 HC2.out.drew.size⟩;clear hb2 z1 z2 z3 z4)
       go_roundw
       case rel=>exact⟨k+1,opt2,n2,A2,c2',_,tv2,nv2,DT2,DN2,by omega,by go_num,rfl,hn2,HO2,HZ1,HZ2,HY3,HBR⟩
       case measure=>simp[intOf];omega
  ·obtain rfl:k=nd:=by omega
   have HYE:Hid (declL (leftOf x) (markT x) x.decl b.T=declL (leftOf x) opt [] b'.T):=Hd (by have h1:=HY.out;rw[List.drop_of_length_le (by have:=HND.out;omega)]at h1;exact h1)
   have HBB:Hid ({b with T:=b'.T}=b'):=Hd (by obtain⟨h1,h2⟩:=HBR.out;cases b';simp at h1 h2;rw[←h1,←h2]);rcases HO.out with⟨ho,hn0⟩|⟨ho,ho2,hn0⟩
   ·subst hn0
    have HE:Hid (withT b (declL (leftOf x) (markT x) x.decl b.T)=.ok b'):=Hd (by rw[HYE.out,ho];exact congrArg Except.ok HBB.out);clear ho;go_wp2
    go_end0
    refine⟨_,_,_,_,_,HA.out,HC.out.1,?_⟩;rw[HE.out];exact⟨rfl,rfl⟩
   ·obtain⟨m,st,hm⟩:∃m st,markT x=some (m,st):=by
     cases hm:markT x with
     | none=>exact absurd (ho.trans hm) ho2
     | some p=>exact⟨p.1,p.2,rfl⟩
    have HU:=Hd (HST.out m st hm wr HA.out.below HA.out.cells.1);have hn1':(0:Int)<(n':Int):=by omega
    cases hs:startT (leftOf x) st with
    | error f=>
     rw[hs]at HU;have HE:Hid (withT b (declL (leftOf x) (markT x) x.decl b.T)=.error f):=Hd (by rw[HYE.out,ho,hm,declL,hs];rfl);clear hs ho ho2 hm;go_wp2_with (go_at_call 206;refine HU.out.mono ?_;intro e w2 hx;obtain⟨hb2,hx⟩:=hx;have hx:e=_:=hx;subst hx)
     refine⟨rfl,_,_,_,_,_,HA.out.chg (.of_below (X:=fun _=>False) hb2) (fun _ _=>id),HC.out.1.next (.of_below hb2),?_⟩;rw[HE.out];exact Gives.of rfl rfl
    | ok uu=>
     rw[hs]at HU;have HE:Hid (withT b (declL (leftOf x) (markT x) x.decl b.T)=.ok b'):=Hd (by rw[HYE.out,ho,hm,declL,hs];exact congrArg Except.ok HBB.out);clear hs ho ho2 hm;go_wp2_with (go_at_call 206;refine HU.out.mono ?_;intro e w2 hx;obtain⟨hb2,rfl⟩:=hx;have HBZ:=Hd hb2;clear hb2)
     go_end0
     have HA2:=HA.out.chg (.of_below (X:=fun _=>False) HBZ.out) (fun _ _=>id);refine⟨_,_,_,_,_,HA2,HC.out.1.next (.of_below HBZ.out),?_⟩;rw[HE.out];exact⟨rfl,rfl⟩
theorem idxOf_hit{L:List Nme}{s x:Nme}{k:Nat}(hx:L[k]?=some x)(he:s=x)(hA:∀j y,j<k→L[j]?=some y→s≠y):s∈L∧L.idxOf s=k:=by
 subst he;have hm:=mG hx;refine⟨hm,?_⟩;obtain⟨hk,e⟩:=sG.1 hx;have hj:=List.idxOf_lt_length_of_mem hm;have e2:=List.getElem_idxOf hj;have h1:¬L.idxOf s<k:=fun h=>hA _ _ h (eG hj) e2.symm
 have h2:∀(L:List Nme) (k:Nat),L[k]?=some s→L.idxOf s≤k:=by
  intro L;induction L with
  | nil=>intro k h;simp at h
  | cons a r ih=>
   intro k h;rw[List.idxOf_cons];cases k with
   | zero=>simp at h;simp[h]
   | succ k=>
    have:=ih k (by simpa using h);cases a==s
    ·simp only[cond_false];omega
    ·simp only[cond_true];omega
 have:=h2 L k hx;omega
def idxI(L:List Nme)(s:Nme):Int:=if s∈L then(L.idxOf s:Nat) else -1
set_option maxRecDepth 100000 in
theorem index9_any{w:World}{B:Nat}{v:Value}{L:List Nme}(H:w.ownsRow B 9 1 v L.length (L.map Nv))(s:Nme):Calls Tryz.prog 179 #[v,.string (str s)] w fun e w'=>e=.returned (.int .i64 (idxI L s))∧w'=w:=by
 obtain⟨A,c,rfl⟩:=own_shape H;have hal:L.length≤9223372036854775807:=by
  rcases own_form H with⟨_,h0⟩|⟨_,c3,_,_,_,h1,h2,_⟩
  ·omega
  ·unfold maxLen at h2;omega
 have HC:=Hd (fun(h:0<L.length)=>row_cell H h);clear H;go_enter Tryz.func179,Tryz.ntmps179
 go_wp2
 go_loop [5,8] (fun _ i=>∃k:Nat,k≤L.length∧i=.int .i64 k∧Hid (∀j y,j<k→L[j]?=some y→s≠y)) (fun _ i=>L.length-(intOf i).toNat)
 case atStart=>exact⟨0,zeL _,rfl,Hd (fun j y hj=>absurd hj (Nat.not_lt_zero _))⟩
 case round=>
  obtain⟨k,hk,rfl,HA⟩:=hrel;by_cases hlt:k<L.length
  ·have hx:=eG hlt
   generalize L[k]=x at hx;obtain⟨b,c2,e1,hcell⟩:=HC.out (by omega);cases e1
   have hcx:=hcell k (Nv x) (by rw[pG,hx];rfl);unfold Nv at hcx;by_cases he:s=x
   ·have HI:Hid (idxI L s=(k:Int)):=Hd (by obtain⟨h1,h2⟩:=idxOf_hit hx he HA.out;unfold idxI;rw[if_pos h1,h2])
    have hb:((str s).toList==(str x).toList)=true:=by subst he;exact beq_self_eq_true _
    generalize str s=ss at *;generalize str x=sx at *;clear hx hcell he;go_wp2;go_ret;rw[HI.out];exact⟨rfl,rfl⟩
   ·have HN:Hid (∀j y,j<k+1→L[j]?=some y→s≠y):=Hd (fun j y hj hy=>by
     by_cases e:j=k
     ·subst e;rw[hx]at hy;cases hy;exact he
     ·exact HA.out j y (by omega) hy)
    have hb:((str s).toList==(str x).toList)=false:=bN.2 (fun h=>he (str_inj (bytes_eq h)));generalize str s=ss at *;generalize str x=sx at *;clear hx hcell he;go_wp2
    go_round
    case rel=>exact⟨k+1,by omega,by go_num,HN⟩
    case measure=>simp[intOf];omega
  ·obtain rfl:k=L.length:=by omega
   have HI:Hid (idxI L s = -1):=Hd (by unfold idxI;rw[if_neg];intro hm;obtain⟨j,hj⟩:=List.mem_iff_getElem?.1 hm;exact HA.out j s (sG.1 hj).1 hj rfl)
   go_wp2;go_ret;rw[HI.out];exact⟨rfl,rfl⟩
theorem find_any{w:World}{B:Nat}{tv nv rv:Value}{T N:List Nme}{s0:Int}(HT:w.ownsRow B 9 1 tv T.length (T.map Nv))(HN:w.ownsRow B 9 1 nv N.length (N.map Nv))(hlt:T.length≤120)(hln:N.length≤120)(s:Nme) :
  Calls Tryz.prog 125 #[.agg #[tv,nv,rv,.int .i64 s0],.string (str s)] w fun e w'=>e=.returned (.int .i64 (findL T N s))∧Below w.heap.size w w':=by
 obtain⟨A,c,rfl⟩:=own_shape HT;obtain⟨A2,c2,rfl⟩:=own_shape HN;have hc:Chg (fun _=>False) w (w.alloc (.cells #[.slice A T.length c,.slice A2 N.length c2,rv,.int .i64 s0] 32)):=(Chg.refl _ w).alloc _;have H1:=Hd (index9_any (hc.own HT (fun _ _=>id)) s);have H2:=Hd (index9_any (hc.own HN (fun _ _=>id)) s);have hb:=below_alloc w (.cells #[.slice A T.length c,.slice A2 N.length c2,rv,.int .i64 s0] 32);have HB:=Hd hb;have hT:T.idxOf s≤T.length:=List.idxOf_le_length;have hN:N.idxOf s≤N.length:=List.idxOf_le_length;unfold idxI at H1 H2;clear HT HN hc hb;by_cases h1:s∈T
 ·have HE:Hid (findL T N s=T.idxOf s+1):=Hd (by unfold findL;rw[if_pos (by simpa using h1)])
  rw[if_pos h1]at H1;clear h1;generalize T.idxOf s=n1 at *;generalize N.length=nN at *;generalize T.length=nT at *;go_enter Tryz.func125,Tryz.ntmps125
  go_wp2_with (go_at_call 179;refine H1.out.mono ?_;rintro e w' ⟨rfl,rfl⟩)
  go_ret;rw[HE.out];exact⟨by first|rfl|(push_cast;rfl),HB.out⟩
 ·rw[if_neg h1]at H1
  by_cases h2:s∈N
  ·have HE:Hid (findL T N s=T.length+N.idxOf s+1):=Hd (by unfold findL;rw[if_neg (by simpa using h1),if_pos (by simpa using h2)])
   rw[if_pos h2]at H2;clear h1 h2;generalize N.idxOf s=n1 at *;generalize N.length=nN at *;generalize T.length=nT at *;go_enter Tryz.func125,Tryz.ntmps125
   go_wp2_with (first
    | (go_at_call 179;(with_reducible refine H1.out.mono ?_);rintro e w' ⟨rfl,rfl⟩)
    | (go_at_call 179;(with_reducible refine H2.out.mono ?_);rintro e w' ⟨rfl,rfl⟩))
   go_ret;rw[HE.out];exact⟨by first|rfl|(push_cast;rfl),HB.out⟩
  ·have HE:Hid (findL T N s=0):=Hd (by unfold findL;rw[if_neg (by simpa using h1),if_neg (by simpa using h2)])
   rw[if_neg h2]at H2;clear h1 h2;generalize N.length=nN at *;generalize T.length=nT at *;go_enter Tryz.func125,Tryz.ntmps125
   go_wp2_with (first
    | (go_at_call 179;(with_reducible refine H1.out.mono ?_);rintro e w' ⟨rfl,rfl⟩)
    | (go_at_call 179;(with_reducible refine H2.out.mono ?_);rintro e w' ⟨rfl,rfl⟩))
   go_ret;rw[HE.out];exact⟨rfl,HB.out⟩
end Go.Proofs.YthaacmablcpdfaaGreatDoor
namespace Go.Proofs.YthaacmablcpdfaaGreatDoor
open Go.RowKit
set_option linter.unusedVariables false
def TQ(t:Tk):Prop:=t.s.length≤8192∧t.p≤8192
def SQ(s:PS):Prop:=(∀t∈s.l,TQ t)∧s.l.length≤100000
def RQ(r:PR):Prop:=TQ r.left∧∀s∈r.sides,SQ s
structure Ql(l:List Tk):Prop where
 ended:Ended l
 all:∀t∈l,TQ t
 len:l.length≤100000
structure Txt.q(x:Txt):Prop where
 decl:∀t∈x.decl,TQ t
 marks:∀m∈x.marks,m≤8192
 starts:∀t∈x.starts,TQ t
 same:x.marks.length=x.starts.length
theorem Ql.tail{t:Tk}{r:List Tk}(h:Ql (t::r))(hk:t.k≠0):Ql r:=
 ⟨(h.ended.tail hk).1,fun u hu=>h.all u (by simp[hu]),by have:=h.len;simp at this;omega⟩
theorem Ql.dropW:∀{l:List Tk},Ql l→Ql (l.dropWhile symT)
 | [],h=>h.ended.elim
 | t::r,h=>by
  rw[List.dropWhile_cons];split
  ·rename_i hs;exact Ql.dropW (h.tail (sym_nz hs))
  ·exact h
theorem Ql.bad{l:List Tk}(h:Ql l):(badT l).1≠0:=by obtain⟨t,r,rfl⟩:=h.ended.cons;unfold badT;simp only;split<;>simp
theorem Ql.take{l:List Tk}(h:Ql l):(∀t∈l.takeWhile symT,TQ t)∧(l.takeWhile symT).length≤100000:=
 ⟨fun t ht=>h.all t ((List.takeWhile_sublist symT).mem ht),leT (List.takeWhile_sublist symT).length_le h.len⟩
theorem isK_nz{k:Nat}{l:List Tk}(h:isK k l=true):∃t r,l=t::r∧t.k=k:=by
 cases l with
 | nil=>cases h
 | cons t r=>exact⟨t,r,rfl,by simpa [isK] using h⟩
theorem head_q{x:Txt}{l:List Tk}(hx:x.q)(hl:Ql l):match headL x l with | .error f=>f.1≠0 | .ok (x',l')=>x'.q∧Ql l'∧l'.length<l.length:=by
 cases he:headL x l with
 | error f=>
  simp only;unfold headL at he;obtain⟨t,r,rfl⟩:=hl.ended.cons;simp only at he;split at he
  ·rename_i h7
   split at he
   ·injection he with he;rw[←he];exact(hl.tail (by omega)).bad
   ·cases he
  split at he
  ·rename_i h8
   split at he
   ·cases he
   ·injection he with he;rw[←he];exact(hl.tail (by omega)).bad
  ·injection he with he;rw[←he];exact hl.bad
 | ok q=>
  obtain⟨x',l'⟩:=q;simp only;refine⟨?_,?_,(head_less he).1⟩;all_goals
   unfold headL at he;obtain⟨t,r,rfl⟩:=hl.ended.cons;simp only at he;split at he
  ·rename_i h7
   split at he
   ·cases he
   ·injection he with he
    obtain⟨rfl,rfl⟩:=Prod.mk.inj he;have hr:=hl.tail (by omega);refine⟨fun u hu=>?_,hx.marks,hx.starts,hx.same⟩;rcases mA.1 hu with hu|hu
    ·exact hx.decl u hu
    ·exact hr.take.1 u hu
  ·rename_i h7
   split at he
   ·rename_i h8
    split at he
    ·rename_i h1
     injection he with he;obtain⟨rfl,rfl⟩:=Prod.mk.inj he;have hr:=hl.tail (by omega);obtain⟨u,r2,rfl,hu1⟩:=isK_nz h1;refine⟨hx.decl,fun m hm=>?_,fun v hv=>?_,by simp[hx.same]⟩
     ·rcases mA.1 hm with hm|hm
      ·exact hx.marks m hm
      ·rw[mS.1 hm];exact(hl.all t (by simp)).2
     ·rcases mA.1 hv with hv|hv
      ·exact hx.starts v hv
      ·simp at hv;rw[hv];exact hr.all u (by simp)
    ·cases he
   ·cases he
  ·rename_i h7
   split at he
   ·cases he
   ·injection he with he
    obtain⟨rfl,rfl⟩:=Prod.mk.inj he;exact(hl.tail (by omega)).dropW
  ·rename_i h7
   split at he
   ·rename_i h8
    split at he
    ·rename_i h1
     injection he with he;obtain⟨rfl,rfl⟩:=Prod.mk.inj he;have hr:=hl.tail (by omega);obtain⟨u,r2,rfl,hu1⟩:=isK_nz h1;exact hr.tail (by omega)
    ·cases he
   ·cases he
theorem heads_q:∀(f:Nat) {x:Txt} {l:List Tk},x.q→Ql l→l.length<f→match headsL f x l with | .error f=>f.1≠0 | .ok (x',l')=>x'.q∧Ql l'∧l'.length≤l.length
 | 0,x,l,_,_,hf=>by omega
 | f+1,x,l,hx,hl,hf=>by
  have h1:=head_q hx hl;unfold headsL;by_cases h6:isK 6 l=true
  ·rw[if_pos h6]
   obtain⟨t,r,rfl,ht⟩:=isK_nz h6;exact⟨hx,hl.tail (by omega),by simp⟩
  ·rw[if_neg h6]
   cases hh:headL x l with
   | error e=>rw[hh]at h1;exact h1
   | ok q=>
    obtain⟨x',l'⟩:=q;rw[hh]at h1;obtain⟨g1,g2,g3⟩:=h1;have ih:=heads_q f g1 g2 (by omega);simp only;cases hq:headsL f x' l' with
    | error e=>rw[hq]at ih;exact ih
    | ok p=>obtain⟨x2,l2⟩:=p;rw[hq]at ih;exact⟨ih.1,ih.2.1,by have:=ih.2.2;omega⟩
theorem sideL_q{l:List Tk}(h:Ql l):SQ (sideL l):=by unfold SQ;rw[sideL_l];exact h.take
theorem sides_q:∀(f:Nat) {a:List PS} {l:List Tk},(∀s∈a,SQ s)→Ql l→(∀s∈(sidesL f a l).1,SQ s)∧Ql (sidesL f a l).2
 | 0,a,l,h1,h2=>⟨h1,h2⟩
 | f+1,a,l,h1,h2=>by
  unfold sidesL;by_cases h4:isK 4 l=true
  ·rw[if_pos h4]
   obtain⟨t,r,rfl,ht⟩:=isK_nz h4;have hr:=h2.tail (by omega);refine sides_q f ?_ hr.dropW;intro s hs;rcases mA.1 hs with hs|hs
   ·exact h1 s hs
   ·rw[mS.1 hs];exact sideL_q hr
  ·rw[if_neg h4];exact⟨h1,h2⟩
theorem one_q{l:List Tk}(hl:Ql l):match oneR l with | .error f=>f.1≠0 | .ok (r,l')=>RQ r∧Ql l'∧l'.length<l.length:=by
 cases he:oneR l with
 | error f=>
  simp only;obtain⟨t,r,rfl⟩:=hl.ended.cons;unfold oneR at he;simp only at he;split at he
  ·injection he with he;rw[←he];exact hl.bad
  rename_i h1;have hr:=hl.tail (by omega);split at he
  ·rename_i h3
   obtain⟨u,r2,rfl,hu⟩:=isK_nz h3;have hr2:=hr.tail (by omega);have hs:=sides_q (u::r2).length (a:=[sideL r2]) (l:=r2.dropWhile symT) (fun s hs=>by rw[mS.1 hs];exact sideL_q hr2) hr2.dropW;split at he
   ·cases he
   ·injection he with he;rw[←he];exact hs.2.bad
  ·injection he with he;rw[←he];exact hr.bad
 | ok q=>
  obtain⟨r1,l'⟩:=q;simp only;have hlt:=(one_less he).1;obtain⟨t,r,rfl⟩:=hl.ended.cons;unfold oneR at he;simp only at he;split at he
  ·cases he
  rename_i h1;have hr:=hl.tail (by omega);split at he
  ·rename_i h3
   obtain⟨u,r2,rfl,hu⟩:=isK_nz h3;have hr2:=hr.tail (by omega);have hs:=sides_q (u::r2).length (a:=[sideL r2]) (l:=r2.dropWhile symT) (fun s hs=>by rw[mS.1 hs];exact sideL_q hr2) hr2.dropW;split at he
   ·rename_i h5
    injection he with he;obtain⟨rfl,rfl⟩:=Prod.mk.inj he;refine⟨⟨hl.all t (by simp),hs.1⟩,?_,hlt⟩;obtain⟨v,r3,hv,hv5⟩:=isK_nz h5;simp only[List.drop_succ_cons,List.drop_zero]at hv h5 ⊢;rw[hv];have:=hs.2;rw[hv]at this;exact this.tail (by omega)
   ·cases he
  ·cases he
theorem more_q:∀(f:Nat) {a:List PR} {l:List Tk},(∀r∈a,RQ r)→Ql l→l.length<f→match moreR f a l with | .error f=>f.1≠0 | .ok rs=>∀r∈rs,RQ r
 | 0,a,l,_,_,hf=>by omega
 | f+1,a,l,ha,hl,hf=>by
  have h1:=one_q hl;unfold moreR;by_cases h0:isK 0 l=true
  ·rw[if_pos h0];exact ha
  ·rw[if_neg h0]
   cases hh:oneR l with
   | error e=>rw[hh]at h1;exact h1
   | ok q=>
    obtain⟨r,l'⟩:=q;rw[hh]at h1;obtain⟨g1,g2,g3⟩:=h1;refine more_q f ?_ g2 (by omega);intro u hu;rcases mA.1 hu with hu|hu
    ·exact ha u hu
    ·rw[mS.1 hu];exact g1
theorem form_q{l:List Tk}(hl:Ql l):match formL l with | .error f=>f.1≠0 | .ok x=>x.q∧∀r∈x.rules,RQ r:=by
 have h1:=heads_q (l.length+1) (x:=⟨[],[],[],[]⟩) ⟨by simp,by simp,by simp,rfl⟩ hl (by omega);unfold formL;cases hh:headsL (l.length+1) ⟨[],[],[],[]⟩ l with
 | error e=>rw[hh]at h1;exact h1
 | ok q=>
  obtain⟨x,l1⟩:=q;rw[hh]at h1;obtain⟨g1,g2,g3⟩:=h1;have h2:=one_q g2;simp only;cases ho:oneR l1 with
  | error e=>rw[ho]at h2;exact h2
  | ok q=>
   obtain⟨r,l2⟩:=q;rw[ho]at h2;obtain⟨k1,k2,k3⟩:=h2;have h3:=more_q (l.length+1) (a:=[r]) (fun u hu=>by rw[mS.1 hu];exact k1) k2 (by omega);simp only;cases hm:moreR (l.length+1) [r] l2 with
   | error e=>rw[hm]at h3;exact h3
   | ok rs=>rw[hm]at h3;exact⟨⟨g1.decl,g1.marks,g1.starts,g1.same⟩,h3⟩
theorem toks_q{sz:Nat}(h8:sz≤8192):∀(f p:Nat) (l:List UInt8) {ts:List Tk},p+l.length=sz→toksL sz f p l=.ok ts→Ended ts∧(∀t∈ts,TQ t)∧ts.length≤l.length+1
 | 0,_,_,_,_,he=>by cases he
 | f+1,p,l,ts,hp,he=>by
  simp only[toksL]at he;split at he
  ·injection he with he;subst he
   exact⟨rfl,fun t ht=>by rw[mS.1 ht];exact⟨by simp,h8⟩,by simp⟩
  ·rename_i hne
   have hlp:0<l.length:=by cases l with|nil=>simp at hne|cons _ _=>simp
   cases ho:oneL sz p l with
   | error e=>rw[ho]at he;cases he
   | ok q=>
    obtain⟨k,n⟩:=q;have hn:=(one_ok ho).2 hlp;have hnl:=one_len ho (by omega);rw[ho]at he;simp only at he;cases hq:toksL sz f (p+n) (l.drop n) with
    | error e=>rw[hq]at he;cases he
    | ok ts'=>
     rw[hq]at he;injection he with he;obtain⟨g1,g2,g3⟩:=toks_q h8 f (p+n) (l.drop n) (by rw[List.length_drop];omega) hq;rw[List.length_drop]at g3;subst he;split
     ·exact⟨g1,g2,by omega⟩
     ·rename_i hk
      refine⟨?_,fun t ht=>?_,by simp;omega⟩
      ·obtain⟨u,r,hu⟩:=g1.cons
       rw[hu]at g1 ⊢;exact⟨hk,g1⟩
      ·rcases List.mem_cons.1 ht with rfl|ht
       ·exact⟨by simp;omega,by show p≤8192;omega⟩
       ·exact g2 t ht
theorem tokens_q{l:List UInt8}{ts:List Tk}(h:tokens l=.ok ts):Ql ts:=by
 unfold tokens at h;split at h
 ·cases h
 ·rename_i h8
  obtain⟨g1,g2,g3⟩:=toks_q (by omega) _ 0 l (by omega) h;exact⟨g1,g2,by omega⟩
theorem decl_e{lf:Nme→Bool}:∀(l:List Tk) (m:Option (Nat×Tk)) (T:List Nme) {f:Flt},declL lf m l T=.error f→f.1≠0
 | [],none,T,f,h=>by cases h
 | [],some (m,st),T,f,h=>by
  unfold declL startT at h;by_cases hl:lf st.s=true
  ·rw[if_pos hl]at h;cases h
  ·rw[if_neg hl]at h;injection h with h;rw[←h];simp
 | t::l,none,T,f,h=>by
  unfold declL at h;cases hd:declT T t with
  | error e=>
   rw[hd]at h;injection h with h;rw[←h];unfold declT at hd;split at hd
   ·injection hd with hd;rw[←hd];simp
   split at hd
   ·injection hd with hd;rw[←hd];simp
   ·cases hd
  | ok T'=>rw[hd]at h;exact decl_e l none T' h
 | t::l,some (m,st),T,f,h=>by
  have hdd:∀(o:Option (Nat×Tk)),(match declT T t with | .error e=>Except.error e | .ok T'=>declL lf o l T')=.error f→f.1≠0:=by
   intro o h;cases hd:declT T t with
   | error e=>
    rw[hd]at h;injection h with h;rw[←h];unfold declT at hd;split at hd
    ·injection hd with hd;rw[←hd];simp
    split at hd
    ·injection hd with hd;rw[←hd];simp
    ·cases hd
   | ok T'=>rw[hd]at h;exact decl_e l o T' h
  unfold declL at h;split at h
  ·unfold startT at h
   by_cases hl:lf st.s=true
   ·rw[if_pos hl]at h;exact hdd none h
   ·rw[if_neg hl]at h;injection h with h;rw[←h];simp
  ·exact hdd (some (m,st)) h
theorem headsB_e{x:Txt}{f:Flt}(h:headsB x=.error f):f.1≠0:=by
 unfold headsB at h;cases hd:declL (leftOf x) (markT x) x.decl [] with
 | error e=>
  rw[hd]at h;simp only at h;split at h
  ·injection h with h;rw[←h];simp
  ·injection h with h;rw[←h];exact decl_e _ _ _ hd
 | ok T=>
  rw[hd]at h;simp only at h;split at h
  ·injection h with h;rw[←h];simp
  ·cases h
theorem syms_e{lf:Nme→Bool}:∀(l:List Tk) (b:Bd) (k:Nat) {f:Flt},symsB lf b k l=.error f→f.1≠0
 | [],b,k,f,h=>by cases h
 | t::l,b,k,f,h=>by
  unfold symsB at h;cases hs:symbolB lf b t k with
  | error e=>
   rw[hs]at h;injection h with h;rw[←h];unfold symbolB at hs;split at hs
   ·injection hs with hs;rw[←hs];simp
   split at hs
   ·cases hs
   split at hs
   ·split at hs
    ·injection hs with hs;rw[←hs];simp
    ·cases hs
   split at hs
   ·cases hs
   ·injection hs with hs;rw[←hs];simp
  | ok b'=>rw[hs]at h;exact syms_e l b' (k+1) h
theorem side_e{lf:Nme→Bool}{b:Bd}{left:Nme}{s:PS}{f:Flt}(h:sideB lf b left s=.error f):f.1≠0:=by
 unfold sideB at h;split at h
 ·injection h with h;rw[←h];simp
 cases hs:symsB lf b 0 s.l with
 | error e=>rw[hs]at h;injection h with h;rw[←h];exact syms_e _ _ _ hs
 | ok b'=>
  rw[hs]at h;simp only at h;split at h
  ·injection h with h;rw[←h];simp
  ·cases h
theorem sides_e{lf:Nme→Bool}{left:Nme}:∀(l:List PS) (b:Bd) {f:Flt},sidesB lf left b l=.error f→f.1≠0
 | [],b,f,h=>by cases h
 | s::l,b,f,h=>by
  unfold sidesB at h;cases hs:sideB lf b left s with
  | error e=>rw[hs]at h;injection h with h;rw[←h];exact side_e hs
  | ok b'=>rw[hs]at h;exact sides_e l b' h
theorem rules_e{lf:Nme→Bool}{D:Nat}:∀(l:List PR) (b:Bd) {f:Flt},rulesB lf D b l=.error f→f.1≠0
 | [],b,f,h=>by cases h
 | r::l,b,f,h=>by
  unfold rulesB ruleB at h;cases hl:leftB D b r.left with
  | error e=>
   rw[hl]at h;injection h with h;rw[←h];unfold leftB at hl;split at hl
   ·injection hl with hl;rw[←hl];simp
   split at hl
   ·cases hl
   split at hl
   ·injection hl with hl;rw[←hl];simp
   ·cases hl
  | ok b1=>
   rw[hl]at h;simp only at h;cases hs:sidesB lf r.left.s b1 r.sides with
   | error e=>rw[hs]at h;injection h with h;rw[←h];exact sides_e _ _ hs
   | ok b2=>rw[hs]at h;exact rules_e l b2 h
theorem build_e{x:Txt}{f:Flt}(h:buildL x=.error f):f.1≠0:=by
 unfold buildL at h;cases hh:headsB x with
 | error e=>rw[hh]at h;injection h with h;rw[←h];exact headsB_e hh
 | ok T=>
  rw[hh]at h;simp only at h;cases hr:rulesB (leftOf x) T.length ⟨T,[],[]⟩ x.rules with
  | error e=>rw[hr]at h;injection h with h;rw[←h];exact rules_e _ _ hr
  | ok b=>rw[hr]at h;cases h
theorem second_q{x:Txt}(h:x.q):secondL x.marks≤100000:=by
 have hm:=h.marks;unfold secondL;split
 ·rename_i a m r e
  have:=hm m (by rw[e];simp);omega
 ·omega
def Text(w:World)(s:ByteArray)(e:Ending)(w':World):Prop:=e=.returned (.string s)∧Below w.heap.size w w'
theorem name_term{g:Gm}{s:Int}(h:g.term s=true):1≤s∧∃k:Nat,s=(k:Int)+1∧k<g.T.length∧∃x,g.T[k]?=some x∧g.name s=x:=by unfold Gm.term at h;rw[Bool.and_eq_true,decide_eq_true_eq,decide_eq_true_eq]at h;refine⟨h.1,(s-1).toNat,by omega,by omega,g.T[(s-1).toNat]'(by omega),eG _,?_⟩;unfold Gm.name;rw[if_neg (by omega),if_neg (by omega),dG,gL (by omega),eG (by omega)];rfl
theorem name_non{g:Gm}{s:Int}(h:g.non s=true):∃k:Nat,s=(g.T.length:Int)+k+1∧k<g.N.length∧∃x,g.N[k]?=some x∧g.name s=x:=by
 unfold Gm.non at h;rw[Bool.and_eq_true,decide_eq_true_eq,decide_eq_true_eq]at h;refine⟨(s-1-g.T.length).toNat,by omega,by omega,g.N[(s-1-g.T.length).toNat]'(by omega),eG _,?_⟩;unfold Gm.name;have e:(s-1).toNat=g.T.length+(s-1-g.T.length).toNat:=by omega
 rw[if_neg (by omega),if_neg (by omega),dG,List.getElem?_append_right (by omega),e,Nat.add_sub_cancel_left,eG (by omega)];rfl
theorem name_else{g:Gm}{s:Int}(h0:s≠0)(h1:g.term s=false)(h2:g.non s=false):g.name s=⟨#[]⟩:=by unfold Gm.term at h1;unfold Gm.non at h2;rw[Bool.and_eq_false_iff,decide_eq_false_iff_not,decide_eq_false_iff_not]at h1 h2;unfold Gm.name;rw[if_neg h0,if_pos (by omega)]
theorem name_zero(g:Gm):g.name 0=⟨#[36]⟩:=by unfold Gm.name;rw[if_pos rfl]
set_option maxRecDepth 100000 in
set_option maxHeartbeats 1600000 in
theorem gname_any{w:World}{v:Value}{g:Gm}(h:GrR w v g)(s:Int)(hs : -9223372036854775808≤s):Calls Tryz.prog 31 #[v,.int .i64 s] w (Text w (g.name s)):=by
 have hT20:=h.small.2.2.1;have hN20:=h.small.2.2.2.1;have HTM:=Hd (fun y (hy:Below w.heap.size w y)=>term_any (h.later hy) s);have HNM:=Hd (fun y (hy:Below w.heap.size w y)=>non_any (h.later hy) s);have HG:=Hd (GBox.new w 32 v);obtain⟨AT,cT,AN,cN,AR,cR,rfl,hT,hN,hR⟩:=h.open_;obtain⟨⟨A1,c1,e1,hc1⟩,_⟩:=hT;cases e1
 obtain⟨⟨A2,c2,e2,hc2⟩,_⟩:=hN;cases e2
 have HC1:=Hd hc1;have HC2:=Hd hc2;have HN1:=Hd (@name_term g s);have HN2:=Hd (@name_non g s);have HN3:=Hd (@name_else g s);clear h hR hc1 hc2;by_cases h0:s=0
 ·subst h0
  rw[name_zero];clear HN1 HN2 HN3 HTM HNM;generalize g.T.length=nT at *;generalize g.N.length=nN at *;go_enter Tryz.func31,Tryz.ntmps31
  go_wp2;go_ret;exact⟨rfl,below_alloc _ _⟩
 have hs0:(s==0)=false:=by simpa using h0
 cases ht:g.term s with
 | true=>
  rw[ht]at HTM;obtain⟨hp,k,hk,hlt,x,hx,hnm⟩:=HN1.out ht;rw[hnm];obtain⟨b,off,hA,hlt0,hcell⟩:=HC1.out k x hx;subst hA;simp only[StrV]at hcell;clear HN1 HN2 HN3 HNM ht hx hnm;generalize g.T.length=nT at *;generalize g.N.length=nN at *;generalize g.R.length=nR at *;have hsub:s-1=(k:Int):=by omega
  clear hk hp;go_enter Tryz.func31,Tryz.ntmps31
  go_wp2_with fail
  refine(HTM.out _ (below_alloc w _)).mono ?_;rintro e w1 ⟨rfl,hb1⟩;have HB1:=Hd (below_alloc_trans hb1);obtain⟨d0,d1,d2,d3⟩:=(HG.out.later hb1).four;have e1:=(HB1.out.cell (p:=⟨b,off+k,none⟩) hlt0).trans hcell;clear hb1 hcell;go_wp2;go_ret;exact⟨rfl,HB1.out⟩
 | false=>
  rw[ht]at HTM;cases hn:g.non s with
  | true=>
   rw[hn]at HNM;obtain⟨k,hk,hlt,x,hx,hnm⟩:=HN2.out hn;rw[hnm];obtain⟨b,off,hA,hlt0,hcell⟩:=HC2.out k x hx;subst hA;simp only[StrV]at hcell;clear HN1 HN2 HN3 ht hn hx hnm;generalize g.T.length=nT at *;generalize g.N.length=nN at *;generalize g.R.length=nR at *;have hsub:s-1-(nT:Int)=(k:Int):=by omega
   clear hk;go_enter Tryz.func31,Tryz.ntmps31
   go_wp2_with fail
   refine(HTM.out _ (below_alloc w _)).mono ?_;rintro e w1 ⟨rfl,hb1⟩;have HB1:=Hd (below_alloc_trans hb1);have HG1:=Hd (HG.out.later hb1);obtain⟨d0,d1,d2,d3⟩:=HG1.out.four;clear hb1;go_wp2_with fail
   refine(HNM.out _ HB1.out).mono ?_;rintro e w2 ⟨rfl,hb2⟩;have HB2:=Hd (HB1.out.trans (hb2.mono HB1.out.size));clear d0 d1 d2 d3;obtain⟨d0,d1,d2,d3⟩:=(HG1.out.later hb2).four;have e1:=(HB2.out.cell (p:=⟨b,off+k,none⟩) hlt0).trans hcell;clear hb2 hcell;go_wp2;go_ret;exact⟨rfl,HB2.out⟩
  | false=>
   rw[hn]at HNM;rw[HN3.out h0 ht hn];clear HN1 HN2 HN3 ht hn;generalize g.T.length=nT at *;generalize g.N.length=nN at *;generalize g.R.length=nR at *;go_enter Tryz.func31,Tryz.ntmps31
   go_wp2_with fail
   refine(HTM.out _ (below_alloc w _)).mono ?_;rintro e w1 ⟨rfl,hb1⟩;have HB1:=Hd (below_alloc_trans hb1);have HG1:=Hd (HG.out.later hb1);obtain⟨d0,d1,d2,d3⟩:=HG1.out.four;clear hb1;go_wp2_with fail
   refine(HNM.out _ HB1.out).mono ?_;rintro e w2 ⟨rfl,hb2⟩;have HB2:=Hd (HB1.out.trans (hb2.mono HB1.out.size));clear d0 d1 d2 d3 hb2;go_wp2;go_ret;exact⟨rfl,HB2.out⟩
section
variable {w:World} {v:Value} {g:Gm}
end
end Go.Proofs.YthaacmablcpdfaaGreatDoor
