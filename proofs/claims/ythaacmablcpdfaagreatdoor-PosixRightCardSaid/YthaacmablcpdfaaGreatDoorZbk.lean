/- Where the maker of lookaheads stands behind its. -/
import Derived.Test.YthaacmablcpdfaaGreatDoorZbj
import Derived.Test.YthaacmablcpdfaaGreatDoorNm
namespace Go.Proofs.YthaacmablcpdfaaGreatDoor
open Go.RowKit
set_option linter.unusedVariables false
set_option maxRecDepth 100000
theorem ElEdge:El Tryz.prog 190 240 4 32:=El.of (z:=.agg #[.int .i64 0,.int .i64 0,.pointer none,.bool false]) Tryz.underlying190 (by kernel_rfl) rfl (by decide)
theorem ElFinal:El Tryz.prog 246 248 2 16:=El.of (z:=.agg #[.int .i64 0,.int .i64 0]) Tryz.underlying246 (by kernel_rfl) rfl (by decide)
structure FFam(w:World)(B1 B g n c:Nat)(R:List (Value×List It)):Prop where
 row:w.ownsRow B1 246 1 (.slice (some ⟨g,0,none⟩) n c) n (R.map (·.1))
 own:∀(k:Nat) (x:Value×List It),R[k]?=some x→w.ownsRow B 248 2 x.1 x.2.length (x.2.flatMap itC)
 apart:∀(i j:Nat) (x y:Value×List It),R[i]?=some x→R[j]?=some y→i≠j→∀k,x.1.ownBlock=some k→y.1.ownBlock≠some k
theorem FFam.len{w:World}{B1 B g n c:Nat}{R:List (Value×List It)}(h:FFam w B1 B g n c R):R.length=n:=by have:=h.row.1;simpa using this
theorem FFam.later{w w':World}{B1 B g n c:Nat}{R:List (Value×List It)}(h:FFam w B1 B g n c R)(hb:Below w.heap.size w w'):FFam w' B1 B g n c R:=
 ⟨own_below h.row hb,fun k x hx=>own_below (h.own k x hx) hb,h.apart⟩
theorem FFam.chg{X:Nat→Prop}{w w':World}{B1 B g n c:Nat}{R:List (Value×List It)}(h:FFam w B1 B g n c R)(hc:Chg X w w')(hg:¬X g)(hX:∀(k:Nat) (x:Value×List It),R[k]?=some x→∀b,x.1.ownBlock=some b→¬X b):FFam w' B1 B g n c R:=
 ⟨hc.own h.row (fun k hk=>by cases hk;exact hg),fun k x hx=>hc.own (h.own k x hx) (hX k x hx),h.apart⟩
theorem FFam.blk{w:World}{B1 B g n c:Nat}{R:List (Value×List It)}(h:FFam w B1 B g n c R):∃cur,Blk w g 246 cur:=by
 rcases h.row.2 with⟨hh,_⟩|⟨g',cap,cur,hh,hB,hgg,_⟩
 ·cases hh
 ·cases hh;exact⟨cur,hgg⟩
theorem FFam.put{w W w3:World}{B1 B g n c:Nat}{R:List (Value×List It)}(h:FFam w B1 B g n c R)(hW:Below w.heap.size w W){s:Nat}{x:Value×List It}(hx:R[s]?=some x){nv:Value}{l:List It}
  (r1:w3.ownsRow B 248 2 nv l.length (l.flatMap itC)) (r2:Keeps B [248] W w3) (r3:W.grownBy w3 x.1.ownBlock∧(nv.ownBlock=x.1.ownBlock∨nv.ownBlock=some W.heap.size)):FFam (w3.setCell ⟨g,s,none⟩ nv) B1 B g n c (R.set s (nv,l)):=by
 have hW0:=h.later hW;obtain⟨hs,hx2⟩:=sG.1 hx;have hlen:=h.len;obtain⟨cur,hcur⟩:=hW0.blk;have hc3:=r2.blk hcur (.inr (by decide));have hc:Chg (·=g) w3 (w3.setCell ⟨g,s,none⟩ nv):=Chg.set (X:=(·=g)) (Chg.refl _ w3) (p:=⟨g,s,none⟩) (.inr rfl) _;have hrow3:=r2.own hW0.row (.inr (by decide));refine⟨?_,?_,?_⟩
 ·have:=own_set hrow3 s (by omega) nv
  rw[List.map_set];exact this
 ·intro k y hy
  by_cases hk:k=s
  ·subst hk
   rw[tG hs]at hy;cases hy
   exact hc.own r1 (own_neb r1 hc3 (by decide))
  ·rw[uG (fun e=>hk e.symm)]at hy
   have hy0:=hW0.own k y hy;have hy3:w3.ownsRow B 248 2 y.1 y.2.length (y.2.flatMap itC):=(Chg.of_grown r3.1).own hy0 (fun b hb he=>h.apart s k x y hx hy (fun e=>hk e.symm) b he hb);exact hc.own hy3 (own_neb hy3 hc3 (by decide))
 ·intro i j a b ha hb hij k hak hbk
  have key:∀(m:Nat) (y:Value×List It),R[m]?=some y→m≠s→∀k,nv.ownBlock=some k→y.1.ownBlock≠some k:=fun m y hy hm k h1 h2=>by
   rcases r3.2 with e|e
   ·rw[e]at h1
    exact h.apart s m x y hx hy (fun e=>hm e.symm) k h1 h2
   ·rw[e]at h1
    cases h1
    have:=(own_lt (hW0.own m y hy) _ h2).1;omega
  by_cases hi:i=s
  ·subst hi
   rw[tG hs]at ha;cases ha
   rw[uG hij]at hb;exact key j b hb (fun e=>hij e.symm) k hak hbk
  ·rw[uG (fun e=>hi e.symm)]at ha
   by_cases hj:j=s
   ·subst hj
    rw[tG hs]at hb;cases hb
    exact key i a ha hi k hbk hak
   ·rw[uG (fun e=>hj e.symm)]at hb
    exact h.apart i j a b ha hb hij k hak hbk
theorem Keeps.chg{B:Nat}{T:List TypeId}{w w':World}(h:Keeps B T w w'):Chg (fun b=>B≤b) w w':=⟨h.os,h.tape,h.output,h.size,fun k hk hx=>h.block k hk (.inl (by omega))⟩
def XL(mb fb z:Nat)(b:Nat):Prop:=b=mb∨b=fb∨z≤b
def Sx(mb fb z:Nat)(b:Nat):Prop:=b<z∧b≠mb∧b≠fb
theorem Sx.no{mb fb z b:Nat}(h:Sx mb fb z b):¬XL mb fb z b:=by
 obtain⟨h1,h2,h3⟩:=h;rintro(e|e|e)
 ·exact h2 e
 ·exact h3 e
 ·omega
def hV(h:Option SetH):Value:=match h with|none=>.pointer none|some s=>s.v
def edC(z:Option SetH×Edge):List Value:=[.int .i64 (z.2.dst:Nat),.int .i64 (z.2.at_:Nat),hV z.1,.bool z.2.self]
def EdOk(w:World)(m:Nat)(P:List SetH)(h:Option SetH)(S:Nat):Prop:=match h with|none=>S=0|some s=>SetAt w s S∧s.n=m∧∀p∈P,s.wb≠p.wb
theorem EdOk.later{w w':World}{m:Nat}{P:List SetH}{h:Option SetH}{S:Nat}(k:EdOk w m P h S)(hb:Below w.heap.size w w'):EdOk w' m P h S:=by
 cases h with
 | none=>exact k
 | some s=>exact⟨k.1.later hb,k.2⟩
theorem EdOk.keeps{w w':World}{m:Nat}{P:List SetH}{h:Option SetH}{S B:Nat}{T:List TypeId}(k:EdOk w m P h S)(hk:Keeps B T w w')(h1:161 ∉ T)(h2:156 ∉ T):EdOk w' m P h S:=by
 cases h with
 | none=>exact k
 | some s=>exact⟨k.1.keeps hk h1 h2,k.2⟩
theorem EdOk.push{w w':World}{m:Nat}{P:List SetH}{h:Option SetH}{S:Nat}(k:EdOk w m P h S)(hb:Below w.heap.size w w'){t:SetH}(ht:w.heap.size≤t.wb):EdOk w' m (P++[t]) h S:=by
 cases h with
 | none=>exact k
 | some s=>
  refine⟨k.1.later hb,k.2.1,fun p hp=>?_⟩;rcases mA.1 hp with h1|h1
  ·exact k.2.2 p h1
  ·rw[mS.1 h1]
   have:=k.1.words.lt;omega
structure Mk(w1 w3 wr:World)(mb fb n c:Nat)(v lv rv tlv uv cv bv av ev:Value)(g:Gz)(base:List Nat)(P:List SetH)(S:List Nat)(ED:List (Option SetH×Edge))(FR:List (Value×List It)):Prop where
 below:Below w1.heap.size w1 wr
 vf:∃x0 x1 x2 x3,v=.agg #[x0,x1,x2,x3]
 lo:w1.heap.size≤mb∧w1.heap.size≤fb∧w1.heap.size≤w3.heap.size
 chg:Chg (XL mb fb w3.heap.size) w3 wr
 blk:Blk wr mb 192 (MkA v lv rv tlv uv cv bv av ev (.slice (some ⟨fb,0,none⟩) n c))
 bas:wr.ownsRow w3.heap.size 3 1 bv base.length (base.map NatV)
 all:wr.ownsRow w3.heap.size 90 1 av P.length (P.map SetH.v)
 fam:Fam wr (g.nt+1) P S
 new:∀p∈P,w3.heap.size≤p.h∧w3.heap.size≤p.wb
 edges:wr.ownsRow w3.heap.size 240 4 ev ED.length (ED.flatMap edC)
 eset:∀z∈ED,EdOk wr (g.nt+1) P z.1 z.2.set
 fin:FFam wr w1.heap.size w3.heap.size fb n c FR
section
variable {w1 w3 wr w2 W W2:World} {mb fb n c:Nat} {v lv rv tlv uv cv bv av ev:Value} {g:Gz} {base:List Nat} {P:List SetH} {S:List Nat} {ED:List (Option SetH×Edge)} {FR:List (Value×List It)}
theorem Mk.later(h:Mk w1 w3 wr mb fb n c v lv rv tlv uv cv bv av ev g base P S ED FR)(hb:Below wr.heap.size wr w2):Mk w1 w3 w2 mb fb n c v lv rv tlv uv cv bv av ev g base P S ED FR:=
 ⟨h.below.trans (hb.mono h.below.size),h.vf,h.lo,h.chg.next (Chg.of_below hb),h.blk.below hb h.blk.lt,own_below h.bas hb,own_below h.all hb,h.fam.later hb,h.new,own_below h.edges hb,fun z hz=>(h.eset z hz).later hb,h.fin.later hb⟩
theorem FFam.keeps{B0 B1 B g n c:Nat}{T:List TypeId}{R:List (Value×List It)}(h:FFam wr B1 B g n c R)(hk:Keeps B0 T wr w2)(h1:248 ∉ T)(h2:246 ∉ T):FFam w2 B1 B g n c R:=
 ⟨hk.own h.row (.inr h2),fun k x hx=>hk.own (h.own k x hx) (.inr h1),h.apart⟩
theorem Mk.freshed(h:Mk w1 w3 wr mb fb n c v lv rv tlv uv cv bv av ev g base P S ED FR)(hb:Below wr.heap.size wr W){t:SetH}(hs:SetAt W t 0)(hn:t.n=g.nt+1)(hlt:wr.heap.size≤t.h∧wr.heap.size≤t.wb){A:Option Addr}{c2:Nat}
  (r1:W2.ownsRow w3.heap.size 90 1 (.slice A (P.length+1) c2) (P.length+1) (P.map SetH.v++[t.v])) (r2:Keeps w3.heap.size [90] W W2) :
  Mk w1 w3 (W2.setCell ⟨mb,10,none⟩ (.slice A (P.length+1) c2)) mb fb n c v lv rv tlv uv cv bv (.slice A (P.length+1) c2) ev g base (P++[t]) (S++[0]) ED FR∧Keeps w1.heap.size [192,90] wr (W2.setCell ⟨mb,10,none⟩ (.slice A (P.length+1) c2)) ∧
  (∀(q:Option SetH) (T:Nat),EdOk wr (g.nt+1) P q T→EdOk (W2.setCell ⟨mb,10,none⟩ (.slice A (P.length+1) c2)) (g.nt+1) (P++[t]) q T):=by
 have hlo:=h.lo;have hz:=h.chg.size;have hW:=h.later hb;have b2:Blk W2 mb 192 _:=r2.blk hW.blk (.inr (by decide));have hk:Keeps w1.heap.size [192] W2 (W2.setCell ⟨mb,10,none⟩ (.slice A (P.length+1) c2)):=(Keeps.refl _ _ W2).setBlk b2 hlo.1 (by simp) 10 _;have hc:Chg (·=mb) W2 (W2.setCell ⟨mb,10,none⟩ (.slice A (P.length+1) c2)):=Chg.set (X:=(·=mb)) (Chg.refl _ W2) (p:=⟨mb,10,none⟩) (.inr rfl) _;have he:∀(q:Option SetH) (T:Nat),EdOk wr (g.nt+1) P q T→EdOk (W2.setCell ⟨mb,10,none⟩ (.slice A (P.length+1) c2)) (g.nt+1) (P++[t]) q T:=fun q T hq=>((hq.push hb hlt.2).keeps r2 (by decide) (by decide)).keeps hk (by decide) (by decide)
 have hs2:w1.heap.size≤W.heap.size:=hW.below.size;refine⟨⟨(hW.below.trans ((r2.mono hlo.2.2 (T':=[90]) (fun _ h=>h)).below hs2)).setCell (p:=⟨mb,10,none⟩) hlo.1 _,h.vf,hlo,(hW.chg.next ((r2.chg).mono fun b hb=>.inr (.inr hb))).next (hc.mono fun b hb=>.inl hb),?_,hk.own (r2.own hW.bas (.inr (by decide))) (.inr (by decide)),?_,?_,?_,hk.own (r2.own hW.edges (.inr (by decide))) (.inr (by decide)),fun z hz=>he _ _ (h.eset z hz),(hW.fin.keeps r2 (by decide) (by decide)).keeps hk (by decide) (by decide)⟩,?_,he⟩
 ·obtain⟨x0,x1,x2,x3,rfl⟩:=h.vf
  exact b2.set_ 10 _
 ·rw[mpA,lnA]
  exact hk.own (by simpa using r1) (.inr (by decide))
 ·exact((h.fam.push hb hs hn hlt.2).keeps r2 (by decide) (by decide)).keeps hk (by decide) (by decide)
 ·intro p hp
  rcases mA.1 hp with h1|h1
  ·exact h.new p h1
  ·rw[mS.1 h1]
   omega
 ·exact((Keeps.of_below hb).trans (r2.mono hlo.2.2 (fun t ht=>by simp at ht ⊢;exact .inr ht))).trans (hk.mono (leR _) (fun t ht=>by simp at ht ⊢;exact .inl ht))
theorem Mk.based(h:Mk w1 w3 wr mb fb n c v lv rv tlv uv cv bv av ev g base P S ED FR)(hb:Below wr.heap.size wr W){x:Nat}{A:Option Addr}{c2:Nat}(r1:W2.ownsRow w3.heap.size 3 1 (.slice A (base.length+1) c2) (base.length+1) (base.map NatV++[.int .i64 (x:Nat)]))(r2:Keeps w3.heap.size [3] W W2) :
  Mk w1 w3 (W2.setCell ⟨mb,9,none⟩ (.slice A (base.length+1) c2)) mb fb n c v lv rv tlv uv cv (.slice A (base.length+1) c2) av ev g (base++[x]) P S ED FR∧Keeps w1.heap.size [192,3] wr (W2.setCell ⟨mb,9,none⟩ (.slice A (base.length+1) c2)):=by
 have hlo:=h.lo;have hW:=h.later hb;have b2:Blk W2 mb 192 _:=r2.blk hW.blk (.inr (by decide));have hk:Keeps w1.heap.size [192] W2 (W2.setCell ⟨mb,9,none⟩ (.slice A (base.length+1) c2)):=(Keeps.refl _ _ W2).setBlk b2 hlo.1 (by simp) 9 _;have hc:Chg (·=mb) W2 (W2.setCell ⟨mb,9,none⟩ (.slice A (base.length+1) c2)):=Chg.set (X:=(·=mb)) (Chg.refl _ W2) (p:=⟨mb,9,none⟩) (.inr rfl) _;have hs2:w1.heap.size≤W.heap.size:=hW.below.size;refine⟨⟨(hW.below.trans ((r2.mono hlo.2.2 (T':=[3]) (fun _ h=>h)).below hs2)).setCell (p:=⟨mb,9,none⟩) hlo.1 _,h.vf,hlo,(hW.chg.next ((r2.chg).mono fun b hb=>.inr (.inr hb))).next (hc.mono fun b hb=>.inl hb),?_,?_,hk.own (r2.own hW.all (.inr (by decide))) (.inr (by decide)),(hW.fam.keeps r2 (by decide) (by decide)).keeps hk (by decide) (by decide),h.new,hk.own (r2.own hW.edges (.inr (by decide))) (.inr (by decide)),fun z hz=>((hW.eset z hz).keeps r2 (by decide) (by decide)).keeps hk (by decide) (by decide),(hW.fin.keeps r2 (by decide) (by decide)).keeps hk (by decide) (by decide)⟩,?_⟩
 ·obtain⟨x0,x1,x2,x3,rfl⟩:=h.vf
  exact b2.set_ 9 _
 ·rw[mpA,lnA]
  exact hk.own r1 (.inr (by decide))
 ·exact((Keeps.of_below hb).trans (r2.mono hlo.2.2 (fun t ht=>by simp at ht ⊢;exact .inr ht))).trans (hk.mono (leR _) (fun t ht=>by simp at ht ⊢;exact .inl ht))
theorem Mk.edged(h:Mk w1 w3 wr mb fb n c v lv rv tlv uv cv bv av ev g base P S ED FR)(hb:Below wr.heap.size wr W){x:Option SetH×Edge}(hx:EdOk wr (g.nt+1) P x.1 x.2.set){A:Option Addr}{c2:Nat}(r1:W2.ownsRow w3.heap.size 240 4 (.slice A (ED.length+1) c2) (ED.length+1) (ED.flatMap edC++edC x))(r2:Keeps w3.heap.size [240] W W2) :
  Mk w1 w3 (W2.setCell ⟨mb,11,none⟩ (.slice A (ED.length+1) c2)) mb fb n c v lv rv tlv uv cv bv av (.slice A (ED.length+1) c2) g base P S (ED++[x]) FR∧Keeps w1.heap.size [192,240] wr (W2.setCell ⟨mb,11,none⟩ (.slice A (ED.length+1) c2)):=by
 have hlo:=h.lo;have hW:=h.later hb;have b2:Blk W2 mb 192 _:=r2.blk hW.blk (.inr (by decide));have hk:Keeps w1.heap.size [192] W2 (W2.setCell ⟨mb,11,none⟩ (.slice A (ED.length+1) c2)):=(Keeps.refl _ _ W2).setBlk b2 hlo.1 (by simp) 11 _;have hc:Chg (·=mb) W2 (W2.setCell ⟨mb,11,none⟩ (.slice A (ED.length+1) c2)):=Chg.set (X:=(·=mb)) (Chg.refl _ W2) (p:=⟨mb,11,none⟩) (.inr rfl) _;have hs2:w1.heap.size≤W.heap.size:=hW.below.size;refine⟨⟨(hW.below.trans ((r2.mono hlo.2.2 (T':=[240]) (fun _ h=>h)).below hs2)).setCell (p:=⟨mb,11,none⟩) hlo.1 _,h.vf,hlo,(hW.chg.next ((r2.chg).mono fun b hb=>.inr (.inr hb))).next (hc.mono fun b hb=>.inl hb),?_,hk.own (r2.own hW.bas (.inr (by decide))) (.inr (by decide)),hk.own (r2.own hW.all (.inr (by decide))) (.inr (by decide)),(hW.fam.keeps r2 (by decide) (by decide)).keeps hk (by decide) (by decide),h.new,?_,?_,(hW.fin.keeps r2 (by decide) (by decide)).keeps hk (by decide) (by decide)⟩,?_⟩
 ·obtain⟨x0,x1,x2,x3,rfl⟩:=h.vf
  exact b2.set_ 11 _
 ·rw[List.flatMap_append,lnA]
  exact hk.own (by simpa using r1) (.inr (by decide))
 ·intro z hz
  rcases mA.1 hz with h1|h1
  ·exact((hW.eset z h1).keeps r2 (by decide) (by decide)).keeps hk (by decide) (by decide)
  ·rw[mS.1 h1]
   exact((hx.later hb).keeps r2 (by decide) (by decide)).keeps hk (by decide) (by decide)
 ·exact((Keeps.of_below hb).trans (r2.mono hlo.2.2 (fun t ht=>by simp at ht ⊢;exact .inr ht))).trans (hk.mono (leR _) (fun t ht=>by simp at ht ⊢;exact .inl ht))
theorem Mk.ended(h:Mk w1 w3 wr mb fb n c v lv rv tlv uv cv bv av ev g base P S ED FR)(hb:Below wr.heap.size wr W){s:Nat}{y:Value×List It}(hy:FR[s]?=some y){x:It}{A:Option Addr}{c2:Nat}(r1:W2.ownsRow w3.heap.size 248 2 (.slice A (y.2.length+1) c2) (y.2.length+1) (y.2.flatMap itC++itC x))(r2:Keeps w3.heap.size [248] W W2)(r3:W.grownBy W2 y.1.ownBlock∧((Value.slice A (y.2.length+1) c2).ownBlock=y.1.ownBlock∨(Value.slice A (y.2.length+1) c2).ownBlock=some W.heap.size)) :
  Mk w1 w3 (W2.setCell ⟨fb,s,none⟩ (.slice A (y.2.length+1) c2)) mb fb n c v lv rv tlv uv cv bv av ev g base P S ED (FR.set s (.slice A (y.2.length+1) c2,y.2++[x]))∧Keeps w1.heap.size [246,248] wr (W2.setCell ⟨fb,s,none⟩ (.slice A (y.2.length+1) c2)):=by
 have hlo:=h.lo;have hW:=h.later hb;obtain⟨cur,hcur⟩:=hW.fin.blk;have b2:Blk W2 fb 246 _:=r2.blk hcur (.inr (by decide));have hk:Keeps w1.heap.size [246] W2 (W2.setCell ⟨fb,s,none⟩ (.slice A (y.2.length+1) c2)):=(Keeps.refl _ _ W2).setBlk b2 hlo.2.1 (by simp) s _;have hc:Chg (·=fb) W2 (W2.setCell ⟨fb,s,none⟩ (.slice A (y.2.length+1) c2)):=Chg.set (X:=(·=fb)) (Chg.refl _ W2) (p:=⟨fb,s,none⟩) (.inr rfl) _;have hs2:w1.heap.size≤W.heap.size:=hW.below.size;refine⟨⟨(hW.below.trans ((r2.mono hlo.2.2 (T':=[248]) (fun _ h=>h)).below hs2)).setCell (p:=⟨fb,s,none⟩) hlo.2.1 _,h.vf,hlo,(hW.chg.next ((r2.chg).mono fun b hb=>.inr (.inr hb))).next (hc.mono fun b hb=>.inr (.inl hb)),hk.blk (r2.blk hW.blk (.inr (by decide))) (.inr (by decide)),hk.own (r2.own hW.bas (.inr (by decide))) (.inr (by decide)),hk.own (r2.own hW.all (.inr (by decide))) (.inr (by decide)),(hW.fam.keeps r2 (by decide) (by decide)).keeps hk (by decide) (by decide),h.new,hk.own (r2.own hW.edges (.inr (by decide))) (.inr (by decide)),fun z hz=>((hW.eset z hz).keeps r2 (by decide) (by decide)).keeps hk (by decide) (by decide),?_⟩,?_⟩
 ·exact h.fin.put hb hy (nv:=.slice A (y.2.length+1) c2) (l:=y.2++[x]) (by rw[lnA,List.flatMap_append];simpa using r1) r2 r3
 ·exact((Keeps.of_below hb).trans (r2.mono hlo.2.2 (fun t ht=>by simp at ht ⊢;exact .inr ht))).trans (hk.mono (leR _) (fun t ht=>by simp at ht ⊢;exact .inl ht))
theorem Mk.turned{S2:List Nat}(h:Mk w1 w3 wr mb fb n c v lv rv tlv uv cv bv av ev g base P S ED FR)(hc:Chg (XP P) wr w2)(hf:Fam w2 (g.nt+1) P S2):Mk w1 w3 w2 mb fb n c v lv rv tlv uv cv bv av ev g base P S2 ED FR:=by
 have hlo:=h.lo;have hX:∀b,XP P b→w3.heap.size≤b∧∃cs,Blk wr b 156 cs:=fun b hb=>by obtain⟨p,hp,rfl⟩:=hb;obtain⟨T,hT⟩:=h.fam.mem hp;exact⟨(h.new p hp).2,_,hT.words⟩
 have no:∀{b:Nat} {t:TypeId} {cs:Array Value},Blk wr b t cs→t≠156→¬XP P b:=fun hb ht e=>by obtain⟨_,cs,h2⟩:=hX _ e;exact Blk.ne_ hb h2 ht rfl
 obtain⟨cur,hcur⟩:=h.fin.blk;refine⟨h.below.trans (hc.below h.below.size fun k hk e=>by have:=(hX k e).1;omega),h.vf,hlo,h.chg.next (hc.mono fun b hb=>.inr (.inr (hX b hb).1)),hc.blk h.blk (no h.blk (by decide)),hc.own h.bas (own_no h.bas fun b cs hb=>no hb (by decide)),hc.own h.all (own_no h.all fun b cs hb=>no hb (by decide)),hf,h.new,hc.own h.edges (own_no h.edges fun b cs hb=>no hb (by decide)),fun z hz=>?_,h.fin.chg hc (no hcur (by decide)) (fun k x hx=>own_no (h.fin.own k x hx) fun b cs hb=>no hb (by decide))⟩;have hk:=h.eset z hz;unfold EdOk at hk ⊢;split
 ·rename_i q
  rw[q]at hk;exact hk
 ·rename_i s q
  rw[q]at hk;obtain⟨a,b,d⟩:=hk;refine⟨a.chg hc (no a.head (by decide)) ?_,b,d⟩;rintro⟨p,hp,e⟩;exact d p hp e
end
end Go.Proofs.YthaacmablcpdfaaGreatDoor
