/- Symbols of a grammar. What Check asks of each name and each rule. No two rules are the same. No two rules are the same. The rules of a left side. -/
import Derived.Test.YthaacmablcpdfaaGreatDoorZag
import Derived.Deep.RegionWith
import Derived.BigQuiet
import Derived.Deep.QuietTactic
import Derived.Deep.RegionHeld3
import Derived.Test.YthaacmablcpdfaaGreatDoorNm
namespace Go.Proofs.YthaacmablcpdfaaGreatDoor
open Go.RowKit
set_option linter.unusedVariables false
theorem GrR.open_{w:World}{v:Value}{g:Gm}(h:GrR w v g):∃AT cT AN cN AR cR,v=.agg #[.slice AT g.T.length cT,.slice AN g.N.length cN,.slice AR g.R.length cR,.int .i64 g.s] ∧
  Arr StrV w (.slice AT g.T.length cT) g.T∧Arr StrV w (.slice AN g.N.length cN) g.N∧Rul w (.slice AR g.R.length cR) g.R:=by
 obtain⟨⟨vT,vN,vR,hv,h1,h2,h3⟩,hs⟩:=h;obtain⟨⟨AT,cT,rfl,hT⟩,sT⟩:=id h1;obtain⟨⟨AN,cN,rfl,hN⟩,sN⟩:=id h2;obtain⟨⟨AR,cR,rfl,hR⟩,sR⟩:=id h3;exact⟨AT,cT,AN,cN,AR,cR,hv,h1,h2,h3⟩
section
variable {w:World} {v:Value} {g:Gm}
theorem top_any(h:GrR w v g):Calls Tryz.prog 38 #[v] w fun e w'=>e=.returned (.int .i64 ((g.T.length:Int)+(g.N.length:Int)))∧Below w.heap.size w w':=by
 obtain⟨AT,cT,AN,cN,AR,cR,rfl,hT,hN,hR⟩:=h.open_;have h1:=h.small.2.2.1;have h2:=h.small.2.2.2.1;clear h hT hN hR;go_enter Tryz.func38,Tryz.ntmps38
 go_wp2;go_ret;exact⟨rfl,below_alloc _ _⟩
theorem term_any(h:GrR w v g)(s:Int):Calls Tryz.prog 70 #[v,.int .i64 s] w (Says w (g.term s)):=by
 obtain⟨AT,cT,AN,cN,AR,cR,rfl,hT,hN,hR⟩:=h.open_;clear h hT hN hR;unfold Gm.term;generalize g.T.length=n;generalize g.N.length=m;go_enter Tryz.func70,Tryz.ntmps70
 go_wp2;all_goals go_ret
 all_goals exact⟨ret_bool (by rw[Bool.eq_iff_iff];simp[*]<;>omega),below_alloc _ _⟩
theorem non_any(h:GrR w v g)(s:Int):Calls Tryz.prog 40 #[v,.int .i64 s] w (Says w (g.non s)):=by
 have HT:=Hd (fun y (hy:Below w.heap.size w y)=>top_any (h.later hy));obtain⟨AT,cT,AN,cN,AR,cR,rfl,hT,hN,hR⟩:=h.open_;clear h hT hN hR;unfold Gm.non;generalize g.T.length=n at *;generalize g.N.length=m at *;generalize g.R.length=r at *;generalize g.s=gs at *;by_cases hs:(n:Int)<s
 ·rw[decide_eq_true hs,Bool.true_and]
  go_enter Tryz.func40,Tryz.ntmps40
  go_wp2_with (go_at_call 38;refine(HT.out _ (below_alloc _ _)).mono ?_;rintro e w' ⟨rfl,hb'⟩;have HB':=Hd (below_alloc_trans hb');clear hb')
  go_ret;exact⟨rfl,HB'.out⟩
 ·rw[decide_eq_false hs,Bool.false_and]
  go_enter Tryz.func40,Tryz.ntmps40
  go_wp2;go_ret;exact⟨rfl,below_alloc _ _⟩
end
structure GBox(y:World)(B:Nat)(v:Value):Prop where
 lt:B<y.heap.size
 cell:∀j,j<4→y.cell? ⟨B,j,none⟩=v.cells[j]?
theorem GBox.later{y y':World}{B:Nat}{v:Value}(h:GBox y B v)(hb:Below y.heap.size y y'):GBox y' B v:=
 ⟨ltL h.lt hb.size,fun j hj=>(hb.cell (p:=⟨B,j,none⟩) h.lt).trans (h.cell j hj)⟩
theorem GBox.new(w:World)(t:TypeId)(v:Value):GBox (w.alloc (.cells v.cells t)) w.heap.size v:=⟨by simp,fun j _=>(Blk.new w t _).cell j⟩
theorem GBox.four{y:World}{B:Nat}{a b c d:Value}(h:GBox y B (.agg #[a,b,c,d])):y.cell? ⟨B,0,none⟩=some a∧y.cell? ⟨B,1,none⟩=some b∧y.cell? ⟨B,2,none⟩=some c∧y.cell? ⟨B,3,none⟩=some d:=
 ⟨h.cell 0 (by omega),h.cell 1 (by omega),h.cell 2 (by omega),h.cell 3 (by omega)⟩
theorem knownq_any{w y:World}{B:Nat}{v:Value}{g:Gm}(h:GrR w v g)(s:Int)(hb:Below w.heap.size w y)(hc:GBox y B v):Calls Tryz.prog 134 #[.int .i64 s,.pointer (some ⟨B,0,none⟩)] y (Says y (g.sym s)):=by
 have HT:=Hd (fun z (hz:Below w.heap.size w z)=>term_any (h.later hz) s);have HN:=Hd (fun z (hz:Below w.heap.size w z)=>non_any (h.later hz) s);obtain⟨AT,cT,AN,cN,AR,cR,rfl,hT,hN,hR⟩:=h.open_;have HB:=Hd hb;have HG:=Hd hc;have hBy:=hc.lt;obtain⟨c0,c1,c2,c3⟩:=hc.four;clear h hT hN hR hb hc;unfold Gm.sym;generalize g.term s=a at *;generalize g.non s=b at *;go_enter Tryz.func134,Tryz.ntmps134
 go_wp2_with fail
 refine(HT.out _ HB.out).mono ?_;rintro e w1 ⟨rfl,hb1⟩;have HB1:=Hd hb1;cases a with
 | true=>clear hb1;go_wp2;go_ret;exact⟨rfl,HB1.out⟩
 | false=>
  obtain⟨d0,d1,d2,d3⟩:=(HG.out.later hb1).four;clear hb1 c0 c1 c2 c3;go_wp2_with fail
  refine(HN.out _ (HB.out.trans (HB1.out.mono HB.out.size))).mono ?_;rintro e w2 ⟨rfl,hb2⟩;have HB2:=Hd (HB1.out.trans (hb2.mono HB1.out.size));clear hb2;go_wp2;go_ret;exact⟨rfl,HB2.out⟩
theorem known_any{w:World}{v u:Value}{g:Gm}{r:Ru}(h:GrR w v g)(hr:RuR w u r):Calls Tryz.prog 80 #[v,u] w (Says w (g.knownR r)):=by
 have HN:=Hd (fun z (hz:Below w.heap.size w z)=>non_any (h.later hz) r.left);have HG:=Hd (GBox.new w 32 v);have HA:Hid (∀z,Below w.heap.size w z→GBox z w.heap.size v→Calls Tryz.prog 133 #[r.v,.func (.func 134) #[] #[.pointer (some ⟨w.heap.size,0,none⟩)]] z (Says z (r.right.all g.sym))):=Hd (by intro z hz hgb;exact allI_any (hr.right.later hz) g.sym 134 #[.pointer (some ⟨w.heap.size,0,none⟩)] (fun _ _=>by kernel_rfl) (fun x hx y hy=>knownq_any h x (hz.trans (hy.mono hz.size)) (hgb.later hy)))
 obtain⟨AT,cT,AN,cN,AR,cR,rfl,hT,hN,hR⟩:=h.open_;obtain⟨rfl,hrr⟩:=hr;unfold Gm.knownR RuV;clear h hT hN hR hrr;generalize r.right.all g.sym=b at *;generalize r.left=rl at *;generalize r.v=rv at *;generalize g.non rl=a at *;go_enter Tryz.func80,Tryz.ntmps80
 go_wp2_with fail
 refine(HN.out _ ((below_alloc w _).trans ((below_alloc _ _).mono (by simp)))).mono ?_;rintro e w1 ⟨rfl,hb1⟩;have HB1:=Hd ((below_alloc w _).trans (((below_alloc _ _).trans (hb1.mono (by simp))).mono (by simp)));cases a with
 | false=>clear hb1;go_wp2;go_ret;exact⟨rfl,HB1.out⟩
 | true=>
  have HG1:=Hd ((HG.out.later (below_alloc _ _)).later hb1);have e1:=(hb1.cell (p:=⟨w.heap.size+1,1,none⟩) (by simp)).trans (World.cell?_alloc_at _ _ _ _ (by simp));clear hb1;go_wp2_with fail
  refine(HA.out _ HB1.out HG1.out).mono ?_;rintro e w2 ⟨rfl,hb2⟩;have HB2:=Hd (HB1.out.trans (hb2.mono HB1.out.size));clear hb2;go_wp2;go_ret;exact⟨rfl,HB2.out⟩
theorem form2_any(s:ByteArray)(hs:s.size≤4611686018427387904)(w:World):Calls Tryz.prog 75 #[.string s] w (Says w (okName s.data.toList||quotedB s.data.toList)):=by
 have HP:=Hd (plain_any s (by omega) w);have HQ:=Hd (isq_any s hs);generalize okName s.data.toList=a at *;generalize quotedB s.data.toList=b at *;go_enter Tryz.func75,Tryz.ntmps75
 go_wp2_with fail
 refine HP.out.mono ?_;rintro e w1 ⟨rfl,hb⟩;have HB:=Hd hb;clear hb;cases a with
 | true=>go_wp2;go_ret;exact⟨rfl,HB.out⟩
 | false=>
  go_wp2_with fail
  refine(HQ.out _).mono ?_;rintro e w2 ⟨rfl,hb⟩;have HB2:=Hd (HB.out.trans (hb.mono HB.out.size));clear hb;go_wp2;go_ret;exact⟨rfl,HB2.out⟩
theorem short_any(r:Ru)(w:World)(hr:Arr IntV w r.v r.right):Calls Tryz.prog 72 #[RuV r] w (Says w (shortR r)):=by
 obtain⟨⟨A,c,hv,_⟩,hs⟩:=hr;unfold shortR RuV;rw[hv];clear hv;generalize r.right.length=n at *;generalize r.left=rl at *;go_enter Tryz.func72,Tryz.ntmps72
 go_wp2;go_ret;exact⟨ret_bool (by rw[decide_eq_decide];omega),below_alloc _ _⟩
theorem know3_any{w y:World}{B:Nat}{v:Value}{g:Gm}{r:Ru}(h:GrR w v g)(hr:Arr IntV w r.v r.right)(hb:Below w.heap.size w y)(hc:GBox y B v):Calls Tryz.prog 79 #[RuV r,.pointer (some ⟨B,0,none⟩)] y (Says y (g.knownR r)):=by
 have HK:=Hd (fun z (hz:Below w.heap.size w z)=>known_any (h.later hz) (⟨rfl,hr.later hz⟩:RuR z (RuV r) r));obtain⟨AT,cT,AN,cN,AR,cR,rfl,hT,hN,hR⟩:=h.open_;have HB:=Hd hb;have HG:=Hd hc;have hBy:=hc.lt;obtain⟨c0,c1,c2,c3⟩:=hc.four;clear h hT hN hR hb hc hr;unfold RuV at *;generalize g.knownR r=a at *;go_enter Tryz.func79,Tryz.ntmps79
 go_wp2_with fail
 refine(HK.out _ (HB.out.trans ((below_alloc _ _).mono HB.out.size))).mono ?_;rintro e w1 ⟨rfl,hb1⟩;have HB1:=Hd (below_alloc_trans hb1);clear hb1;go_wp2;go_ret;exact⟨rfl,HB1.out⟩
theorem below_draws{B:Nat}{w w':World}(h:Below B w w')(n:Nat):Below B w (w'.drewN n):=⟨h.os,h.tape,h.output,h.size,h.block⟩
def EqTo(a b:List Int)(k:Nat):Prop:=∀j x y,j<k→a[j]?=some x→b[j]?=some y→x=y
theorem EqTo.next{a b:List Int}{k:Nat}{x y:Int}(h:EqTo a b k)(hx:a[k]?=some x)(hy:b[k]?=some y)(he:x=y):EqTo a b (k+1):=by
 intro j x' y' hj h1 h2;by_cases e:j=k
 ·subst e
  rw[hx]at h1;rw[hy]at h2;cases h1;cases h2;exact he
 ·exact h j x' y' (by omega) h1 h2
theorem EqTo.all{a b:List Int}(hl:a.length=b.length)(h:EqTo a b a.length):(a==b)=true:=by
 rw[beq_iff_eq];apply List.ext_getElem?;intro j;by_cases hj:j<a.length
 ·rw[eG hj,eG (by omega)]
  rw[h j _ _ hj (eG hj) (eG (by omega))]
 ·rw[nG (by omega),nG (by omega)]
theorem ne_at{a b:List Int}{k:Nat}{x y:Int}(hx:a[k]?=some x)(hy:b[k]?=some y)(hn:¬x=y):(a==b)=false:=by
 rw[bN];rintro rfl;rw[hx]at hy;cases hy
 exact hn rfl
set_option maxRecDepth 100000 in
set_option maxHeartbeats 1600000 in
theorem equal_any{w:World}{u v:Value}{a b:List Int}(ha:Arr IntV w u a)(hb:Arr IntV w v b):Calls Tryz.prog 136 #[u,v] w (Says w (a==b)):=by
 obtain⟨⟨A,c,rfl,hca⟩,hsa⟩:=ha;obtain⟨⟨B,d,rfl,hcb⟩,hsb⟩:=hb;have HCA:=Hd hca;have HCB:=Hd hcb;clear hca hcb;by_cases hl:a.length=b.length
 ·rw[←hl]
  have HL:=Hd hl;clear hl hsb;go_enter Tryz.func136,Tryz.ntmps136
  go_wp2;go_loopw [5,13] (fun _ i wr=>∃k:Nat,k≤a.length∧i=.int .i64 k∧Hid (EqTo a b k)∧Hid (∃q,wr=w.drewN q)) (fun _ i _=>a.length-(intOf i).toNat)
  case atStart=>exact⟨0,zeL _,rfl,Hd (fun j x y hj=>absurd hj (Nat.not_lt_zero _)),Hd ⟨0,rfl⟩⟩
  case round=>
   obtain⟨k,hk,rfl,HE,HD⟩:=hrel;by_cases hlt:k<a.length
   ·have hx:=eG hlt
    have hy:=eG (show k<b.length by have:=HL.out;omega);generalize a[k]=x at hx;generalize b[k]'(by have:=HL.out;omega)=y at hy;obtain⟨b1,off1,rfl,hlt1,hcell1⟩:=HCA.out k x hx;obtain⟨b2,off2,rfl,hlt2,hcell2⟩:=HCB.out k y hy;have HX:=Hd hx;have HY:=Hd hy;have e1:wr.cell? ⟨b1,off1+k,none⟩=some (.int .i64 x):=by obtain⟨q,rfl⟩:=HD.out;exact hcell1
    have e2:wr.cell? ⟨b2,off2+k,none⟩=some (.int .i64 y):=by obtain⟨q,rfl⟩:=HD.out;exact hcell2
    clear hx hy hcell1 hcell2;by_cases hxy:x=y
    ·have HN:=Hd (HE.out.next HX.out HY.out hxy)
     have hb:(x != y)=false:=by simp[hxy]
     clear hxy;go_wp2;go_quiet (fail)
     have HDD:Hid (∃q,wr.drewN nq=w.drewN q):=Hd (by obtain⟨q,hq⟩:=HD.out;exact⟨q+nq,by rw[hq,World.drewN_drewN]⟩)
     go_wp2;go_roundw
     case rel=>exact⟨k+1,by omega,by go_num,HN,HDD⟩
     case measure=>simp[intOf];omega
    ·have HN:=Hd (ne_at HX.out HY.out hxy)
     have hb:(x != y)=true:=by simp[hxy]
     clear hxy;go_wp2;go_quiet (fail)
     go_wp2;go_ret;refine⟨ret_bool HN.out.symm,?_⟩;obtain⟨q,rfl⟩:=HD.out;exact below_draws (below_draws (Below.refl _ w) _) _
   ·obtain rfl:k=a.length:=by omega
    have HN:=Hd (HE.out.all HL.out);go_wp2;go_ret;refine⟨ret_bool HN.out.symm,?_⟩;obtain⟨q,rfl⟩:=HD.out;exact below_draws (Below.refl _ w) _
 ·have hb:(a==b)=false:=by
   rw[bN];rintro rfl;exact hl rfl
  rw[hb];have hl2:¬(a.length:Int)=(b.length:Int):=by omega
  clear hl hb;go_enter Tryz.func136,Tryz.ntmps136
  go_wp2;go_ret;exact⟨rfl,Below.refl _ w⟩
theorem below_drew{B:Nat}{w w':World}(h:Below B w w'):Below B w w'.drew:=⟨h.os,h.tape,h.output,h.size,h.block⟩
theorem same_any{w:World}{a b:Ru}(ha:Arr IntV w a.v a.right)(hb:Arr IntV w b.v b.right):Calls Tryz.prog 82 #[RuV a,RuV b] w (Says w (sameR a b)):=by
 have HE:=Hd (fun z (hz:Below w.heap.size w z)=>equal_any (ha.later hz) (hb.later hz));clear ha hb;unfold sameR RuV;generalize (a.right==b.right)=q at *;generalize a.v=av at *;generalize b.v=bv at *;generalize a.left=al at *;generalize b.left=bl at *;by_cases h:al=bl
 ·have h1:(al==bl)=true:=by simp[h]
  rw[h1,Bool.true_and];clear h;go_enter Tryz.func82,Tryz.ntmps82
  go_wp2_with fail
  refine(HE.out _ ((below_alloc w _).trans ((below_alloc _ _).mono (by simp)))).mono ?_;rintro e w1 ⟨rfl,hb1⟩;have HB1:=Hd ((below_alloc w _).trans (((below_alloc _ _).trans (hb1.mono (by simp))).mono (by simp)));clear hb1;go_wp2;go_ret;exact⟨rfl,HB1.out⟩
 ·have h1:(al==bl)=false:=by simp[h]
  rw[h1,Bool.false_and];clear h;go_enter Tryz.func82,Tryz.ntmps82
  go_wp2;go_ret;exact⟨rfl,((below_alloc w _).trans ((below_alloc _ _).mono (by simp)))⟩
set_option maxRecDepth 100000 in
theorem unlikeq_any{y:World}{x r:Ru}{BF BL BI b off n c i:Nat}(hF:y.cell? ⟨BF,0,none⟩=some (.func (.func 82) #[] #[]))(hL:y.cell? ⟨BL,0,none⟩=some (.slice (some ⟨b,off,none⟩) n c))(hI:y.cell? ⟨BI,0,none⟩=some (.int .i64 i))
  (hi:i<n) (h1:y.cell? ⟨b,off+i*2,none⟩=some (.int .i64 r.left)) (h2:y.cell? ⟨b,off+i*2+1,none⟩=some r.v) (hx:Arr IntV y x.v x.right) (hr:Arr IntV y r.v r.right) :
  Calls Tryz.prog 135 #[RuV x,.pointer (some ⟨BF,0,none⟩),.pointer (some ⟨BL,0,none⟩),.pointer (some ⟨BI,0,none⟩)] y (Says y (sameR x r)):=by
 have HS:=Hd (fun z (hz:Below y.heap.size y z)=>same_any (hx.later hz) (hr.later hz));have lF:=World.block_lt_of_cell? y _ hF;have lL:=World.block_lt_of_cell? y _ hL;have lI:=World.block_lt_of_cell? y _ hI;have lb:=World.block_lt_of_cell? y _ h1;clear hx hr;unfold RuV at *;generalize sameR x r=q at *;generalize x.left=xl at *;generalize x.v=xv at *;generalize r.left=rl at *;generalize r.v=rv at *;go_enter Tryz.func135,Tryz.ntmps135
 have HK:Hid (∀w',Below (y.alloc (.cells #[.int .i64 xl,xv] 65)).heap.size (y.alloc (.cells #[.int .i64 xl,xv] 65)) w'→w'.cell? ⟨BF,0,none⟩=some (.func (.func 82) #[] #[])∧w'.cell? ⟨BL,0,none⟩=some (.slice (some ⟨b,off,none⟩) n c)∧w'.cell? ⟨BI,0,none⟩=some (.int .i64 i)∧w'.cell? ⟨b,off+i*2,none⟩=some (.int .i64 rl)∧w'.cell? ⟨b,off+i*2+1,none⟩=some rv∧w'.cell? ⟨y.heap.size,0,none⟩=some (.int .i64 xl)∧w'.cell? ⟨y.heap.size,1,none⟩=some xv):=Hd (fun w' h=>by
  have h0:=below_alloc_trans h;exact⟨(h0.cell (p:=⟨BF,0,none⟩) lF).trans hF,(h0.cell (p:=⟨BL,0,none⟩) lL).trans hL,(h0.cell (p:=⟨BI,0,none⟩) lI).trans hI,(h0.cell (p:=⟨b,off+i*2,none⟩) lb).trans h1,(h0.cell (p:=⟨b,off+i*2+1,none⟩) lb).trans h2,
   (h.cell (p:=⟨y.heap.size,0,none⟩) (by simp)).trans ((Blk.new y _ _).cell 0),(h.cell (p:=⟨y.heap.size,1,none⟩) (by simp)).trans ((Blk.new y _ _).cell 1)⟩)
 clear hF hL hI h1 h2;go_wp2_with fail
 go_region_held3 (fun w'=>w'.cell? ⟨BF,0,none⟩=some (.func (.func 82) #[] #[])∧w'.cell? ⟨BL,0,none⟩=some (.slice (some ⟨b,off,none⟩) n c)∧w'.cell? ⟨BI,0,none⟩=some (.int .i64 i)∧w'.cell? ⟨b,off+i*2,none⟩=some (.int .i64 rl)∧w'.cell? ⟨b,off+i*2+1,none⟩=some rv∧w'.cell? ⟨y.heap.size,0,none⟩=some (.int .i64 xl)∧w'.cell? ⟨y.heap.size,1,none⟩=some xv)
  (first|exact HK.out _ HZ.out|exact HK.out _ ⟨rfl,rfl,rfl,leR _,fun _ _=>rfl⟩)
  (first|(go_at_call 82;refine(HS.out _ (below_drew (below_alloc y _))).mono ?_;rintro e w2 ⟨rfl,hb2⟩;have HB2:=Hd ((below_drew (below_alloc y _)).trans (hb2.mono (below_drew (below_alloc y _)).size));have HZ:=Hd ((below_drew (Below.refl _ _)).trans (hb2.mono (leR _)));clear hb2))
 all_goals go_wp2
 all_goals go_ret
 all_goals exact⟨rfl,HB2.out⟩
def UnTo(l:List Ru)(k:Nat):Prop:=∀(i j:Nat) (x r:Ru),i<k→j<i→l[j]?=some x→l[i]?=some r→sameR x r=false
theorem UnTo.next{l:List Ru}{k:Nat}{r:Ru}(h:UnTo l k)(hr:l[k]?=some r)(ha:((l.take k).any fun x=>sameR x r)=false):UnTo l (k+1):=by
 intro i j x r' hi hj hx hr';by_cases e:i=k
 ·subst e
  rw[hr]at hr';cases hr'
  have hm:x∈l.take i:=mG (i:=j) (by rw[List.getElem?_take,if_pos hj];exact hx);cases hq:sameR x r with
  | false=>rfl
  | true=>have:((l.take i).any fun x=>sameR x r)=true:=List.any_eq_true.2 ⟨x,hm,hq⟩;rw[ha]at this;cases this
 ·exact h i j x r' (by omega) hj hx hr'
open Classical in
theorem UnTo.all{l:List Ru}(h:UnTo l l.length):decide (Un l)=true:=by rw[decide_eq_true_eq];intro i j x r hj hx hr;exact h i j x r (sG.1 hr).1 hj hx hr
theorem un_not{l:List Ru}{k:Nat}{r:Ru}(hr:l[k]?=some r)(ha:((l.take k).any fun x=>sameR x r)=true):¬Un l:=by
 intro h;obtain⟨x,hm,hq⟩:=List.any_eq_true.1 ha;obtain⟨j,hj,he⟩:=List.mem_iff_getElem.1 hm;have hj':j<k:=by rw[List.length_take]at hj;omega
 have:=h k j x r hj' (by rw[←he,List.getElem_take];exact eG _) hr;rw[hq]at this;cases this
def UK(w:World)(sl:Value)(y:World):Prop:=Below w.heap.size w y∧w.heap.size+1<y.heap.size∧y.cell? ⟨w.heap.size,0,none⟩=some sl∧y.cell? ⟨w.heap.size+1,0,none⟩=some (.func (.func 82) #[] #[])
theorem UK.later{w y z:World}{sl:Value}(h:UK w sl y)(hb:Below y.heap.size y z):UK w sl z:=
 ⟨h.1.trans (hb.mono h.1.size),ltL h.2.1 hb.size,(hb.cell (p:=⟨w.heap.size,0,none⟩) (by have:=h.2.1;show w.heap.size<_;omega)).trans h.2.2.1,(hb.cell (p:=⟨w.heap.size+1,0,none⟩) h.2.1).trans h.2.2.2⟩
open Classical in
theorem says_un{w w':World}{l:List Ru}{b:Bool}(h:decide (Un l)=b)(hb:Below w.heap.size w w'):Says w (decide (Un l)) (.returned (.bool b)) w':=⟨by rw[h],hb⟩
set_option maxRecDepth 100000 in
set_option maxHeartbeats 1600000 in
open Classical in
theorem unlike_any{w:World}{v:Value}{l:List Ru}(h:Rul w v l):Calls Tryz.prog 81 #[v,.func (.func 82) #[] #[]] w (Says w (decide (Un l))):=by
 have hl:=h;obtain⟨⟨A,c,rfl,hc⟩,hs,hro⟩:=hl;have HCON:Hid (∀k r b off,l[k]?=some r→A=some ⟨b,off,none⟩→∀y,UK w (.slice A l.length c) y→Calls Tryz.prog 126 #[.slice A k c,.func (.func 135) #[] #[.pointer (some ⟨w.heap.size+1,0,none⟩),.pointer (some ⟨w.heap.size,0,none⟩),.pointer (some ⟨y.heap.size,0,none⟩)]] (y.alloc (.cells #[.int .i64 k] 3)) (Says (y.alloc (.cells #[.int .i64 k] 3)) ((l.take k).any fun x=>sameR x r))):=Hd (by
  intro k r b off hr hA y hy;subst hA;have hk:=(sG.1 hr).1;have hy2:=hy.later (below_alloc y (.cells #[.int .i64 k] 3));refine conR_any ((h.take k (by omega) c ⟨by have:=(hro _ _ _ rfl).1;omega,fun e=>by cases e⟩).later hy2.1) (fun x=>sameR x r) 135 _ (fun _ _=>by kernel_rfl) (fun x hx z hz=>?_);have hz2:=hy2.later hz;obtain⟨b',off',e,hlt,h1,h2,h3⟩:=hc k r hr;cases e
  refine unlikeq_any (r:=r) (b:=b) (off:=off) (n:=l.length) (c:=c) (i:=k) hz2.2.2.2 hz2.2.2.1 ?_ hk ?_ ?_ ((h.mem (List.mem_of_mem_take hx)).later hz2.1) (h3.later hz2.1)
  ·exact(hz.cell (p:=⟨y.heap.size,0,none⟩) (by simp)).trans ((Blk.new y _ _).cell 0)
  ·exact(hz2.1.cell (p:=⟨b,off+k*2,none⟩) hlt).trans h1
  ·exact(hz2.1.cell (p:=⟨b,off+k*2+1,none⟩) hlt).trans h2)
 have HCELL:=Hd hc;have hcap:=(hro _ _ _ rfl).1;clear h hc hro;go_enter Tryz.func81,Tryz.ntmps81
 go_wp2;go_loopw [8] (fun i wr=>∃k:Nat,k≤l.length∧i=.int .i64 k∧Hid (UnTo l k)∧Hid (UK w (.slice A l.length c) wr)) (fun i _=>l.length-(intOf i).toNat)
 case atStart=>exact⟨0,zeL _,rfl,Hd (fun i j x r hi=>absurd hi (Nat.not_lt_zero _)),Hd ⟨(below_alloc w _).trans ((below_alloc _ _).mono (by simp)),by simp,(World.cell?_alloc_lt _ _ ⟨w.heap.size,0,none⟩ (by simp)).trans ((Blk.new w _ _).cell 0),by simp⟩⟩
 case round=>
  obtain⟨k,hk,rfl,HU,HK⟩:=hrel;by_cases hlt:k<l.length
  ·have hr:=eG hlt
   generalize l[k]=r at hr;obtain⟨b,off,hA,hlt0,_⟩:=HCELL.out k r hr;have HC:=Hd (HCON.out k r b off hr hA wr HK.out);have HR:=Hd hr;obtain⟨c1,c2,c3,c4⟩:=HK.out;have l1:w.heap.size<wr.heap.size:=by omega
   clear c1 hr;subst hA;cases hq:(l.take k).any fun x=>sameR x r with
   | false=>
    rw[hq]at HC;have HN:=Hd (HU.out.next HR.out hq);clear hq;go_wp2_with fail
    refine HC.out.mono ?_;rintro e w1 ⟨rfl,hb1⟩;have HK2:=Hd ((HK.out.later (below_alloc wr _)).later hb1);clear hb1;go_wp2;go_roundw
    case rel=>exact⟨k+1,by omega,by go_num,HN,HK2⟩
    case measure=>simp[intOf];omega
   | true=>
    rw[hq]at HC;have HN:=Hd (un_not HR.out hq);clear hq;go_wp2_with fail
    refine HC.out.mono ?_;rintro e w1 ⟨rfl,hb1⟩;have HK2:=Hd ((HK.out.later (below_alloc wr _)).later hb1);clear hb1;go_wp2;go_ret;exact says_un (decide_eq_false HN.out) HK2.out.1
  ·obtain rfl:k=l.length:=by omega
   have HN:=Hd HU.out.all;go_wp2;go_ret;exact says_un HN.out HK.out.1
theorem Tryz.infoInt:(Tryz.prog.info? 3).map (fun i=>(i.zero,i.size,i.bytes))=some (some (.int .i64 0),1,8):=by kernel_rfl
theorem ElInt:El Tryz.prog 44 3 1 8:=El.of Tryz.underlying44 Tryz.infoInt rfl (by decide)
theorem own_below{w w':World}{base:Nat}{e:TypeId}{size k:Nat}{v:Value}{xs:List Value}(h:w.ownsRow base e size v k xs)(hb:Below w.heap.size w w'):w'.ownsRow base e size v k xs:=by
 refine⟨h.1,?_⟩;rcases h.2 with hn|⟨g,cap,cur,rfl,h1,h2,rest⟩
 ·exact .inl hn
 ·exact .inr ⟨g,cap,cur,rfl,h1,by rw[hb.block g (aG.1 h2).1];exact h2,rest⟩
def OutAt(T:TypeId)(w:World)(xs:List Value)(o:Value)(wr:World):Prop:=∃A c,o=.slice A xs.length c∧wr.ownsRow w.heap.size T 1 (.slice A xs.length c) xs.length xs∧Below w.heap.size w wr
theorem OutAt.nil(T:TypeId)(w:World):OutAt T w [] (.slice none 0 0) w:=⟨none,0,rfl,⟨rfl,.inl ⟨rfl,rfl⟩⟩,Below.refl _ _⟩
theorem out_app{T:TypeId}{w wr w2:World}{xs ys:List Value}{A:Option Addr}{N c:Nat}(hb:Below w.heap.size w wr)(hN:xs.length+ys.length=N)(r1:w2.ownsRow w.heap.size T 1 (.slice A N c) N (xs++ys))(r2:Keeps w.heap.size [T] wr w2):OutAt T w (xs++ys) (.slice A N c) w2:=by subst hN;exact⟨A,c,by rw[lnA],by rw[lnA];exact r1,hb.trans (r2.below hb.size)⟩
theorem OutAt.later{T:TypeId}{w wr w2:World}{xs:List Value}{o:Value}(h:OutAt T w xs o wr)(hb:Below wr.heap.size wr w2):OutAt T w xs o w2:=by obtain⟨A,c,ho,h1,h2⟩:=h;exact⟨A,c,ho,own_below h1 hb,h2.trans (hb.mono h2.size)⟩
theorem OutAt.arr{α:Type}{E:α→Value}{T:TypeId}{w wr:World}{l:List α}{o:Value}(h:OutAt T w (l.map E) o wr)(hl:l.length≤4611686018427387904):Arr E wr o l:=by
 obtain⟨A,c,rfl,h1,h2⟩:=h;rw[lM]at h1 ⊢;refine⟨⟨A,c,rfl,fun k x hx=>?_⟩,hl,fun A' n' c' e=>?_⟩
 ·rcases own_form h1 with⟨e,h0⟩|⟨b,cap,e,hb,hlt,hcap,_⟩
  ·have:=(sG.1 hx).1
   omega
  ·cases e
   have hk:=(sG.1 hx).1;refine⟨b,0,rfl,hlt,?_⟩;rw[Nat.zero_add,own_cell h1 k (by omega),pG,hx];rfl
 ·cases e
  rcases own_form h1 with⟨e,h0⟩|⟨b,cap,e,hb,hlt,hcap,_⟩
  ·simp only[Value.slice.injEq]at e
   exact⟨by omega,fun _=>e.2.2⟩
  ·cases e
   exact⟨hcap,fun e=>by cases e⟩
theorem one_src(T:TypeId)(u:Value)(hu:u.oneCell'=true)(y:World):SrcOK (y.alloc (.cells #[u] T)) (.slice (some ⟨y.heap.size,0,none⟩) 1 1) 1 1 [u]:=
 SrcOK.blk (c:=1) (cs:=[u]) (Blk.new y T _) rfl (fun x hx=>by rw[mS.1 hx];exact hu)
theorem one_src2(T:TypeId)(u:Value)(hu:u.oneCell'=true)(y:World)(o:Obj):SrcOK ((y.alloc o).alloc (.cells #[u] T)) (.slice (some ⟨y.heap.size+1,0,none⟩) 1 1) 1 1 [u]:=by have h:=one_src T u hu (y.alloc o);rwa [show (y.alloc o).heap.size=y.heap.size+1 by simp]at h
def ofTo(l:List Ru)(s:Int)(k:Nat):List Int:=((List.range k).filter fun i=>(l[i]?.map (Gm.left s)).getD false).map Int.ofNat
theorem ofTo_next{l:List Ru}{s:Int}{k:Nat}{r:Ru}(hr:l[k]?=some r):ofTo l s (k+1)=ofTo l s k++(if r.left=s then[(k:Int)] else[]):=by
 unfold ofTo;rw[List.range_succ,List.filter_append,mpA];congr 1;by_cases h:r.left=s
 ·simp[List.filter,hr,Gm.left,h]
 ·have h2:(r.left==s)=false:=by simp[h]
  simp[List.filter,hr,Gm.left,h,h2]
theorem ofTo_yes{l:List Ru}{s:Int}{k:Nat}{r:Ru}(hr:l[k]?=some r)(h:r.left=s):ofTo l s (k+1)=ofTo l s k++[(k:Int)]:=by rw[ofTo_next hr,if_pos h]
theorem ofTo_no{l:List Ru}{s:Int}{k:Nat}{r:Ru}(hr:l[k]?=some r)(h:¬r.left=s):ofTo l s (k+1)=ofTo l s k:=by rw[ofTo_next hr,if_neg h,List.append_nil]
theorem ofTo_len(l:List Ru)(s:Int)(k:Nat):(ofTo l s k).length≤k:=by unfold ofTo;rw[lM];have:=List.length_filter_le (fun i=>(l[i]?.map (Gm.left s)).getD false) (List.range k);rwa [List.length_range]at this
def OfEnd(w:World)(v:Value)(xs:List Int)(e:Ending)(w':World):Prop:=∃o,e=.returned o∧OutAt 3 (w.alloc (.cells v.cells 32)) (xs.map IntV) o w'
set_option maxRecDepth 100000 in
set_option maxHeartbeats 3200000 in
theorem of_any{w:World}{v:Value}{g:Gm}(h:GrR w v g)(s:Int):Calls Tryz.prog 83 #[v,.int .i64 s] w (OfEnd w v (ofTo g.R s g.R.length)):=by
 have hsm:=h.small.2.2.2.2.1;have HG:=Hd (GBox.new w 32 v);obtain⟨AT,cT,AN,cN,AR,cR,rfl,hT,hN,hR⟩:=h.open_;obtain⟨⟨A,c,hv,hc⟩,hs,hro⟩:=hR;cases hv
 have HCELL:=Hd hc;have hEl:=ElInt;clear h hT hN hro hc;generalize g.R=l at *;generalize g.T.length=nT at *;generalize g.N.length=nN at *;generalize g.s=gs at *;go_enter Tryz.func83,Tryz.ntmps83
 go_wp2;go_loopw [5,11] (fun o i wr=>∃k:Nat,k≤l.length∧i=.int .i64 k∧OutAt 3 (w.alloc (.cells #[.slice AT nT cT,.slice AN nN cN,.slice AR l.length cR,.int .i64 gs] 32)) ((ofTo l s k).map IntV) o wr) (fun _ i _=>l.length-(intOf i).toNat)
 case atStart=>exact⟨0,zeL _,rfl,OutAt.nil _ _⟩
 case round=>
  obtain⟨k,hk,rfl,A,oc,rfl,ho,hbw⟩:=hrel;have HO:=Hd ho;have HB:=Hd hbw;have hwb:=hbw.size;have hlen:=ofTo_len l s k;have hbz:w.heap.size<wr.heap.size:=by simp at hwb;omega
  by_cases hlt:k<l.length
  ·have hr:=eG hlt
   generalize l[k]=r at hr;obtain⟨b,off,hA,hlt0,h1,h2,h3⟩:=HCELL.out k r hr;subst hA;obtain⟨⟨RA,rc,hrv,_⟩,_⟩:=h3;rw[hrv]at h2;have hw2:Below w.heap.size w wr:=(below_alloc w _).trans (hbw.mono (by simp));have e1:=(hw2.cell (p:=⟨b,off+k*2,none⟩) hlt0).trans h1;have e2:=(hw2.cell (p:=⟨b,off+k*2+1,none⟩) hlt0).trans h2;have HY:=Hd (fun e=>ofTo_yes (s:=s) hr e);have HN:=Hd (fun e=>ofTo_no (s:=s) hr e);clear h1 h2 hr ho hbw hw2 hrv;generalize r.left=rl at *;generalize r.right.length=rn at *;by_cases hq:rl=s
   ·have hq1:(rl==s)=true:=by simp[hq]
    have HY:=Hd (HY.out hq);have HS:=Hd (one_src2 3 (.int .i64 k) rfl);clear hq;generalize hxs:(ofTo l s k).map IntV=xs at *;have hxl:xs.length≤1048576:=by rw[←hxs,lM];omega
    have HXS:=Hd hxs;clear hxs;go_wp2_with (at_builtin;refine wpList_app ElInt (.tmp 20) (.tmp 22) rfl rfl (base:=(w.alloc (.cells #[.slice AT nT cT,.slice AN nN cN,.slice (some ⟨b,off,none⟩) l.length cR,.int .i64 gs] 32)).heap.size) (n:=xs.length) (m:=1) (N:=xs.length+1) (xs:=xs) (news:=[.int .i64 k]) rfl rfl ((HO.out.alloc _).alloc _) (HS.out _ _) rfl (by unfold maxLen;omega) (by omega) (by simp at hwb ⊢;omega) ?_;intro A2 c2 w2 r1 r2 r3;have HF:=Hd (out_app (HB.out.trans (((below_alloc _ _).trans ((below_alloc _ _).mono (by simp))).mono HB.out.size)) rfl r1 r2);clear r1 r2 r3)
    go_roundw
    case rel=>exact⟨k+1,by omega,by go_num,by rw[HY.out,mpA,HXS.out];exact HF.out⟩
    case measure=>simp[intOf];omega
   ·have hq1:(rl==s)=false:=by simp[hq]
    have HN:=Hd (HN.out hq);have HF:=Hd (OutAt.later ⟨A,oc,rfl,HO.out,HB.out⟩ (below_alloc _ (.cells #[.int .i64 rl,.slice RA rn rc] 65)));clear hq;go_wp2;go_roundw
    case rel=>exact⟨k+1,by omega,by go_num,by rw[HN.out];exact HF.out⟩
    case measure=>simp[intOf];omega
  ·obtain rfl:k=l.length:=by omega
   go_wp2;go_ret;exact⟨_,rfl,A,oc,rfl,HO.out,HB.out⟩
end Go.Proofs.YthaacmablcpdfaaGreatDoor
