/- The closure that moves an item into its symbol's. -/
import Derived.Test.YthaacmablcpdfaaGreatDoorZas
import Derived.Test.YthaacmablcpdfaaGreatDoorNm
namespace Go.Proofs.YthaacmablcpdfaaGreatDoor
open Go.RowKit
set_option linter.unusedVariables false
set_option maxRecDepth 100000
theorem addI_map(R:List (Value×List It))(s:Nat)(x:Value×List It)(hx:R[s]?=some x)(nv:Value)(it:It):(R.set s (nv,x.2++[it])).map (·.2)=addI (R.map (·.2)) s it:=by
 unfold addI;rw[List.map_set];apply List.ext_getElem?;intro k;rw[List.getElem?_modify,List.getElem?_set];by_cases hk:s=k
 ·subst hk
  have hs:=(sG.1 hx).1;have e:=(sG.1 hx).2;simp[hs,e]
 ·simp[hk]
def IX(gr:Nat)(R:List (Value×List It))(k:Nat):Prop:=k=gr∨∃(i:Nat) (x:Value×List It),R[i]?=some x∧x.1.ownBlock=some k
theorem move_fin{w w1 W w3:World}{Bs gr n c:Nat}{R:List (Value×List It)}(hf:IFam w1 Bs gr n c R)(hB1:Below w.heap.size w w1)(hW:Below w1.heap.size w1 W)(hBg:Bs≤w.heap.size){s k d:Nat}{xv:Value}{xl:List It}(hx:R[s]?=some (xv,xl)){A:Option Addr}{c3:Nat}
  (r1:w3.ownsRow Bs 194 2 (.slice A (xl.length+1) c3) (xl.length+1) (xl.flatMap itC++itC (k,d+1))) (r2:Keeps Bs [194] W w3) (r3:W.grownBy w3 xv.ownBlock∧((Value.slice A (xl.length+1) c3).ownBlock=xv.ownBlock∨(Value.slice A (xl.length+1) c3).ownBlock=some W.heap.size)) :
  ∃R',IFam (w3.setCell ⟨gr,s,none⟩ (.slice A (xl.length+1) c3)) Bs gr n c R'∧R'.map (·.2)=addI (R.map (·.2)) s (k,d+1)∧Chg (IX gr R) w (w3.setCell ⟨gr,s,none⟩ (.slice A (xl.length+1) c3)):=by
 have hg:Bs≤gr:=(own_lt hf.row gr rfl).2;obtain⟨cur,hcur⟩:=(hf.later hW).blk;have hc3:=r2.blk hcur (.inr (by decide));refine⟨_,hf.put hW hx (l:=xl++[(k,d+1)]) (by simpa using r1) r2 r3,addI_map R s (xv,xl) hx _ _,?_⟩;exact(((Chg.of_below hB1).next (Chg.of_below hW)).next ((Chg.of_grown r3.1).mono fun i hi=>.inr ⟨s,_,hx,hi⟩)).set (p:=⟨gr,s,none⟩) (.inr (.inl rfl)) _
set_option maxHeartbeats 8000000 in
theorem move_any{w:World}{bb pb rb Bs gr n c:Nat}{v:Value}{g:Gz}{R:List (Value×List It)}(hbg:BG w bb v g)(hp:Blk w pb 175 #[.pointer (some ⟨bb,0,none⟩)])(hrb:Blk w rb 177 #[.slice (some ⟨gr,0,none⟩) n c])(hf:IFam w Bs gr n c R)(hB:Bs≤w.heap.size)
  {k d:Nat} (hk:k≤g.R.length) (hd:d≤10000) (hn:g.next (k,d)<n) (hl:∀(j:Nat) (x:Value×List It),R[j]?=some x→x.2.length≤100000) :
  Calls Tryz.prog 148 #[itV (k,d),.pointer (some ⟨pb,0,none⟩),.pointer (some ⟨rb,0,none⟩)] w fun e w'=>e=.returned (.tuple #[])∧∃R',IFam w' Bs gr n c R'∧R'.map (·.2)=moveI g (R.map (·.2)) (k,d)∧Chg (IX gr R) w w':=by
 have hlen:=hf.len;obtain⟨s,hs⟩:∃s,g.next (k,d)=s:=⟨_,rfl⟩
 have HB0:=Hd (below_alloc w (.cells #[.int .i64 k,.int .i64 d] 194));have HN:=Hd (fun y (hy:Below w.heap.size w y)=>next_of (hbg.later hy) hk (d:=d) (by omega));have HX:=Hd (Blk.new w 194 #[.int .i64 k,.int .i64 d]);have HP:=Hd hp;have HRB:=Hd hrb;have HF:=Hd hf;have HL:=Hd hl;have hMI:moveI g (R.map (·.2)) (k,d)=if s=0 then R.map (·.2) else addI (R.map (·.2)) s (k,d+1):=by unfold moveI;rw[hs]
 rw[hMI];rw[hs]at hn HN;have z0:=(HB0.out.cell (p:=⟨pb,0,none⟩) hp.lt).trans (hp.cell 0);simp at z0;clear hbg hp hrb hf hl hs hMI;unfold itV;by_cases h0:s=0
 ·subst h0
  rw[if_pos rfl];go_enter Tryz.func148,Tryz.ntmps148
  go_wp2_with (go_at_call 145;refine(HN.out _ HB0.out).mono ?_;rintro e w1 ⟨rfl,hb1⟩;have HB1:=Hd (HB0.out.trans (hb1.mono HB0.out.size));clear hb1)
  go_end0
  exact⟨rfl,R,HF.out.later HB1.out,rfl,Chg.of_below HB1.out⟩
 ·rw[if_neg h0]
  obtain⟨⟨xv,xl⟩,hx⟩:∃x,R[s]?=some x:=⟨_,eG (by omega)⟩
  have hxl:=HL.out _ _ hx;simp only at hxl;obtain⟨Ax,cx,hxv⟩:=own_shape (HF.out.own _ _ hx);simp only at hxv;subst hxv;have HXS:=Hd hx;clear hx;have hpos:(0:Int)<(s:Int):=by omega
  have hsn:(s:Int)<(n:Int):=by omega
  go_enter Tryz.func148,Tryz.ntmps148
  go_wp2_with (go_at_call 145;refine(HN.out _ HB0.out).mono ?_;rintro e w1 ⟨rfl,hb1⟩;have HB1:=Hd (HB0.out.trans (hb1.mono HB0.out.size));have HX1:=Hd (HX.out.below hb1 (by simp));clear hb1)
  have hF1:=HF.out.later HB1.out;have HF1:=Hd hF1;have HR1:=Hd (hF1.own _ _ HXS.out);have hrb1:=HRB.out.below HB1.out (Blk.lt HRB.out);have c0:w1.cell? ⟨rb,0,none⟩=_:=Blk.cell hrb1 0;have hrbl:=Blk.lt hrb1;have c1:w1.cell? ⟨gr,s,none⟩=some (.slice Ax xl.length cx):=by have h1:=own_cell hF1.row s (by omega);rw[pG,HXS.out]at h1;exact h1
  obtain⟨cur,hcur⟩:=hF1.blk;have hgrl:=Blk.lt hcur;have x0:w1.cell? ⟨w.heap.size,0,none⟩=_:=Blk.cell HX1.out 0;have x1:w1.cell? ⟨w.heap.size,1,none⟩=_:=Blk.cell HX1.out 1;have hxl1:=Blk.lt HX1.out;simp only[List.getElem?_toArray,List.getElem?_cons_zero,List.getElem?_cons_succ]at c0 x0 x1;have hws:=HB1.out.size;have HRB1:=Hd hrb1;have HCUR:=Hd hcur;have hsum:IntKind.i64.wrap ((d:Int)+1)=(d:Int)+1:=IntWalk.i64_in _ (by omega);clear hF1 hrb1 hcur z0;generalize hxb:w.heap.size=xb at *;have HXB:=Hd hxb;clear hxb;go_region_law (
    refine step_app ElItem (.tmp 15) (.tmp 22) ?_ ?_ (base:=Bs) (n:=xl.length) (m:=1) (N:=xl.length+1) (v:=.slice Ax xl.length cx) (src:=.slice (some ⟨w1.heap.size,0,none⟩) 1 1) (xs:=xl.flatMap itC) (news:=itC (k,d+1)) ?_ ?_ ?_ ?_ ?_ ?_ ?_ ?_ ?_
    ·rfl
    ·rfl
    ·rfl
    ·rfl
    ·first|exact(own_below HR1.out ((Below.refl _ w1).drew)).alloc _|exact own_below (HR1.out.alloc _) ((Below.refl _ _).drew)
    ·first|exact item_src (k,d+1) w1.drew|exact item_src (k,d+1) w1
    ·rfl
    ·unfold maxLen;omega
    ·omega
    ·simp;omega
    intro A3 c3 w3 r1 r2 r3;have HR1_:=Hd r1;have HR2_:=Hd r2;have HR3_:=Hd r3;have b3:Blk w3 rb 177 #[.slice (some ⟨gr,0,none⟩) n c]:=by first|exact r2.blk ((HRB1.out.drew).alloc _) (.inr (by decide))|exact r2.blk (Blk.drew (HRB1.out.alloc _)) (.inr (by decide))
    have c3_:=Blk.cell b3 0;simp at c3_;have g3:Blk w3 gr 68 cur:=by first|exact r2.blk ((HCUR.out.drew).alloc _) (.inr (by decide))|exact r2.blk (Blk.drew (HCUR.out.alloc _)) (.inr (by decide))
    have f3:=Blk.frozen g3 s;have o3:w3.ownsRow Bs 68 1 (.slice (some ⟨gr,0,none⟩) n c) n (R.map (·.1)):=by first|exact r2.own ((own_below HF1.out.row ((Below.refl _ w1).drew)).alloc _) (.inr (by decide))|exact r2.own (own_below (HF1.out.row.alloc _) ((Below.refl _ _).drew)) (.inr (by decide))
    have q3:=own_cell o3 s (by omega);rw[pG,HXS.out]at q3;simp only[Option.map_some]at q3;clear r1 r2 r3 b3 g3 o3)
  all_goals go_end0
  all_goals refine⟨rfl,?_⟩
  all_goals refine move_fin HF1.out (by rw[HXB.out];exact HB1.out) ?_ (by rw[HXB.out];exact hB) HXS.out HR1_.out HR2_.out HR3_.out
  all_goals exact⟨rfl,rfl,rfl,by simp,fun k hk=>Below.heap_alloc w1 _ _ hk⟩
end Go.Proofs.YthaacmablcpdfaaGreatDoor
