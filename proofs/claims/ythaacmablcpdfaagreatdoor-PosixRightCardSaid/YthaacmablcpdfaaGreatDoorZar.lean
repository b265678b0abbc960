/- slices. Items in order. -/
import Derived.Test.YthaacmablcpdfaaGreatDoorZao
import Derived.Test.YthaacmablcpdfaaGreatDoorZac
import Derived.Shelf.SlSortCmp.NoneTotal
import Derived.Shelf.Small.Bits
import Derived.Test.YthaacmablcpdfaaGreatDoorNm
namespace Go.Proofs.YthaacmablcpdfaaGreatDoor
open Go.RowKit
set_option linter.unusedVariables false
set_option maxRecDepth 100000
theorem dedA_short{l:List It}(h:l.length<2):dedA l=l:=by
 match l,h with
 | [],_=>rfl
 | [x],_=>rfl
 | x::y::l,h=>simp at h;omega
theorem own_setCells{B:Nat}{e:TypeId}{size n c g:Nat}:∀(zs:List Value) (w:World) (xs:List Value) (o:Nat),w.ownsRow B e size (.slice (some ⟨g,0,none⟩) n c) n xs→o+zs.length≤n*size →
  ∃xs',(w.setCells g o zs).ownsRow B e size (.slice (some ⟨g,0,none⟩) n c) n xs'∧xs'.take o=xs.take o∧Chg (·=g) w (w.setCells g o zs)
 | [],w,xs,o,h,_=>⟨xs,h,rfl,Chg.refl _ _⟩
 | z::zs,w,xs,o,h,hl=>by have h1:=own_set h o (by simp at hl;omega) z;obtain⟨xs',h2,h3,h4⟩:=own_setCells zs _ _ (o+1) h1 (by simp at hl ⊢;omega);refine⟨xs',h2,?_,((Chg.refl (·=g) w).set (p:=⟨g,o,none⟩) (.inr rfl) z).next h4⟩;have h5:=congrArg (fun l=>l.take o) h3;simp only[List.take_take,Nat.min_eq_left (by omega:o≤o+1)]at h5;rw[h5,List.take_set_of_le (by omega)]
theorem run_clear2{P:Program}{t e:TypeId}{z:Value}(w:World)(ht:P.underlying t=some (.slice e))(hv:∀w,(zeroValue e).run P w=.ok z w){a b:Value}(hz:z.cells=#[a,b])(h1:a.oneCell'=true∧b.oneCell'=true)(g o n c:Nat)(hn:0<n)
  (hc:∀j,j<n*2→(w.cell? ⟨g,o+j,none⟩).isSome=true) (hf:∀j,j<n*2→w.frozen? ⟨g,o+j,none⟩=false) (ty:TypeId) :
  ∃zs:List Value,zs.length=n*2∧(Builtin.clear_ #[t] ty #[.slice (some ⟨g,o,none⟩) n c]).run P w=.ok (.tuple #[]) (w.setCells g o zs):=by
 have hlen:(Builtin.zeroCells z.cells n).toList.length=n*2:=by rw[hz];simp[Builtin.zeroCells]
 refine⟨(Builtin.zeroCells z.cells n).toList,hlen,?_⟩;have hone:∀v∈(Builtin.zeroCells z.cells n).toList,v.oneCell'=true:=by
  intro v hv';rw[hz]at hv';simp[Builtin.zeroCells]at hv';obtain⟨i,hi,rfl⟩:=hv';have:i%2=0∨i%2=1:=by omega
  rcases this with h|h<;>rw[h]
  ·exact h1.1
  ·exact h1.2
 have hst:=run_storeCells_cells (P:=P) g o (Builtin.zeroCells z.cells n).toList 0 w (by rw[hlen];simpa using hc) (by rw[hlen];simpa using hf) hone;simp only[Nat.add_zero]at hst;obtain⟨m,rfl⟩:∃m,n=m+1:=⟨n-1,by omega⟩
 simp[Builtin.clear_,run_underlying ht,hv,hst]
theorem itemZ(w:World):(zeroValue 194).run Tryz.prog w=.ok (.agg #[.int .i64 0,.int .i64 0]) w:=Tryz.zeroValue194 w
def CompEnd(w:World)(B g n c:Nat)(l:List It)(e:Ending)(w':World):Prop:=e=.returned (.slice (some ⟨g,0,none⟩) (dedA l).length c)∧IRow w' B g (dedA l).length c (dedA l)∧Chg (·=g) w w'
theorem irow_drewN{w:World}{B g n c:Nat}{r:List It}(h:IRow w B g n c r)(q:Nat):IRow (w.drewN q) B g n c r:=own_below h ⟨rfl,rfl,rfl,leR _,fun _ _=>rfl⟩
set_option maxHeartbeats 1600000 in
theorem compact_any{w:World}{B g n c:Nat}{l:List It}(h:IRow w B g n c l)(hn:n≤100000)(hnc:n≤c):Calls Tryz.prog 195 #[.slice (some ⟨g,0,none⟩) n c] w (CompEnd w B g n c l):=by
 have hl:=irow_len h;have HR:=Hd h;have HF:Hid (∀(y:World) (r:List It),IRow y B g n c r→∀(k:Nat) (x:It),r[k]?=some x→(y.cell? ⟨g,k*2,none⟩=some (.int .i64 x.1)∧y.cell? ⟨g,k*2+1,none⟩=some (.int .i64 x.2))∧y.frozen? ⟨g,k*2,none⟩=false∧y.frozen? ⟨g,k*2+1,none⟩=false):=Hd (fun y r hy k x hx=>⟨irow_at hy hx,own_frozen hy _,own_frozen hy _⟩);unfold CompEnd;by_cases h2:n<2
 ·have hd:=dedA_short (l:=l) (by omega)
  have HD:=Hd hd;clear h;go_enter Tryz.func195,Tryz.ntmps195
  go_wp2_with fail
  go_ret;exact⟨by rw[HD.out,hl];rfl,by rw[HD.out,hl];exact HR.out,Chg.refl _ _⟩
 ·clear h
  go_enter Tryz.func195,Tryz.ntmps195
  go_wp2_with fail
  go_loopw [3] (fun i wr=>∃k q:Nat,1≤k∧k≤n∧i=.int .i64 k∧wr=w.drewN q∧Hid (dedA (l.take k)=l.take k)) (fun i _=>n-(intOf i).toNat)
  case atStart=>exact⟨1,0,leR _,by omega,rfl,rfl,Hd (dedA_short (by rw[List.length_take];omega))⟩
  case round=>
   obtain⟨k,q,hk1,hk,rfl,rfl,HD⟩:=hrel;by_cases hlt:k<n
   ·obtain⟨⟨xa,xb⟩,hx⟩:∃x,l[k]?=some x:=⟨_,eG (by omega)⟩
    obtain⟨⟨ya,yb⟩,hy⟩:∃x,l[k-1]?=some x:=⟨_,eG (by omega)⟩
    obtain⟨⟨c0,c1⟩,-⟩:=HF.out w l HR.out k _ hx;obtain⟨⟨d0,d1⟩,-⟩:=HF.out w l HR.out (k-1) _ hy;have HT:Hid (dedA (l.take (k+1))=if (ya,yb)=(xa,xb) then dedA (l.take k) else dedA (l.take k)++[(xa,xb)]):=Hd (by have:=dedA_take (l:=l) (j:=k-1) (x:=(xa,xb)) (y:=(ya,yb)) (by rw[show k-1+1=k by omega];exact hx) hy;rwa [show k-1+2=k+1 by omega,show k-1+1=k by omega]at this)
    have htk:l.take (k+1)=l.take k++[(xa,xb)]:=by rw[List.take_add_one,hx];rfl
    have HTK:=Hd htk;have HX:=Hd hx;have heq:=fun y=>item_eq (xa,xb) (ya,yb) y
    have hgd:=fun y op a b=>item_guard op a b (xa,xb) (ya,yb) y
    unfold itV at heq hgd;simp only at c0 c1 d0 d1 heq hgd;have i1:(0:Int)≤(k:Int)-1:=by omega
    have i2:(k:Int)<(n:Int):=by omega
    have i3:(k:Int)-1<(n:Int):=by omega
    clear hx hy htk;by_cases hq:((xa,xb):It)=(ya,yb)
    ·have hq1:decide (((xa,xb):It)=(ya,yb))=true:=decide_eq_true hq
     rw[hq1]at heq;have HD2:Hid (dedA (l.take (k+1))=l.take k):=Hd (by rw[HT.out,if_pos hq.symm,HD.out]);have hkc:¬(c=k):=by omega
     clear HT hq hq1;go_upto_region 6 with fail
     go_quiet (fail)
     have HR1:=Hd (irow_drewN HR.out (q+nq));have HCH0:Hid (Chg (·=g) w (w.drewN (q+nq))):=Hd (Chg.of_below ⟨rfl,rfl,rfl,leR _,fun _ _=>rfl⟩);clear heq hgd c0 c1 d0 d1;go_wp2_with fail
     go_loopw [3,5] (fun i i2 wr=>∃(kk k2:Nat) (r:List It),i=.int .i64 kk∧i2=.int .i64 k2∧1≤k2∧k+k2≤n∧kk<k+k2∧1≤kk∧Hid (IRow wr B g n c r)∧Hid (Chg (·=g) w wr)∧Hid (r.take kk=dedA (l.take (k+k2))∧kk=(dedA (l.take (k+k2))).length∧∀j,k+k2-1≤j→r[j]?=l[j]?)) (fun _ i2 _=>n-(intOf i2).toNat)
     case atStart=>exact⟨k,1,l,rfl,rfl,leR _,by omega,by omega,hk1,HR1,HCH0,Hd ⟨by rw[HD2.out],by rw[HD2.out,List.length_take];omega,fun _ _=>rfl⟩⟩
     case round=>
      obtain⟨kk,k2,r,rfl,rfl,h1,hle,hkk,hkk1,HRW,HCH,HI⟩:=hrel;rename World=>w9
      by_cases hlt2:k+k2<n
      ·obtain⟨⟨pa,pb⟩,hx⟩:∃x,l[k+k2]?=some x:=⟨_,eG (by omega)⟩
       obtain⟨⟨ra,rb⟩,hy⟩:∃x,l[k+k2-1]?=some x:=⟨_,eG (by omega)⟩
       obtain⟨oo,ho⟩:∃x,r[kk]?=some x:=⟨_,eG (by rw[irow_len HRW.out];omega)⟩
       obtain⟨⟨c0,c1⟩,-⟩:=HF.out w9 r HRW.out (k+k2) _ ((HI.out.2.2 _ (by omega)).trans hx);obtain⟨⟨d0,d1⟩,-⟩:=HF.out w9 r HRW.out (k+k2-1) _ ((HI.out.2.2 _ (by omega)).trans hy);obtain⟨⟨o0,o1⟩,f0,f1⟩:=HF.out w9 r HRW.out kk _ ho;rw[show (k+k2)*2=k*2+k2*2 by omega]at c0 c1;rw[show (k+k2-1)*2=k*2+(k2-1)*2 by omega]at d0 d1;have HT:Hid (dedA (l.take (k+k2+1))=if (ra,rb)=(pa,pb) then dedA (l.take (k+k2)) else dedA (l.take (k+k2))++[(pa,pb)]):=Hd (by have:=dedA_take (l:=l) (j:=k+k2-1) (x:=(pa,pb)) (y:=(ra,rb)) (by rw[show k+k2-1+1=k+k2 by omega];exact hx) hy;rwa [show k+k2-1+2=k+k2+1 by omega,show k+k2-1+1=k+k2 by omega]at this)
       have HX2:=Hd hx;have heq:=fun y=>item_ne (pa,pb) (ra,rb) y
       have hgd:=fun y op a b=>item_guard op a b (pa,pb) (ra,rb) y
       unfold itV at heq hgd;simp only at c0 c1 d0 d1 heq hgd;have j1:(0:Int)≤(k2:Int)-1:=by omega
       have j2:(k2:Int)<((n-k:Nat):Int):=by omega
       have j3:(k2:Int)-1<((n-k:Nat):Int):=by omega
       have j4:(kk:Int)<(n:Int):=by omega
       clear hx hy ho;by_cases hq:((pa,pb):It)=(ra,rb)
       ·have hq1:(!decide (((pa,pb):It)=(ra,rb)))=false:=by rw[decide_eq_true hq];rfl
        rw[hq1]at heq;have HI2:Hid (r.take kk=dedA (l.take (k+(k2+1)))∧kk=(dedA (l.take (k+(k2+1)))).length∧∀j,k+(k2+1)-1≤j→r[j]?=l[j]?):=Hd (by rw[show k+(k2+1)=k+k2+1 by omega,HT.out,if_pos hq.symm];exact⟨HI.out.1,HI.out.2.1,fun j hj=>HI.out.2.2 j (by omega)⟩)
        clear HT hq hq1 HI;go_upto_region 11 with fail
        go_quiet (fail)
        have HR2:=Hd (irow_drewN HRW.out nq);have HC2:Hid (Chg (·=g) w (w9.drewN nq)):=Hd (HCH.out.next (Chg.of_below ⟨rfl,rfl,rfl,leR _,fun _ _=>rfl⟩));clear heq hgd;go_wp2_with fail
        go_roundw
        case rel=>exact⟨kk,k2+1,r,rfl,by go_num,by omega,by omega,by omega,hkk1,HR2,HC2,HI2⟩
        case measure=>simp[intOf];omega
       ·have hq1:(!decide (((pa,pb):It)=(ra,rb)))=true:=by rw[decide_eq_false hq];rfl
        rw[hq1]at heq;have HI2:Hid ((r.set kk (pa,pb)).take (kk+1)=dedA (l.take (k+(k2+1)))∧kk+1=(dedA (l.take (k+(k2+1)))).length∧∀j,k+(k2+1)-1≤j→(r.set kk (pa,pb))[j]?=l[j]?):=Hd (by
         have hrl:=irow_len HRW.out;rw[show k+(k2+1)=k+k2+1 by omega,HT.out,if_neg (fun e=>hq e.symm)];refine⟨?_,?_,fun j hj=>?_⟩
         ·rw[List.take_add_one,tG (by omega),List.take_set_of_le (leR _),HI.out.1]
          rfl
         ·rw[lnA,←HI.out.2.1];rfl
         ·rw[uG (by omega)]
          exact HI.out.2.2 j (by omega))
        clear HT hq hq1 HI;go_upto_region 11 with fail
        go_quiet (fail)
        have HR2:=Hd (irow_set (irow_drewN HRW.out nq) (k:=kk) (by omega) (pa,pb));have HC2:Hid (Chg (·=g) w (((w9.drewN nq).setCell ⟨g,kk*2,none⟩ (.int .i64 pa)).setCell ⟨g,kk*2+1,none⟩ (.int .i64 pb))):=Hd (((HCH.out.next (Chg.of_below (a:=w9) (b:=w9.drewN nq) ⟨rfl,rfl,rfl,leR _,fun _ _=>rfl⟩)).set (p:=⟨g,kk*2,none⟩) (.inr rfl) _).set (p:=⟨g,kk*2+1,none⟩) (.inr rfl) _);clear heq hgd;go_wp2_with fail
        go_roundw
        case rel=>exact⟨kk+1,k2+1,r.set kk (pa,pb),by go_num,by go_num,by omega,by omega,by omega,by omega,HR2,HC2,HI2⟩
        case measure=>simp[intOf];omega
      ·have hend:k+k2=n:=by omega
       have hkkn:kk<n:=by omega
       have hkc2:¬(c=kk):=by omega
       obtain⟨zs,hzl,hclr⟩:=run_clear2 (P:=Tryz.prog) (t:=68) (e:=194) (z:=.agg #[.int .i64 0,.int .i64 0]) w9 Tryz.underlying68 itemZ (a:=.int .i64 0) (b:=.int .i64 0) rfl ⟨rfl,rfl⟩ g (kk*2) (n-kk) (c-kk) (by omega) (fun j hj=>by have hcl:=own_cell HRW.out (kk*2+j) (by omega);rw[hcl,Option.isSome_iff_exists];exact⟨_,eG (by rw[flat_len,irow_len HRW.out];omega)⟩) (fun j hj=>own_frozen HRW.out _) 0
       obtain⟨xs',hx1,hx2,hx3⟩:=own_setCells zs w9 _ (kk*2) HRW.out (by omega);have HFIN:Hid (IRow (w9.setCells g (kk*2) zs) B g kk c (dedA l)∧(dedA l).length=kk∧Chg (·=g) w (w9.setCells g (kk*2) zs)):=Hd (by obtain⟨t1,t2,-⟩:=HI.out;rw[hend,←hl,List.take_length]at t1 t2;refine⟨?_,t2.symm,HCH.out.next hx3⟩;have hz:=own_take hx1 (k:=kk) (by omega);rw[hx2,fm_take itC 2 (fun _=>rfl),t1]at hz;exact hz)
       clear hx1 hx2 hx3 HI;generalize w9.setCells g (kk*2) zs=W9 at *;have j4:(kk:Int)<(n:Int):=by omega
       have j5:(kk:Int)≤(n:Int):=by omega
       have j6:(0:Int)≤(kk:Int):=by omega
       go_wp2_with fail
       go_ret;exact⟨by rw[HFIN.out.2.1];rfl,by rw[HFIN.out.2.1];exact HFIN.out.1,HFIN.out.2.2⟩
    ·have hq1:decide (((xa,xb):It)=(ya,yb))=false:=decide_eq_false hq
     rw[hq1]at heq;have HD2:Hid (dedA (l.take (k+1))=l.take (k+1)):=Hd (by rw[HT.out,if_neg (fun e=>hq e.symm),HD.out,HTK.out]);clear HT hq hq1;go_upto_region 6 with fail
     go_quiet (fail)
     go_wp2_with fail
     go_roundw
     case rel=>exact⟨k+1,q+nq,by omega,by omega,by go_num,rfl,HD2⟩
     case measure=>simp[intOf];omega
   ·obtain rfl:k=n:=by omega
    have HE:Hid (dedA l=l):=Hd (by have:=HD.out;rwa [←hl,List.take_length]at this);go_wp2_with fail
    go_ret;exact⟨by rw[HE.out,hl];rfl,by rw[HE.out,hl];exact irow_drewN HR.out q,Chg.of_below ⟨rfl,rfl,rfl,leR _,fun _ _=>rfl⟩⟩
end Go.Proofs.YthaacmablcpdfaaGreatDoor
namespace Go.Proofs.YthaacmablcpdfaaGreatDoor
open Go.RowKit Go.Shelf Go.Sort
set_option linter.unusedVariables false
set_option maxRecDepth 100000
def sortRen:Go.Shelf.Ren:=⟨fun|6=>193|14=>213|15=>214|20=>222|21=>223|22=>224|23=>225|24=>226|25=>227|26=>228|27=>229|28=>230|29=>231|46=>236|47=>237|48=>238|49=>239|50=>240|57=>242|n=>n,fun|0=>0|3=>3|4=>4|5=>5|9=>9|22=>68|25=>274|39=>219|45=>298|46=>299|50=>184|53=>305|55=>156|66=>307|70=>311|76=>315|77=>316|24=>194|n=>n,fun n=>n⟩
theorem sortLays:SlLaysF0.n6 Tryz.prog sortRen:={
 mixed:=by kernel_rfl
 f6:=⟨Tryz.f193.name,by decide,Tryz.func193.trans (congrArg some (by kernel_rfl))⟩
 f14:=⟨Tryz.f213.name,by decide,Tryz.func213.trans (congrArg some (by kernel_rfl))⟩
 f15:=Tryz.func214.trans (congrArg some (by kernel_rfl))
 f20:=⟨Tryz.f222.name,by decide,Tryz.func222.trans (congrArg some (by kernel_rfl))⟩
 f21:=⟨Tryz.f223.name,by decide,Tryz.func223.trans (congrArg some (by kernel_rfl))⟩
 f22:=⟨Tryz.f224.name,by decide,Tryz.func224.trans (congrArg some (by kernel_rfl))⟩
 f23:=⟨Tryz.f225.name,by decide,Tryz.func225.trans (congrArg some (by kernel_rfl))⟩
 f24:=⟨Tryz.f226.name,by decide,Tryz.func226.trans (congrArg some (by kernel_rfl))⟩
 f25:=⟨Tryz.f227.name,by decide,Tryz.func227.trans (congrArg some (by kernel_rfl))⟩
 f26:=⟨Tryz.f228.name,by decide,Tryz.func228.trans (congrArg some (by kernel_rfl))⟩
 f27:=⟨Tryz.f229.name,by decide,Tryz.func229.trans (congrArg some (by kernel_rfl))⟩
 f28:=Tryz.func230.trans (congrArg some (by kernel_rfl))
 f29:=Tryz.func231.trans (congrArg some (by kernel_rfl))
 f46:=⟨Tryz.f236.name,by decide,Tryz.func236.trans (congrArg some (by kernel_rfl))⟩
 f47:=Tryz.func237.trans (congrArg some (by kernel_rfl))
 f48:=Tryz.func238.trans (congrArg some (by kernel_rfl))
 f49:=⟨Tryz.f239.name,by decide,Tryz.func239.trans (congrArg some (by kernel_rfl))⟩
 f50:=⟨Tryz.f240.name,by decide,Tryz.func240.trans (congrArg some (by kernel_rfl))⟩
 f57:=⟨Tryz.f242.name,by decide,Tryz.func242.trans (congrArg some (by kernel_rfl))⟩
 t0:=Tryz.underlying0
 a0:=Tryz.isAgg0
 z0:=Tryz.sizeOf0
 v0:=Tryz.zeroValue0
 t3:=Tryz.underlying3
 a3:=Tryz.isAgg3
 z3:=Tryz.sizeOf3
 v3:=Tryz.zeroValue3
 t4:=Tryz.underlying4
 a4:=Tryz.isAgg4
 z4:=Tryz.sizeOf4
 v4:=Tryz.zeroValue4
 t5:=Tryz.underlying5
 a5:=Tryz.isAgg5
 z5:=Tryz.sizeOf5
 v5:=Tryz.zeroValue5
 t9:=Tryz.underlying9
 a9:=Tryz.isAgg9
 z9:=Tryz.sizeOf9
 v9:=Tryz.zeroValue9
 t22:=Tryz.underlying68
 a22:=Tryz.isAgg68
 z22:=Tryz.sizeOf68
 v22:=Tryz.zeroValue68
 t25:=Tryz.underlying274
 a25:=Tryz.isAgg274
 z25:=Tryz.sizeOf274
 v25:=Tryz.zeroValue274
 t39:=Tryz.underlying219
 a39:=Tryz.isAgg219
 z39:=Tryz.sizeOf219
 v39:=Tryz.zeroValue219
 t45:=Tryz.underlying298
 a45:=Tryz.isAgg298
 z45:=Tryz.sizeOf298
 v45:=Tryz.zeroValue298
 t46:=Tryz.underlying299
 a46:=Tryz.isAgg299
 z46:=Tryz.sizeOf299
 v46:=Tryz.zeroValue299
 t50:=Tryz.underlying184
 a50:=Tryz.isAgg184
 z50:=Tryz.sizeOf184
 v50:=Tryz.zeroValue184
 t53:=Tryz.underlying305
 a53:=Tryz.isAgg305
 z53:=Tryz.sizeOf305
 v53:=Tryz.zeroValue305
 t55:=Tryz.underlying156
 a55:=Tryz.isAgg156
 z55:=Tryz.sizeOf156
 v55:=Tryz.zeroValue156
 t66:=Tryz.underlying307
 a66:=Tryz.isAgg307
 z66:=Tryz.sizeOf307
 v66:=Tryz.zeroValue307
 t70:=Tryz.underlying311
 a70:=Tryz.isAgg311
 z70:=Tryz.sizeOf311
 v70:=Tryz.zeroValue311
 t76:=Tryz.underlying315
 a76:=Tryz.isAgg315
 z76:=Tryz.sizeOf315
 v76:=Tryz.zeroValue315
 t77:=Tryz.underlying316
 a77:=Tryz.isAgg316
 z77:=Tryz.sizeOf316
 v77:=Tryz.zeroValue316}
def ltI(x y:It):Bool:=Nat.blt x.1 y.1||(Nat.beq x.1 y.1&&Nat.blt x.2 y.2)
def insI(x:It):List It→List It
 | []=>[x]
 | y::l=>bif ltI y x then y::insI x l else x::y::l
def sortI(l:List It):List It:=l.foldr insI []
def orderL(l:List It):List It:=dedA (sortI l)
theorem ltI_iff(x y:It):ltI x y=true↔x.1<y.1∨(x.1=y.1∧x.2<y.2):=by simp[ltI,Nat.blt_eq,Nat.beq_eq]
theorem ltI_not(x y:It):ltI x y=false↔¬(x.1<y.1∨(x.1=y.1∧x.2<y.2)):=by rw[←ltI_iff];cases ltI x y<;>simp
theorem insI_perm(x:It)(l:List It):(insI x l).Perm (x::l):=by
 induction l with
 | nil=>exact List.Perm.refl _
 | cons y l ih=>
  unfold insI;cases ltI y x
  ·exact List.Perm.refl _
  ·exact(ih.cons y).trans (List.Perm.swap x y l)
theorem sortI_perm(l:List It):(sortI l).Perm l:=by
 induction l with
 | nil=>exact List.Perm.refl _
 | cons x l ih=>exact(insI_perm x _).trans (ih.cons x)
theorem insI_sorted(x:It)(l:List It)(h:l.Pairwise fun a b=>ltI b a=false):(insI x l).Pairwise fun a b=>ltI b a=false:=by
 induction l with
 | nil=>exact List.pairwise_singleton _ _
 | cons y l ih=>
  have hc:=List.pairwise_cons.1 h;unfold insI;cases hy:ltI y x
  ·refine List.pairwise_cons.2 ⟨fun z hz=>?_,h⟩
   rcases List.mem_cons.1 hz with rfl|hz
   ·exact hy
   ·have:=hc.1 z hz
    rw[ltI_not]at *;omega
  ·refine List.pairwise_cons.2 ⟨fun z hz=>?_,ih hc.2⟩
   rcases List.mem_cons.1 ((insI_perm x l).mem_iff.1 hz) with rfl|hz
   ·rw[ltI_iff]at hy
    rw[ltI_not];omega
   ·exact hc.1 z hz
theorem sortI_sorted(l:List It):(sortI l).Pairwise fun a b=>ltI b a=false:=by
 induction l with
 | nil=>exact List.Pairwise.nil
 | cons x l ih=>exact insI_sorted x _ ih
theorem sortI_len(l:List It):(sortI l).length=l.length:=(sortI_perm l).length_eq
abbrev ItB:={x:It // x.1≤100000∧x.2≤100000}
instance:Inhabited ItB:=⟨⟨(0,0),by decide⟩⟩
def itB(x:ItB):List Value:=itC x.1
def cmpB(x y:ItB):Int:=if x.1.1=y.1.1 then(x.1.2:Int)-y.1.2 else(x.1.1:Int)-y.1.1
theorem ltB(x y:ItB):ltOf cmpB x y=ltI x.1 y.1:=by unfold ltOf cmpB;rw[Bool.eq_iff_iff,ltI_iff,decide_eq_true_iff];split<;>omega
theorem swoB:SWO (ltOf cmpB) where
 irrefl x:=by rw[ltB,ltI_not];omega
 trans x y z h1 h2:=by rw[ltB,ltI_iff]at *;omega
 ntrans x y z h1 h2:=by rw[ltB,ltI_not]at *;omega
theorem totB(x y:ItB)(h1:ltOf cmpB x y=false)(h2:ltOf cmpB y x=false):x=y:=by rw[ltB,ltI_not]at *;exact Subtype.ext (Prod.ext (by omega) (by omega))
theorem sorted_of{d:List ItB}:(d.mergeSort fun x y=>!(ltOf cmpB) y x).map (·.1)=sortI (d.map (·.1)):=by
 have e:(d.mergeSort fun x y=>!(ltOf cmpB) y x).map (·.1)=(d.map (·.1)).mergeSort fun x y=>!ltI y x:=List.map_mergeSort fun a _ b _=>by rw[ltB]
 rw[e];refine List.Perm.eq_of_pairwise (le:=fun x y=>(!ltI y x)=true) ?_ ?_ ?_ ((List.mergeSort_perm _ _).trans (sortI_perm _).symm)
 ·intro a b _ _ h1 h2
  simp only[Bool.not_eq_true',ltI_not]at h1 h2;exact Prod.ext (by omega) (by omega)
 ·refine List.pairwise_mergeSort ?_ ?_ _
  ·intro a b c h1 h2
   simp only[Bool.not_eq_true',ltI_not]at h1 h2 ⊢;omega
  ·intro a b
   cases h:ltI b a with
   | false=>simp
   | true=>
    rw[ltI_iff]at h;have:ltI a b=false:=by rw[ltI_not];omega
    simp[this]
 ·simpa using sortI_sorted (d.map (·.1))
theorem flat_get(r:List It)(j:Nat)(hj:j<r.length*2):(r.flatMap itC)[j]?=(itC (r[j/2]'(by omega)))[j%2]?:=by have:=fm_get itC 2 (fun _=>rfl) r (j/2) (j%2) (by omega) (by omega);rw[show j/2*2+j%2=j by omega]at this;exact this
theorem flatK_flat(d:Array ItB):(flatK itB 2 d).toList=(d.toList.map (·.1)).flatMap itC:=by
 apply List.ext_getElem?;intro j;by_cases hj:j<d.size*2
 ·rw[flat_get _ _ (by simpa using hj)]
  have h1:=get_flatK itB 2 d j hj;have h2:j/2<d.size:=by omega
  rw[getElem!_pos _ _ (by simpa using hj),getElem!_pos d _ h2]at h1;rw[Array.getElem?_toList,Array.getElem?_eq_getElem (by simpa using hj),h1];have h3:j%2<(itB d[j/2]).length:=by show _<2;omega
  rw[getElem!_pos (itB d[j/2]) (j%2) h3,List.getElem_map,Array.getElem_toList];exact(eG h3).symm
 ·rw[nG (by simp;omega),nG (by rw[flat_len];simp;omega)]
theorem irow_holds{w:World}{B g c:Nat}{d:Array ItB}(h:IRow w B g d.size c (d.toList.map (·.1))):HoldsK itB 2 w g 0 d:=by
 intro j hj;have hj2:j<d.size*2:=by simpa using hj
 have h1:=own_cell h j hj2;rw[←flatK_flat d,Array.getElem?_toList,Array.getElem?_eq_getElem hj]at h1;rw[Nat.zero_add,getElem!_pos (flatK itB 2 d) j hj];exact⟨h1,own_frozen h j⟩
theorem put_flat(cur:Array Value)(F:Array Value)(h:F.size≤cur.size):(putCells id 0 F cur).size=cur.size∧(putCells id 0 F cur).toList.take F.size=F.toList:=by
 refine⟨by simp[putCells],?_⟩;apply List.ext_getElem?;intro j;by_cases hj:j<F.size
 ·rw[List.getElem?_take_of_lt hj,Array.getElem?_toList,Array.getElem?_eq_getElem (by simp[putCells];omega),Array.getElem?_toList,Array.getElem?_eq_getElem hj]
  simp[putCells,hj]
 ·rw[nG (by simp;omega),nG (by simp;omega)]
theorem irow_sorted{w:World}{B g n c m:Nat}{l:List It}{d:Array ItB}{os:Array Obj}(h:IRow w B g n c l)(hd:d.size=n):IRow (sortWorldK itB 2 w g 0 m d os) B g n c (d.toList.map (·.1))∧Chg (·=g) w (sortWorldK itB 2 w g 0 m d os):=by
 rcases h.2 with⟨hh,_⟩|⟨g',cap,cur,hh,hb,hgg,h1,h2,h3,h4⟩
 ·cases hh
 cases hh
 have hlt:=(aG.1 hgg).1;have hF:=put_flat cur (flatK itB 2 d) (by rw[size_flatK,hd,h3];exact Nat.mul_le_mul_right 2 h1);have hw:(sortWorldK itB 2 w g 0 m d os).heap=w.heap.modify g (onCells (putCells id 0 (flatK itB 2 d)))++os:=rfl;have hsz:(w.heap.modify g (onCells (putCells id 0 (flatK itB 2 d)))).size=w.heap.size:=Array.size_modify;have hg2:(sortWorldK itB 2 w g 0 m d os).heap[g]?=some (.cells (putCells id 0 (flatK itB 2 d) cur) 194 (0,0)):=by rw[hw,Array.getElem?_append_left (by rw[hsz];exact hlt),Array.getElem?_modify,if_pos rfl,hgg];rfl
 refine⟨⟨by rw[flat_len];simp[hd],.inr ⟨g,c,_,rfl,hb,hg2,h1,h2,by rw[hF.1,h3],?_⟩⟩,⟨rfl,rfl,rfl,by rw[hw,Array.size_append,hsz];omega,fun k hk hx=>?_⟩⟩
 ·rw[←flatK_flat,←hF.2,size_flatK,hd]
 ·rw[hw,Array.getElem?_append_left (by rw[hsz];exact hk),Array.getElem?_modify,if_neg (by rintro rfl;exact hx rfl)]
theorem sort_any{w:World}{B g n c:Nat}{l:List It}(h:IRow w B g n c l)(hn:n≤100000)(hl:∀x∈l,x.1≤100000∧x.2≤100000):Calls Tryz.prog 193 #[.slice (some ⟨g,0,none⟩) n c,.func (.func 194) #[] #[]] w fun e w'=>e=.returned (.tuple #[])∧IRow w' B g n c (sortI l)∧Chg (·=g) w w':=by
 have hlen:=irow_len h;have hmap:(l.attachWith (fun x=>x.1≤100000∧x.2≤100000) hl).map (·.1)=l:=List.attachWith_map_subtype_val hl;generalize hd:(l.attachWith (fun x=>x.1≤100000∧x.2≤100000) hl)=dl at hmap;clear hd;have hdl:dl.length=n:=by rw[←hlen,←hmap,lM]
 have eg:∀args w,(callFunc 194 args).run Tryz.prog w=.ok (.enter 194 args) w:=enters_of Tryz.func194 (by kernel_rfl) rfl;have hg:g<w.heap.size:=by
  rcases h.2 with⟨hh,_⟩|⟨g',cap,cur,hh,hb,hgg,_⟩
  ·cases hh
  ·cases hh;exact(aG.1 hgg).1
 have hcmp:CmpLays Tryz.prog 194 #[] itB 2 cmpB g 0 dl.toArray.size w:=fun m os dk hs x y=>by refine(cmp_any (sortWorldK itB 2 w g 0 m dk os) x.1 y.1 x.2 y.2).mono ?_;rintro e w' ⟨rfl,rfl⟩;exact⟨rfl,0,#[.cells #[.int .i64 x.1.1,.int .i64 x.1.2] 194]++#[.cells #[.int .i64 y.1.1,.int .i64 y.1.2] 194],by rw[alloc_eq_grow,alloc_eq_grow,grow_grow];rfl⟩
 have hH:HoldsK itB 2 w g 0 dl.toArray:=irow_holds (B:=B) (c:=c) (by simp only[List.size_toArray];rw[hdl,hmap];exact h);have hcon:=AnyQ.slices_SortFunc_total sortLays 2 Tryz.isAgg194 Tryz.sizeOf194 itB (fun _=>rfl) (fun x v hv=>by simp[itB,itC]at hv;rcases hv with rfl|rfl<;>rfl) cmpB swoB 194 #[] g 0 c dl.toArray w eg hcmp hH hg (by simp;omega) totB;change Calls Tryz.prog 193 #[.slice (some ⟨g,0,none⟩) dl.length c,_] w _ at hcon;rw[hdl]at hcon;refine hcon.mono ?_;rintro e w' ⟨rfl,m,os,rfl⟩;have hs:=irow_sorted (m:=m) (os:=os) (d:=(dl.mergeSort fun x y=>!(ltOf cmpB) y x).toArray) h (by simp[hdl])
 refine⟨rfl,?_,hs.2⟩;have h1:=hs.1;simp only at h1;rw[sorted_of,hmap]at h1;exact h1
theorem order_any{w:World}{B g n c:Nat}{l:List It}(h:IRow w B g n c l)(hn:n≤100000)(hnc:n≤c)(hl:∀x∈l,x.1≤100000∧x.2≤100000):Calls Tryz.prog 149 #[.slice (some ⟨g,0,none⟩) n c] w fun e w'=>e=.returned (.slice (some ⟨g,0,none⟩) (orderL l).length c)∧IRow w' B g (orderL l).length c (orderL l)∧Chg (·=g) w w':=by
 have HS:=Hd (sort_any h hn hl);have HC:=Hd (fun(y:World) (r:List It) (hy:IRow y B g n c r)=>compact_any hy hn hnc);clear h;unfold orderL;generalize sortI l=r at HS ⊢;go_enter Tryz.func149,Tryz.ntmps149
 go_wp2_with (first|(go_at_call 193;refine HS.out.mono ?_;rintro e w1 ⟨rfl,h1,k1⟩;have H1:=Hd h1;have K1:=Hd k1;clear h1 k1)|(go_at_call 195;refine(HC.out _ _ H1.out).mono ?_;rintro e w2 ⟨rfl,h2,k2⟩;have H2:=Hd h2;have K2:=Hd k2;clear h2 k2))
 go_ret;exact⟨rfl,H2.out,K1.out.next K2.out⟩
theorem compact_nil(w:World):Calls Tryz.prog 195 #[.slice none 0 0] w fun e w'=>e=.returned (.slice none 0 0)∧w'=w:=by
 go_enter Tryz.func195,Tryz.ntmps195
 go_wp2;go_ret;exact⟨rfl,rfl⟩
theorem order_nil(w:World):Calls Tryz.prog 149 #[.slice none 0 0] w fun e w'=>e=.returned (.slice none 0 0)∧w'=w:=by
 have HS:=Hd (fun y:World=>AnyF.slices_SortFunc_none sortLays none 0 (.func (.func 194) #[] #[]) y);have HC:=Hd compact_nil;go_enter Tryz.func149,Tryz.ntmps149
 go_wp2_with (first|(go_at_call 193;refine(HS.out _).mono ?_;rintro e w1 ⟨rfl,rfl⟩)|(go_at_call 195;refine(HC.out _).mono ?_;rintro e w2 ⟨rfl,rfl⟩))
 go_ret;exact⟨rfl,rfl⟩
end Go.Proofs.YthaacmablcpdfaaGreatDoor
