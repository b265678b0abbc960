/- Sets of numbers. -/
import Derived.Test.YthaacmablcpdfaaGreatDoorZad
import Derived.Test.YthaacmablcpdfaaGreatDoorZah
import Derived.Laws.CopyRow
import Derived.Laws.CopyOwn
import Derived.Test.YthaacmablcpdfaaGreatDoorNm
namespace Go.Proofs.YthaacmablcpdfaaGreatDoor
open Go.RowKit
set_option linter.unusedVariables false
set_option maxRecDepth 100000
theorem nextI_cases{n S:Nat}:∀d k,n-k=d→(∃m:Nat,nextI n S k=m∧k≤m∧m<n∧S.testBit m=true∧∀j,k≤j→j<m→S.testBit j=false)∨(nextI n S k = -1∧∀j,k≤j→j<n→S.testBit j=false)
 | 0,k,hd=>by
  have h:∀j,k≤j→j<n→S.testBit j=false:=fun j h1 h2=>by omega
  exact .inr ⟨nextI_none h,h⟩
 | d+1,k,hd=>by
  cases hb:S.testBit k with
  | true=>
   have h:∀j,k≤j→j<k→S.testBit j=false:=fun j h1 h2=>absurd h1 (Nat.not_le.2 h2)
   exact .inl ⟨k,nextI_some (k:=k) (by omega) hb (leR _) h,leR _,by omega,hb,h⟩
  | false=>
   have hj:∀j,k≤j→j<k+1→S.testBit j=false:=fun j h1 h2=>by rw[show j=k by omega];exact hb
   rcases nextI_cases (n:=n) (S:=S) d (k+1) (by omega) with⟨m,h1,h2,h3,h4,h5⟩|⟨h1,h2⟩
   ·have h6:∀j,k≤j→j<m→S.testBit j=false:=fun j a b=>by
     by_cases hh:j<k+1
     ·exact hj j a hh
     ·exact h5 j (by omega) b
    exact .inl ⟨m,nextI_some h3 h4 (by omega) h6,by omega,h3,h4,h6⟩
   ·have h6:∀j,k≤j→j<n→S.testBit j=false:=fun j a b=>by
     by_cases hh:j<k+1
     ·exact hj j a hh
     ·exact h2 j (by omega) b
    exact .inr ⟨nextI_none h6,h6⟩
theorem none_in{S k d:Nat}(h:∀j,k≤j→j<k+d→S.testBit j=false):((List.range d).map (k+·)).filter (fun i=>S.testBit i)=[]:=by rw[List.filter_eq_nil_iff];intro j hj;rw[List.mem_map]at hj;obtain⟨i,hi,rfl⟩:=hj;rw[List.mem_range]at hi;rw[h (k+i) (by omega) (by omega)];simp
theorem bits_upto{S k m:Nat}(hkm:k≤m)(hm:S.testBit m=true)(h:∀j,k≤j→j<m→S.testBit j=false):bitsL (m+1) S=bitsL k S++[m]:=by unfold bitsL;rw[show m+1=k+(m-k)+1 by omega,List.range_succ,List.range_add,List.filter_append,List.filter_append,none_in (fun j h1 h2=>h j h1 (by omega)),List.append_nil,show k+(m-k)=m by omega,List.filter_cons,if_pos hm];rfl
theorem bits_end{S k n:Nat}(hkn:k≤n)(h:∀j,k≤j→j<n→S.testBit j=false):bitsL n S=bitsL k S:=by unfold bitsL;rw[show n=k+(n-k) by omega,List.range_add,List.filter_append,none_in (fun j h1 h2=>h j h1 (by omega)),List.append_nil]
def NatV(n:Nat):Value:=.int .i64 n
theorem bitsL_len(n S:Nat):(bitsL n S).length≤n:=by unfold bitsL;exact leT (List.length_filter_le _ _) (by simp)
theorem list_any{w:World}{s:SetH}{S:Nat}(h:SetAt w s S):Calls Tryz.prog 159 #[s.v] w fun e w'=>∃o,e=.returned o∧OutAt 3 w ((bitsL s.n S).map NatV) o w':=by
 have HH:=Hd h;have HN:Hid (∀y,Below w.heap.size w y→∀k:Nat,k≤5000→Calls Tryz.prog 155 #[s.v,.int .i64 k] y fun e w'=>e=.returned (.int .i64 (nextI s.n S k))∧w'=y):=Hd (fun y hy k hk=>next_any (h.later hy) hk);have hsm:=h.small;unfold SetH.v at *;clear h;have HN0:=Hd (HN.out w (Below.refl _ w) 0 (by omega));go_enter Tryz.func159,Tryz.ntmps159
 go_wp2_with (go_at_call 155;refine HN0.out.mono ?_;rintro e w' ⟨rfl,rfl⟩)
 rename World=>w
 go_loopw [3,4] (fun o i wr=>∃k:Nat,k≤s.n∧i=.int .i64 (nextI s.n S k)∧OutAt 3 w ((bitsL k S).map NatV) o wr) (fun _ i _=>if intOf i<0 then 0 else 5000-(intOf i).toNat)
 case atStart=>exact⟨0,zeL _,rfl,OutAt.nil _ _⟩
 case round=>
  obtain⟨k,hk,rfl,A,oc,rfl,ho,hb⟩:=hrel;rcases nextI_cases (n:=s.n) (S:=S) _ k rfl with⟨m,h1,h2,h3,h4,h5⟩|⟨h1,h2⟩
  ·have HU:=Hd (bits_upto h2 h4 h5)
   have HNX:Hid (∀y,Below w.heap.size w y→Calls Tryz.prog 155 #[.pointer (some ⟨s.h,0,none⟩),.int .i64 ((m:Int)+1)] y fun e w'=>e=.returned (.int .i64 (nextI s.n S (m+1)))∧w'=y):=Hd (fun y hy=>HN.out y hy (m+1) (by omega));have HS:=Hd (one_src 3 (.int .i64 m) rfl);have hl:=bitsL_len k S;have hge:nextI s.n S (m+1)<0∨(m:Int)+1≤nextI s.n S (m+1):=by rcases nextI_cases (n:=s.n) (S:=S) _ (m+1) rfl with⟨m2,g1,g2,-⟩|⟨g1,-⟩<;>rw[g1]<;>omega
   have HO:=Hd ho;have HB:=Hd hb;rw[h1];clear h2 h4 h5 ho hb h1;generalize hxs:(bitsL k S).map NatV=xs at *;have hxl:xs.length≤5000:=by rw[←hxs,lM];omega
   have HXS:=Hd hxs;clear hxs hl;go_wp2_with (first
    | (
      at_builtin;refine wpList_app ElInt (.tmp 13) (.tmp 15) rfl rfl (base:=w.heap.size) (n:=xs.length) (m:=1) (N:=xs.length+1) (xs:=xs) (news:=[.int .i64 m]) rfl rfl (HO.out.alloc _) (HS.out _) rfl (by unfold maxLen;omega) (by omega) (by have:=HB.out.size;simp;omega) ?_
      intro A2 c2 w2 r1 r2 r3;have HF:=Hd (out_app (HB.out.trans ((below_alloc _ _).mono HB.out.size)) rfl r1 r2);clear r1 r2 r3)
    | (go_at_call 155;refine(HNX.out _ HF.out.choose_spec.choose_spec.2.2).mono ?_;rintro e w' ⟨rfl,rfl⟩))
   go_roundw
   case rel=>exact⟨m+1,by omega,rfl,by rw[HU.out,mpA,HXS.out];exact HF.out⟩
   case measure=>
    rw[show intOf (.int .i64 (m:Int))=(m:Int) from rfl,show intOf (.int .i64 (nextI s.n S (m+1)))=nextI s.n S (m+1) from rfl];rw[if_neg (by omega:¬(m:Int)<0)];rcases hge with h|h
    ·rw[if_pos h];omega
    ·rw[if_neg (by omega)];omega
  ·have HE:=Hd (bits_end hk h2)
   have HO:Hid (OutAt 3 w ((bitsL k S).map NatV) (.slice A ((bitsL k S).map NatV).length oc) wr):=Hd ⟨A,oc,rfl,ho,hb⟩;rw[h1];clear h2 ho hb h1;go_wp2_with fail
   go_ret;exact⟨_,rfl,by rw[HE.out];exact HO.out⟩
theorem twin_any{w:World}{s:SetH}{S:Nat}(h:SetAt w s S):Calls Tryz.prog 156 #[s.v] w fun e w'=>∃t:SetH,e=.returned t.v∧t.n=s.n∧w.heap.size≤t.h∧w.heap.size≤t.wb∧SetAt w' t S∧Below w.heap.size w w':=by
 obtain⟨c0,c1⟩:=h.cells;have hsm:=h.small;have hmk:=fun y=>make_of (P:=Tryz.prog) (t:=159) (e:=156) (z:=.int .u64 0) (bytes:=8) Tryz.underlying159 (by kernel_rfl) rfl (l:=((nW s.n:Nat):Int)) (n:=nW s.n) rfl (by unfold nW;omega) (by unfold nW;omega) y
 have HSRC:=Hd (fun y (hy:Below w.heap.size w y)=>(h.later hy).src);have hlt:=h.head.lt;have hlen:(wordsA s.n S).toList.length=nW s.n:=by unfold wordsA;simp
 have hfit:=h.fit;have hm:nW s.n=nW s.n:=rfl;generalize hcs:(wordsA s.n S).toList=cs at *;generalize hmm:nW s.n=m at *;have HD0:Hid (Blk (w.alloc (.cells (Array.replicate m (.int .u64 0)) 156)) w.heap.size 156 (List.replicate m (.int .u64 0)).toArray):=Hd (by simpa using Blk.new w 156 (Array.replicate m (.int .u64 0)));have d1:(w.alloc (.cells (Array.replicate m (.int .u64 0)) 156)).cell? ⟨s.h,1,none⟩=some (.slice (some ⟨s.wb,0,none⟩) m m):=((below_alloc w _).cell (p:=⟨s.h,1,none⟩) hlt).trans c1;have HB1:=Hd (below_alloc w (.cells (Array.replicate m (.int .u64 0)) 156));have HSR:=Hd (HSRC.out _ HB1.out)
 have HM0:=Hd hmk;unfold SetH.v;clear hmk h hm;have hmk1:=HM0.out w;generalize hW:w.alloc (.cells (Array.replicate m (.int .u64 0)) 156)=W at *;have hWs:W.heap.size=w.heap.size+1:=by rw[←hW];simp
 have HWQ:=Hd hW;clear hW;have hsrc:∀j v,cs[j]?=some v→W.cell? ((⟨s.wb,0,none⟩:Addr).add j)=some v:=by
  rcases HSR.out.2 with⟨h0,-⟩|⟨ad,c,h0,-,h2⟩
  ·cases h0
  ·cases h0;exact h2
 have hcp:=run_copy_row (P:=Tryz.prog) W 159 159 3 156 w.heap.size 0 m m ⟨s.wb,0,none⟩ m m _ 156 cs Tryz.underlying159 (by kernel_rfl) HD0.out (by rw[hlen];exact(Nat.min_self m).symm) hsrc (by simp[hlen]) HSR.out.1;have hrow:=setRow_heap W w.heap.size _ (List.take 0 (List.replicate m (Value.int .u64 0)).toArray.toList++cs++List.drop (0+cs.length) (List.replicate m (Value.int .u64 0)).toArray.toList).toArray 156 (0,0) HD0.out;have hbl:=below_setRow HB1.out (leR _) (List.take 0 (List.replicate m (Value.int .u64 0)).toArray.toList++cs++List.drop (0+cs.length) (List.replicate m (Value.int .u64 0)).toArray.toList).toArray
 have hsz:(W.setRow w.heap.size (List.take 0 (List.replicate m (Value.int .u64 0)).toArray.toList++cs++List.drop (0+cs.length) (List.replicate m (Value.int .u64 0)).toArray.toList).toArray).heap.size=W.heap.size:=by simp[World.setRow]
 rw[hlen]at hcp;have hcs2:(List.take 0 (List.replicate m (Value.int .u64 0)).toArray.toList++cs++List.drop (0+cs.length) (List.replicate m (Value.int .u64 0)).toArray.toList).toArray=cs.toArray:=by simp[hlen]
 rw[hcs2]at hrow hbl hsz;rw[show (List.take 0 (List.replicate m (Value.int .u64 0)).toArray.toList++cs++List.drop (0+m) (List.replicate m (Value.int .u64 0)).toArray.toList).toArray=cs.toArray by simp]at hcp;generalize W.setRow w.heap.size cs.toArray=W2 at *;have e0:=(hbl.cell (p:=⟨s.h,0,none⟩) hlt).trans c0;have HRW:=Hd hrow;have HBL:=Hd hbl;rw[hWs]at hsz;clear hrow hbl hcs2 hsrc;generalize hgb:w.heap.size=gb at *;have HGB:=Hd hgb;clear hgb;go_enter Tryz.func156,Tryz.ntmps156
 go_wp2_with fail
 go_ret;refine⟨⟨gb+1,gb,s.n⟩,?_,rfl,by show gb≤gb+1;omega,leR _,⟨?_,?_,hsm,hfit⟩,?_⟩
 ·rfl
 ·show Blk _ (gb+1) _ #[.int .i64 s.n,.slice (some ⟨gb,0,none⟩) (nW s.n) (nW s.n)]
  rw[hmm];exact Blk.newAt hsz
 ·show Blk _ gb _ (wordsA s.n S)
  rw[show wordsA s.n S=cs.toArray by rw[←hcs]];exact Blk.alloc (t:=156) HRW.out _
 ·exact HBL.out.alloc (by omega) _
end Go.Proofs.YthaacmablcpdfaaGreatDoor
