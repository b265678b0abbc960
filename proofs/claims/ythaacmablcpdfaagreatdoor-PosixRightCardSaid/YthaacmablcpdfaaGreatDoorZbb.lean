/- A set of some terminals. -/
import Derived.Test.YthaacmablcpdfaaGreatDoorZba
import Derived.Test.YthaacmablcpdfaaGreatDoorZax
import Derived.Test.YthaacmablcpdfaaGreatDoorNm
namespace Go.Proofs.YthaacmablcpdfaaGreatDoor
open Go.RowKit
set_option linter.unusedVariables false
set_option maxRecDepth 100000
def setL(l:List Nat):Nat:=l.foldl (fun S x=>S|||2 ^ x) 0
theorem setL_bit(l:List Nat):∀(S j:Nat),(l.foldl (fun S x=>S|||2 ^ x) S).testBit j=(S.testBit j||decide (j∈l)):=by
 induction l with
 | nil=>intro S j;simp
 | cons x l ih=>
  intro S j;rw[List.foldl_cons,ih,Nat.testBit_or,Nat.testBit_two_pow];by_cases h:x=j
  ·subst h;simp
  ·have h2:¬(j=x):=fun e=>h e.symm
   simp[h,h2]
theorem setL_bits{n S:Nat}(hS:S<2 ^ n):setL (bitsL n S)=S:=by
 apply Nat.eq_of_testBit_eq;intro j;unfold setL;rw[setL_bit,Nat.zero_testBit,Bool.false_or];unfold bitsL;by_cases hj:j<n
 ·cases hb:S.testBit j<;>simp[hj,hb]
 ·rw[show S.testBit j=false from bit_high hS (by omega)]
  simp[hj]
theorem bitsL_lt{n S x:Nat}(h:x∈bitsL n S):x<n:=by unfold bitsL at h;exact List.mem_range.1 (List.mem_filter.1 h).1
theorem next_zero{w:World}{s:SetH}{S:Nat}(h:SetAt w s S):∃q:Int,Calls Tryz.prog 155 #[s.v,.int .i64 0] w (fun e w'=>e=.returned (.int .i64 q)∧w'=w)∧(S=0→q<0)∧(S≠0→0≤q):=by
 refine⟨nextI s.n S 0,next_any h (i0:=0) (by omega),fun e=>?_,fun e=>?_⟩
 ·subst e
  rw[nextI_none (fun j _ _=>Nat.zero_testBit j)];decide
 ·rcases nextI_cases (n:=s.n) (S:=S) (s.n-0) 0 rfl with⟨m,hm,_⟩|⟨_,hz⟩
  ·rw[hm];omega
  ·exfalso
   apply e;apply Nat.eq_of_testBit_eq;intro j;rw[Nat.zero_testBit];by_cases hj:j<s.n
   ·exact hz j (zeL _) hj
   ·exact bit_high h.fit (by omega)
theorem lset_any{w:World}{mb nt cT:Nat}{AT:Option Addr}{lv:Value}{l:List Nat}(h0:w.cell? ⟨mb,0,none⟩=some (.slice AT nt cT))(hnt:nt≤120)(hl:Nums w lv l)(hx:∀x∈l,x≤nt) :
  Calls Tryz.prog 152 #[.pointer (some ⟨mb,0,none⟩),lv] w fun e w'=>∃h:SetH,e=.returned h.v∧h.n=nt+1∧w.heap.size≤h.h∧w.heap.size≤h.wb∧SetAt w' h (setL l)∧Below w.heap.size w w':=by
 have HNW:Hid (Calls Tryz.prog 84 #[.int .i64 ((nt:Int)+1)] w fun e w'=>e=.returned (.pointer (some ⟨w.heap.size+1,0,none⟩))∧SetAt w' ⟨w.heap.size+1,w.heap.size,nt+1⟩ 0∧Below w.heap.size w w'):=Hd (new_any (w:=w) (n:=nt+1) (by omega) (by omega));obtain⟨⟨Al,cl,rfl,hc⟩,hs,-⟩:=hl;have HC:=Hd hc;have HX:=Hd hx;clear hc hx;generalize hll:l.length=ll at *;have HLL:=Hd hll;clear hll;go_enter Tryz.func152,Tryz.ntmps152
 go_wp2_with (
    go_at_call 84;refine HNW.out.mono ?_;rintro e w1 ⟨rfl,hs1,hb1⟩
    have HS1:=Hd hs1;have HB1:=Hd hb1;clear hs1 hb1)
 generalize hz:w.heap.size=z at *;have HZ:=Hd hz;clear hz;go_loopw [18] (fun ii wr=>∃k:Nat,k≤ll∧ii=.int .i64 k∧Hid (SetAt wr ⟨z+1,z,nt+1⟩ (setL (l.take k)))∧Hid (Below z w wr)) (fun ii _=>ll-(intOf ii).toNat)
 case atStart=>exact⟨0,zeL _,rfl,Hd (by simpa [setL] using HS1.out),HB1⟩
 case round=>
  obtain⟨k,hk,rfl,HS,HB⟩:=hrel;by_cases hlt:k<ll
  ·obtain⟨x,hxk⟩:∃x,l[k]?=some x:=⟨_,eG (by rw[HLL.out];exact hlt)⟩
   obtain⟨b,off,hA,hb,hcell⟩:=HC.out k x hxk;subst hA;have hcell2:wr.cell? ⟨b,off+k,none⟩=some (.int .i64 x):=(HB.out.cell (p:=⟨b,off+k,none⟩) hb).trans hcell;have hxn:=HX.out x (mG hxk);have HP:=Hd (put_any HS.out (i:=x) (by show x<nt+1;omega));have HT:Hid (setL (l.take k)|||2 ^ x=setL (l.take (k+1))):=Hd (by unfold setL;rw[foldl_take (fun S x=>S|||2 ^ x) l 0 k x hxk]);unfold SetH.v at HP;clear hxk hcell hb;go_wp2_with (
     go_at_call 86;refine HP.out.mono ?_;rintro e w2 ⟨rfl,hs2,hc2⟩
     have HS2:=Hd hs2;have HB2:=Hd (HB.out.trans (hc2.below (by have:=HS.out.words.lt;show z≤wr.heap.size;have:z<wr.heap.size:=this;omega) (fun q hq e=>by have e2:q=z:=e;omega)));clear hs2 hc2)
   go_roundw
   case rel=>exact⟨k+1,by omega,by go_num,Hd (by rw[←HT.out];exact HS2.out),HB2⟩
   case measure=>simp[intOf];omega
  ·obtain rfl:k=ll:=by omega
   have HT:Hid (SetAt wr ⟨z+1,z,nt+1⟩ (setL l)):=Hd (by have h:=HS.out;rw[tkL (by rw[HLL.out];omega)]at h;exact h);go_wp2_with fail
   go_ret;exact⟨⟨z+1,z,nt+1⟩,rfl,rfl,by rw[HZ.out];show z≤z+1;omega,by rw[HZ.out];exact leR _,HT.out,by rw[HZ.out];exact HB.out⟩
end Go.Proofs.YthaacmablcpdfaaGreatDoor
