/- Sets of numbers. What a call may turn. Sets of numbers. Sets of numbers. Sets of numbers. Sets of numbers. -/
import Derived.Test.YthaacmablcpdfaaGreatDoorZaa
import Derived.Test.YthaacmablcpdfaaGreatDoorProg
import Derived.Deep.RegionLaw
import Derived.Laws.BitsAllLaws
import Derived.Test.YthaacmablcpdfaaGreatDoorZac
import Derived.Deep.DeepCutAuto
import Derived.Test.YthaacmablcpdfaaGreatDoorNm
namespace Go.Proofs.YthaacmablcpdfaaGreatDoor
open Go.RowKit
set_option linter.unusedVariables false
def wordK(S k:Nat):Nat:=S/2 ^ (64*k)%18446744073709551616
def nW(n:Nat):Nat:=(n+63)/64
theorem wordK_lt(S k:Nat):wordK S k<18446744073709551616:=Nat.mod_lt _ (by decide)
theorem wordK_bit(S k j:Nat):(wordK S k).testBit j=(decide (j<64)&&S.testBit (64*k+j)):=by unfold wordK;rw[show (18446744073709551616:Nat)=2 ^ 64 from rfl,Nat.testBit_mod_two_pow,Nat.testBit_div_two_pow,Nat.add_comm]
theorem wordK_or(S T k:Nat):wordK (S|||T) k=wordK S k|||wordK T k:=by apply Nat.eq_of_testBit_eq;intro j;rw[Nat.testBit_or,wordK_bit,wordK_bit,wordK_bit,Nat.testBit_or];cases decide (j<64)<;>simp
theorem testBit_high{S n i:Nat}(h:S<2 ^ n)(hi:n≤i):S.testBit i=false:=Nat.testBit_lt_two_pow (ltL h (Nat.pow_le_pow_right (by decide) hi))
theorem or_fit{S T n:Nat}(hS:S<2 ^ n)(hT:T<2 ^ n):S|||T<2 ^ n:=Nat.or_lt_two_pow hS hT
theorem bit_fit{n i:Nat}(hi:i<n):2 ^ i<2 ^ n:=Nat.pow_lt_pow_right (by decide) hi
theorem wordK_pow(i k:Nat):wordK (2 ^ i) k=if k=i/64 then 2 ^ (i%64) else 0:=by
 apply Nat.eq_of_testBit_eq;intro j;rw[wordK_bit,Nat.testBit_two_pow];split
 ·rename_i hk
  rw[Nat.testBit_two_pow];by_cases hj:j<64
  ·rw[decide_eq_true hj,Bool.true_and,decide_eq_decide]
   omega
  ·rw[decide_eq_false hj,Bool.false_and]
   symm;rw[decide_eq_false_iff_not];omega
 ·rw[Nat.zero_testBit]
  by_cases hj:j<64
  ·rw[decide_eq_true hj,Bool.true_and,decide_eq_false_iff_not]
   omega
  ·rw[decide_eq_false hj,Bool.false_and]
theorem and_pow(x j:Nat):x &&& 2 ^ j=if x.testBit j then 2 ^ j else 0:=by
 apply Nat.eq_of_testBit_eq;intro i;rw[Nat.testBit_and,Nat.testBit_two_pow];by_cases hij:j=i
 ·subst hij
  cases h:x.testBit j<;>simp[Nat.testBit_two_pow_self]
 ·rw[decide_eq_false hij,Bool.and_false]
  split
  ·rw[Nat.testBit_two_pow_of_ne hij]
  ·rw[Nat.zero_testBit]
theorem word_has(S i:Nat):wordK S (i/64) &&& 2 ^ (i%64)=if S.testBit i then 2 ^ (i%64) else 0:=by rw[and_pow,wordK_bit,decide_eq_true (by omega:i%64<64),Bool.true_and,show 64*(i/64)+i%64=i by omega]
theorem word_put(S i:Nat):wordK (S|||2 ^ i) (i/64)=wordK S (i/64)|||2 ^ (i%64):=by rw[wordK_or,wordK_pow,if_pos rfl]
theorem word_put_far(S i k:Nat)(h:k≠i/64):wordK (S|||2 ^ i) k=wordK S k:=by rw[wordK_or,wordK_pow,if_neg h,Nat.or_zero]
theorem word_mask{S n:Nat}(h:S<2 ^ n)(h1:n%64≠0):wordK S (nW n-1) &&& (2 ^ (n%64)-1)=wordK S (nW n-1):=by
 apply Nat.eq_of_testBit_eq;intro j;rw[Nat.testBit_and,Nat.testBit_two_pow_sub_one,wordK_bit];by_cases hj:j<n%64
 ·rw[decide_eq_true hj,Bool.and_true]
 ·rw[testBit_high h (by unfold nW;omega)]
  simp
theorem word_rest(S i j:Nat):(wordK S (i/64)/2 ^ (i%64)).testBit j=(decide (j+i%64<64)&&S.testBit (i+j)):=by rw[Nat.testBit_div_two_pow,wordK_bit,show 64*(i/64)+(j+i%64)=i+j by omega]
def bitsL(n S:Nat):List Nat:=(List.range n).filter fun i=>S.testBit i
def nextS(n S i:Nat):Option Nat:=((List.range n).filter fun j=>decide (i≤j)&&S.testBit j).head?
theorem nextS_some{n S i k:Nat}(hk:k<n)(hb:S.testBit k=true)(hi:i≤k)(h:∀j,i≤j→j<k→S.testBit j=false):nextS n S i=some k:=by
 unfold nextS;rw[show n=k+(n-k) by omega,List.range_add,List.filter_append,List.filter_eq_nil_iff.2,List.nil_append]
 ·rw[show n-k=(n-k-1)+1 by omega,List.range_succ_eq_map,List.map_cons,List.filter_cons,if_pos (by simp[hb,hi])]
  rfl
 ·intro j hj
  rw[List.mem_range]at hj;by_cases hij:i≤j
  ·simp[h j hij hj]
  ·simp[hij]
theorem nextS_none{n S i:Nat}(h:∀j,i≤j→j<n→S.testBit j=false):nextS n S i=none:=by
 unfold nextS;rw[List.filter_eq_nil_iff.2]
 ·rfl
 ·intro j hj
  rw[List.mem_range]at hj;by_cases hij:i≤j
  ·simp[h j hij hj]
  ·simp[hij]
structure Chg(X:Nat→Prop)(w w':World):Prop where
 os:w'.os=w.os
 tape:w'.tape=w.tape
 output:w'.output=w.output
 size:w.heap.size≤w'.heap.size
 block:∀k,k<w.heap.size→¬X k→w'.heap[k]?=w.heap[k]?
namespace Chg
variable {X Y:Nat→Prop} {a b c:World}
theorem refl(X:Nat→Prop)(w:World):Chg X w w:=⟨rfl,rfl,rfl,leR _,fun _ _ _=>rfl⟩
theorem of_below(h:Below a.heap.size a b):Chg X a b:=⟨h.os,h.tape,h.output,h.size,fun k hk _=>h.block k hk⟩
theorem trans(h:Chg X a b)(k:Chg Y b c)(hY:∀i,i<a.heap.size→Y i→X i):Chg X a c:=
 ⟨k.os.trans h.os,k.tape.trans h.tape,k.output.trans h.output,leT h.size k.size,fun i hi hx=>(k.block i (ltL hi h.size) (fun hy=>hx (hY i hi hy))).trans (h.block i hi hx)⟩
theorem next(h:Chg X a b)(k:Chg X b c):Chg X a c:=h.trans k fun _ _ h=>h
theorem mono(h:Chg X a b)(hX:∀i,X i→Y i):Chg Y a b:=⟨h.os,h.tape,h.output,h.size,fun i hi hy=>h.block i hi (fun hx=>hy (hX i hx))⟩
theorem alloc(h:Chg X a b)(o:Obj):Chg X a (b.alloc o):=h.next (of_below ⟨rfl,rfl,rfl,by simp,fun k hk=>Below.heap_alloc _ _ _ hk⟩)
theorem drew(h:Chg X a b):Chg X a b.drew:=⟨h.os,h.tape,h.output,h.size,h.block⟩
theorem set(h:Chg X a b){p:Addr}(hp:a.heap.size≤p.block∨X p.block)(u:Value):Chg X a (b.setCell p u):=
 ⟨h.os,h.tape,h.output,by simpa [World.setCell] using h.size,fun k hk hx=>(Below.heap_setCell _ _ _ _ (by rintro rfl;rcases hp with hp|hp;omega;exact hx hp)).trans (h.block k hk hx)⟩
theorem blk{g:Nat}{t:TypeId}{cs:Array Value}(h:Chg X a b)(hb:Blk a g t cs)(hx:¬X g):Blk b g t cs:=(h.block g hb.lt hx).trans hb
theorem own{base:Nat}{e:TypeId}{size n:Nat}{v:Value}{xs:List Value}(h:Chg X a b)(ho:a.ownsRow base e size v n xs)(hx:∀g,v.ownBlock=some g→¬X g):b.ownsRow base e size v n xs:=by
 refine⟨ho.1,?_⟩;rcases ho.2 with hn|⟨g,cap,cur,rfl,hb,hgg,rest⟩
 ·exact .inl hn
 ·refine .inr ⟨g,cap,cur,rfl,hb,?_,rest⟩
  rw[h.block g (aG.1 hgg).1 (hx g rfl),hgg]
theorem below(h:Chg X a b){B:Nat}(hB:B≤a.heap.size)(hX:∀k,k<B→¬X k):Below B a b:=⟨h.os,h.tape,h.output,h.size,fun k hk=>h.block k (by omega) (hX k hk)⟩
end Chg
structure SetH where
 h:Nat
 wb:Nat
 n:Nat
def wordsA(n S:Nat):Array Value:=((List.range (nW n)).map fun k=>Value.int .u64 (wordK S k:Nat)).toArray
structure SetAt(w:World)(s:SetH)(S:Nat):Prop where
 head:Blk w s.h 161 #[.int .i64 s.n,.slice (some ⟨s.wb,0,none⟩) (nW s.n) (nW s.n)]
 words:Blk w s.wb 156 (wordsA s.n S)
 small:1≤s.n∧s.n≤4096
 fit:S<2 ^ s.n
def SetH.v(s:SetH):Value:=.pointer (some ⟨s.h,0,none⟩)
theorem wordsA_get(n S k:Nat)(h:k<nW n):(wordsA n S)[k]?=some (.int .u64 (wordK S k:Nat)):=by unfold wordsA;rw[List.getElem?_toArray,pG,List.getElem?_range h];rfl
theorem Blk.newAt{w:World}{b:Nat}{t:TypeId}{cs:Array Value}(hb:w.heap.size=b):Blk (w.alloc (.cells cs t)) b t cs:=by subst hb;exact Blk.new w t cs
theorem make_of{P:Program}{t e:TypeId}{z:Value}{bytes:Nat}(ht:P.underlying t=some (.slice e))(h:(P.info? e).map (fun i=>(i.zero,i.size,i.bytes))=some (some z,1,bytes))(hz:z.cells=#[z]){l:Int}{n:Nat}(hl:l=n)(hb:bytes*n≤281474976710656)(hn:n≤4611686018427387904)(y:World) :
  (Instr.makeSlice t (.int .i64 l) (.int .i64 l)).run P y=.ok (.slice (some ⟨y.heap.size,0,none⟩) n n) (y.alloc (.cells (Array.replicate n z) e)):=by
 obtain⟨i,hi,hz0,hz1,hz2⟩:=info_parts h;subst hl;have h2:(i.bytes:Int)*(n:Int)≤281474976710656:=by rw[hz2,←Int.natCast_mul];omega
 have hr:=run_make (P:=P) y t e i z ht hi hz0 .i64 .i64 n n (by omega) (Int.le_refl _) h2 (by omega);rw[hr,hz1,Int.toNat_natCast,Nat.mul_one,hz];congr 4;unfold madeCells;apply Array.ext
 ·simp
 ·intro j h1 h2
  simp[Nat.mod_one]
theorem words_zero(n:Nat):wordsA n 0=Array.replicate (nW n) (.int .u64 0):=by
 unfold wordsA;apply Array.ext
 ·simp
 ·intro j h1 h2
  simp[wordK]
set_option maxRecDepth 100000 in
theorem new_any{w:World}{n:Nat}(h1:1≤n)(h2:n≤4096):Calls Tryz.prog 84 #[.int .i64 n] w fun e w'=>e=.returned (SetH.v ⟨w.heap.size+1,w.heap.size,n⟩)∧SetAt w' ⟨w.heap.size+1,w.heap.size,n⟩ 0∧Below w.heap.size w w':=by
 have hmk:=fun y=>make_of (P:=Tryz.prog) (t:=159) (e:=156) (z:=.int .u64 0) (bytes:=8) Tryz.underlying159 (by kernel_rfl) rfl (l:=((n:Int)+63)/64) (n:=nW n) (by unfold nW;omega) (by unfold nW;omega) (by unfold nW;omega) y
 rw[←words_zero]at hmk;go_enter Tryz.func84,Tryz.ntmps84
 go_wp2;go_ret;refine⟨rfl,⟨?_,?_,⟨h1,h2⟩,Nat.two_pow_pos _⟩,?_⟩
 ·exact Blk.newAt (by simp)
 ·exact(Blk.new w _ _).alloc _
 ·exact((Below.refl _ w).alloc (leR _) _).alloc (by simp) _
theorem and63(i:Nat)(hi:i<9223372036854775808):bits .and .i64 (i:Int) 63=((i%64:Nat):Int):=by show IntKind.i64.wrap ((BitVec.ofInt 64 (i:Int) &&& BitVec.ofInt 64 ((63:Nat):Int)).toNat:Int)=_;rw[BitVec.toNat_and,ofInt_u64 i (by omega),ofInt_u64 63 (by omega),nat_mask6,IntKind.wrap_i64];omega
theorem shl1(i:Nat):IntKind.u64.wrap (2 ^ min (IntKind.u64.wrap ((i%64:Nat):Int)).toNat 64)=((2 ^ (i%64):Nat):Int):=by
 have h:i%64<64:=by omega
 simp only[IntKind.wrap_u64];rw[show (((i%64:Nat):Int)%18446744073709551616).toNat=i%64 by omega,Nat.min_eq_left (by omega)];have h2:2 ^ (i%64)<2 ^ 64:=Nat.pow_lt_pow_right (by decide) h;have h3:((2:Int) ^ (i%64))=((2 ^ (i%64):Nat):Int):=by norm_cast
 rw[h3];clear h3;generalize 2 ^ (i%64)=p at *;omega
theorem ret_boolB{a b:Bool}(h:a=b):Ending.returned (.bool a)=Ending.returned (.bool b):=by rw[h]
section
variable {w:World} {s:SetH} {S:Nat}
theorem SetAt.later{w':World}(h:SetAt w s S)(hb:Below w.heap.size w w'):SetAt w' s S:=⟨h.head.below hb h.head.lt,h.words.below hb h.words.lt,h.small,h.fit⟩
theorem SetAt.cells(h:SetAt w s S):w.cell? ⟨s.h,0,none⟩=some (.int .i64 s.n)∧w.cell? ⟨s.h,1,none⟩=some (.slice (some ⟨s.wb,0,none⟩) (nW s.n) (nW s.n)):=⟨h.head.cell 0,h.head.cell 1⟩
theorem SetAt.word(h:SetAt w s S){k:Nat}(hk:k<nW s.n):w.cell? ⟨s.wb,k,none⟩=some (.int .u64 (wordK S k:Nat)):=(h.words.cell k).trans (wordsA_get _ _ _ hk)
theorem SetAt.chg{X:Nat→Prop}{w':World}(h:SetAt w s S)(hc:Chg X w w')(h1:¬X s.h)(h2:¬X s.wb):SetAt w' s S:=⟨hc.blk h.head h1,hc.blk h.words h2,h.small,h.fit⟩
theorem SetAt.ne(h:SetAt w s S):s.h≠s.wb:=Blk.ne_ h.head h.words (by decide)
set_option maxRecDepth 100000
theorem room_any(h:SetAt w s S):Calls Tryz.prog 137 #[s.v] w fun e w'=>e=.returned (.int .i64 s.n)∧w'=w:=by
 obtain⟨c0,-⟩:=h.cells;unfold SetH.v;go_enter Tryz.func137,Tryz.ntmps137
 go_wp2;go_ret;exact⟨rfl,rfl⟩
theorem bit_any(h:SetAt w s S){i:Nat}(hi:i<s.n):Calls Tryz.prog 87 #[s.v,.int .i64 i] w fun e w'=>e=.returned (.tuple #[.int .i64 ((i/64:Nat):Int),.int .u64 ((2 ^ (i%64):Nat):Int),.bool true])∧w'=w:=by
 have HR:=Hd (room_any h);unfold SetH.v at *;go_enter Tryz.func87,Tryz.ntmps87
 go_wp2_with (go_at_call 137;refine HR.out.mono ?_;rintro e w' ⟨rfl,rfl⟩)
 rw[and63 i (by have:=h.small;omega),shl1]
 go_ret3
 exact⟨rfl,rfl⟩
theorem has_any(h:SetAt w s S){i:Nat}(hi:i<s.n):Calls Tryz.prog 39 #[s.v,.int .i64 i] w fun e w'=>e=.returned (.bool (S.testBit i))∧w'=w:=by
 have HB:=Hd (bit_any h hi);obtain⟨-,c1⟩:=h.cells;have hk:i/64<nW s.n:=by unfold nW;omega
 have c2:=h.word hk;have hw:=wordK_lt S (i/64);have hp:2 ^ (i%64)<18446744073709551616:=Nat.pow_lt_pow_right (a:=2) (m:=i%64) (n:=64) (by decide) (by omega);have ha:=u64_and_nat _ _ hw hp;rw[word_has]at ha;unfold SetH.v at *;cases hb:S.testBit i with
 | true=>
  rw[hb,if_pos rfl]at ha;have hp1:¬(2 ^ (i%64)=0):=Nat.ne_of_gt (Nat.two_pow_pos _);generalize 2 ^ (i%64)=b at *;generalize wordK S (i/64)=u at *;generalize i/64=k at *;generalize nW s.n=m at *;clear hb hw;go_enter Tryz.func39,Tryz.ntmps39
  go_wp2_with (go_at_call 87;refine HB.out.mono ?_;rintro e w' ⟨rfl,rfl⟩)
  go_ret;exact⟨ret_boolB (by simp[hp1]),rfl⟩
 | false=>
  rw[hb,if_neg (by simp)]at ha;generalize 2 ^ (i%64)=b at *;generalize wordK S (i/64)=u at *;generalize i/64=k at *;generalize nW s.n=m at *;clear hb hw;go_enter Tryz.func39,Tryz.ntmps39
  go_wp2_with (go_at_call 87;refine HB.out.mono ?_;rintro e w' ⟨rfl,rfl⟩)
  go_ret;exact⟨rfl,rfl⟩
theorem SetAt.set(h:SetAt w s S){k:Nat}(hk:k<nW s.n){T:Nat}(hT:T<2 ^ s.n)(h1:∀j,j≠k→wordK T j=wordK S j){u:Int}(hu:u=(wordK T k:Nat)):SetAt (w.setCell ⟨s.wb,k,none⟩ (.int .u64 u)) s T:=by
 subst hu;refine⟨h.head.far h.ne _,?_,h.small,hT⟩;have h2:=h.words.set_ k (.int .u64 (wordK T k:Nat));have e:(wordsA s.n S).setIfInBounds k (.int .u64 (wordK T k:Nat))=wordsA s.n T:=by
  unfold wordsA;apply Array.ext
  ·simp
  ·intro j a1 a2
   rw[Array.getElem_setIfInBounds (by simpa using a2)];simp only[List.getElem_toArray,List.getElem_map,List.getElem_range];split
   ·rename_i hj
    subst hj;rfl
   ·rename_i hj
    rw[h1 j (fun e=>hj e.symm)]
 rw[←e];exact h2
def SetH.X(s:SetH)(k:Nat):Prop:=k=s.wb
theorem put_any(h:SetAt w s S){i:Nat}(hi:i<s.n):Calls Tryz.prog 86 #[s.v,.int .i64 i] w fun e w'=>e=.returned (.bool (!S.testBit i))∧SetAt w' s (S|||2 ^ i)∧Chg s.X w w':=by
 have HB:=Hd (bit_any h hi);have HH:=Hd h;obtain⟨-,c1⟩:=h.cells;have hk:i/64<nW s.n:=by unfold nW;omega
 have c2:=h.word hk;have hw:=wordK_lt S (i/64);have hp:2 ^ (i%64)<18446744073709551616:=Nat.pow_lt_pow_right (a:=2) (m:=i%64) (n:=64) (by decide) (by omega);have ha:=u64_and_nat _ _ hw hp;have ho:=u64_or_nat _ _ hw hp;rw[word_has]at ha;rw[←word_put]at ho;have hf0:=h.words.frozen (i/64);cases hb:S.testBit i with
 | true=>
  have hS:S|||2 ^ i=S:=by
   apply Nat.eq_of_testBit_eq;intro j;rw[Nat.testBit_or,Nat.testBit_two_pow];by_cases hij:i=j
   ·subst hij;rw[hb];rfl
   ·rw[decide_eq_false hij,Bool.or_false]
  rw[hb,if_pos rfl]at ha;have hp1:¬(2 ^ (i%64)=0):=Nat.ne_of_gt (Nat.two_pow_pos _);have hp2:(((2 ^ (i%64):Nat):Int) != 0)=true:=by rw[bne_iff_ne];omega
  rw[hS]at *;clear ho hS;unfold SetH.v at *;generalize 2 ^ (i%64)=b at *;generalize wordK S (i/64)=u at *;generalize i/64=k at *;generalize nW s.n=m at *;clear hb hw h hf0;go_enter Tryz.func86,Tryz.ntmps86
  go_wp2_with (go_at_call 87;refine HB.out.mono ?_;rintro e w' ⟨rfl,rfl⟩)
  go_ret;exact⟨rfl,HH.out,Chg.refl _ _⟩
 | false=>
  have HS:Hid (SetAt (w.setCell ⟨s.wb,i/64,none⟩ (.int .u64 (wordK (S|||2 ^ i) (i/64):Nat))) s (S|||2 ^ i)):=Hd (h.set hk (or_fit h.fit (bit_fit hi)) (fun j hj=>word_put_far S i j hj) rfl);rw[hb,if_neg (by simp)]at ha;unfold SetH.v at *;generalize 2 ^ (i%64)=b at *;generalize wordK S (i/64)=u at *;generalize wordK (S|||2 ^ i) (i/64)=u2 at *;generalize i/64=k at *;generalize nW s.n=m at *;clear hb hw h;go_enter Tryz.func86,Tryz.ntmps86
  go_wp2_with (go_at_call 87;refine HB.out.mono ?_;rintro e w' ⟨rfl,rfl⟩)
  go_ret;exact⟨rfl,HS.out,(Chg.refl s.X _).set (p:=⟨s.wb,k,none⟩) (.inr rfl) _⟩
end
end Go.Proofs.YthaacmablcpdfaaGreatDoor
namespace Go.Proofs.YthaacmablcpdfaaGreatDoor
open Go.RowKit
set_option linter.unusedVariables false
set_option maxRecDepth 100000
theorem ElU:El Tryz.prog 159 156 1 8:=El.of (z:=.int .u64 0) Tryz.underlying159 (by kernel_rfl) rfl (by decide)
theorem below_alloc1(w:World)(o:Obj):Below w.heap.size w (w.alloc o):=(Below.refl _ w).alloc (leR _) o
theorem cloneU_any{w:World}{ad:Addr}{n c:Nat}{xs:List Value}(hs:∀y,Below w.heap.size w y→SrcOK y (.slice (some ad) n c) n 1 xs)(hn:n≤1048576) :
  Calls Tryz.prog 217 #[.slice (some ad) n c] w fun e w'=>∃A c',e=.returned (.slice A n c')∧w'.ownsRow w.heap.size 156 1 (.slice A n c') n xs∧Below w.heap.size w w':=by
 have HS:=Hd hs;have hm:Hid (∀y:World,y=w.alloc (.cells #[] 156)→y.ownsRow w.heap.size 156 1 (.slice (some ⟨w.heap.size,0,none⟩) 0 0) 0 []):=Hd (fun y hy=>by rw[hy];exact own_made (W:=w) rfl (leR _) (by decide) rfl);have hnil:∀(y:World) (ad:Addr) (n c:Nat),(binOp BinOp.eql 159 (.slice (some ad) n c) (.slice none 0 0)).run Tryz.prog y=.ok (.bool false) y:=fun _ _ _ _=>by kernel_rfl
 clear hs;go_enter Tryz.func217,Tryz.ntmps217
 go_wp2_with (
   at_builtin;refine wpList_app ElU (.tmp 5) (.tmp 6) rfl rfl (base:=w.heap.size) (n:=0) (m:=n) (N:=n) (xs:=[]) (news:=xs) rfl rfl (hm.out _ rfl) (HS.out _ (below_alloc1 w _)) (by omega) (by unfold maxLen;omega) (by omega) (by simp) ?_
   intro A2 c2 w2 r1 r2 r3;have HF:Hid (w2.ownsRow w.heap.size 156 1 (.slice A2 n c2) n xs∧Below w.heap.size w w2):=Hd ⟨by simpa using r1,(below_alloc1 w _).trans (r2.below (by simp))⟩;clear r1 r2 r3)
 go_ret;exact⟨_,_,rfl,HF.out.1,HF.out.2⟩
theorem set_same{α:Type}{l:List α}{k:Nat}{v:α}(h:l[k]?=some v):l.set k v=l:=by obtain⟨hk,rfl⟩:=sG.1 h;exact List.set_getElem_self hk
section
variable {w:World} {s:SetH} {S:Nat}
theorem SetAt.src(h:SetAt w s S):SrcOK w (.slice (some ⟨s.wb,0,none⟩) (nW s.n) (nW s.n)) (nW s.n) 1 (wordsA s.n S).toList:=by
 refine SrcOK.blk (g:=s.wb) (t:=156) (by simpa using h.words) ?_ ?_
 ·unfold wordsA;simp
 ·intro u hu
  unfold wordsA at hu;simp only[List.mem_map]at hu;obtain⟨k,_,rfl⟩:=hu;rfl
theorem words_any(h:SetAt w s S):Calls Tryz.prog 201 #[s.v,.int .i64 s.n] w fun e w'=>∃A c,e=.returned (.slice A (nW s.n) c)∧w'.ownsRow w.heap.size 156 1 (.slice A (nW s.n) c) (nW s.n) (wordsA s.n S).toList∧Below w.heap.size w w':=by
 have HC:=Hd (cloneU_any (n:=nW s.n) (c:=nW s.n) (ad:=⟨s.wb,0,none⟩) (fun y hy=>(h.later hy).src) (by have:=h.small;unfold nW;omega));obtain⟨c0,c1⟩:=h.cells;have hsm:=h.small;have hm:((s.n:Int)+63)/64=(nW s.n:Nat):=by unfold nW;omega
 have hpos:1≤nW s.n:=by unfold nW;omega
 have h63:=and63 s.n (by omega);have hWM:s.n%64≠0→wordK S (nW s.n-1) &&& (2 ^ (s.n%64)-1)=wordK S (nW s.n-1):=word_mask h.fit;have hlen:(wordsA s.n S).toList.length=nW s.n:=by unfold wordsA;simp
 have hlast:(wordsA s.n S).toList[nW s.n-1]?=some (.int .u64 (wordK S (nW s.n-1):Nat)):=by have:=wordsA_get s.n S (nW s.n-1) (by omega);simpa using this
 have hu:=wordK_lt S (nW s.n-1);have hsh:=shl1 s.n;have hp:2 ^ (s.n%64)<18446744073709551616:=Nat.pow_lt_pow_right (a:=2) (m:=s.n%64) (n:=64) (by decide) (by omega);have hp0:0<2 ^ (s.n%64):=Nat.two_pow_pos _;have hand:=u64_and_nat (wordK S (nW s.n-1)) (2 ^ (s.n%64)-1) hu (by omega);have hfr:w.frozen? ⟨s.h,0,none⟩=false:=h.head.frozen 0;unfold SetH.v;generalize (wordsA s.n S).toList=xs at *;generalize hmm:nW s.n=m at *;generalize s.n%64=r at *;generalize 2 ^ r=p at *;generalize wordK S (m-1)=u at *;clear h;by_cases hr:r=0
 ·subst hr
  go_enter Tryz.func201,Tryz.ntmps201
  go_wp2_with (go_at_call 217;refine HC.out.mono ?_;rintro e w' ⟨A,c,rfl,hrow,hb⟩;have HR:=Hd hrow;have HB:=Hd hb;clear hrow hb)
  go_ret;exact⟨_,_,rfl,HR.out,HB.out⟩
 ·rw[hWM hr]at hand
  have h1:(0:Int)<(m:Int):=by omega
  have hpp:IntKind.u64.wrap ((p:Int)-1)=((p-1:Nat):Int):=by rw[IntKind.wrap_u64];omega
  have hr0:((r:Int) != 0)=true:=by rw[bne_iff_ne];omega
  have hpos':0<m:=hpos;clear h1;go_enter Tryz.func201,Tryz.ntmps201
  go_wp2_with (
    go_at_call 217;refine HC.out.mono ?_;rintro e w' ⟨A,c,rfl,hrow,hb⟩
    have HR:=Hd hrow;have HB:=Hd hb;rcases own_form hrow with⟨_,h0⟩|⟨g,c',he,hg1,hg2,hg3,hg4,-⟩
    ·omega
    cases he
    have hc1:=(own_cell hrow (m-1) (by omega)).trans hlast;have hfz:=own_frozen hrow (m-1);clear hrow hb)
  go_ret;refine⟨_,_,rfl,?_,HB.out.trans ?_⟩
  ·have h:=own_set HR.out (m-1) (by omega) (.int .u64 u)
   rwa [set_same hlast]at h
  ·exact⟨rfl,rfl,rfl,by simp[World.setCell],fun k hk=>Below.heap_setCell _ _ _ _ (by show k≠g;omega)⟩
theorem words_nil(w:World)(n:Int):Calls Tryz.prog 201 #[.pointer none,.int .i64 n] w fun e w'=>e=.returned (.slice none 0 0)∧w'=w:=by
 go_enter Tryz.func201,Tryz.ntmps201
 go_wp2;go_ret;exact⟨rfl,rfl⟩
def mixK(S T j:Nat):Nat:=S|||(T%2 ^ (64*j))
theorem wordK_mod(T j k:Nat):wordK (T%2 ^ (64*j)) k=if k<j then wordK T k else 0:=by
 apply Nat.eq_of_testBit_eq;intro i;rw[wordK_bit,Nat.testBit_mod_two_pow];split
 ·rename_i h
  rw[wordK_bit];by_cases hi:i<64
  ·rw[decide_eq_true (by omega:64*k+i<64*j),Bool.true_and]
  ·rw[decide_eq_false hi,Bool.false_and,Bool.false_and]
 ·rename_i h
  rw[decide_eq_false (by omega:¬64*k+i<64*j),Bool.false_and,Bool.and_false,Nat.zero_testBit]
theorem wordK_mix(S T j k:Nat):wordK (mixK S T j) k=if k<j then wordK S k|||wordK T k else wordK S k:=by
 unfold mixK;rw[wordK_or,wordK_mod];split
 ·rfl
 ·rw[Nat.or_zero]
theorem mix_fit{S T n:Nat}(hS:S<2 ^ n)(hT:T<2 ^ n)(j:Nat):mixK S T j<2 ^ n:=or_fit hS (Nat.lt_of_le_of_lt (Nat.mod_le _ _) hT)
theorem mix_zero(S T:Nat):mixK S T 0=S:=by unfold mixK;simp[Nat.mod_one]
theorem mix_all{S T n:Nat}(hS:S<2 ^ n)(hT:T<2 ^ n):mixK S T (nW n)=S|||T:=by unfold mixK;rw[Nat.mod_eq_of_lt];exact ltL hT (Nat.pow_le_pow_right (by decide) (by unfold nW;omega))
theorem andNot_zero{a b:Nat}(ha:a<18446744073709551616)(hb:b<18446744073709551616):a &&& (18446744073709551615-b)=0↔b|||a=b:=by
 have hbit:∀i,(18446744073709551615-b).testBit i=(decide (i<64)&&!b.testBit i):=by intro i;have:=Nat.testBit_two_pow_sub_succ (n:=64) (x:=b) (by omega) i;rw[show 2 ^ 64-(b+1)=18446744073709551615-b by omega]at this;exact this
 constructor
 ·intro h
  apply Nat.eq_of_testBit_eq;intro i;have hi:=congrArg (fun x=>x.testBit i) h;simp only[Nat.testBit_and,hbit,Nat.zero_testBit]at hi;rw[Nat.testBit_or];by_cases h64:i<64
  ·rw[decide_eq_true h64,Bool.true_and]at hi
   cases hA:a.testBit i
   ·rw[Bool.or_false]
   ·rw[hA,Bool.true_and]at hi
    cases hB:b.testBit i
    ·rw[hB]at hi;cases hi
    ·rfl
  ·rw[testBit_high (n:=64) ha (by omega),Bool.or_false]
 ·intro h
  apply Nat.eq_of_testBit_eq;intro i;have hi:=congrArg (fun x=>x.testBit i) h;simp only[Nat.testBit_or]at hi;rw[Nat.testBit_and,hbit,Nat.zero_testBit];cases hA:a.testBit i
  ·rw[Bool.false_and]
  ·rw[hA,Bool.or_true]at hi
   rw[←hi];simp
theorem mix_step{S T j:Nat}:mixK S T (j+1)=mixK S T j↔wordK S j|||wordK T j=wordK S j:=by
 constructor
 ·intro h
  have:=congrArg (fun x=>wordK x j) h;simp only[wordK_mix]at this;rwa [if_pos (by omega),if_neg (by omega)]at this
 ·intro h
  apply Nat.eq_of_testBit_eq;intro i;have e:∀x:Nat,x.testBit i=(wordK x (i/64)).testBit (i%64):=fun x=>by rw[wordK_bit,decide_eq_true (by omega:i%64<64),Bool.true_and,show 64*(i/64)+i%64=i by omega]
  rw[e,e,wordK_mix,wordK_mix];by_cases hj:i/64=j
  ·rw[hj,if_pos (by omega),if_neg (by omega),h]
  ·by_cases hj2:i/64<j
   ·rw[if_pos (by omega),if_pos hj2]
   ·rw[if_neg (by omega),if_neg hj2]
end
theorem or_any{w:World}{s t:SetH}{S T:Nat}(h:SetAt w s S)(ht:SetAt w t T)(hn:t.n=s.n):Calls Tryz.prog 157 #[s.v,t.v] w fun e w'=>e=.returned (.bool (mixK S T (nW s.n) != S))∧SetAt w' s (mixK S T (nW s.n))∧Chg s.X w w':=by
 have HR:=Hd (room_any h);have HW:=Hd (words_any ht);rw[hn]at HW;have HH:=Hd h;have hTf:=ht.fit;rw[hn]at hTf;have hlt:=h.words.lt;have hsm:=h.small;have hpos:1≤nW s.n:=by unfold nW;omega
 have hmax:nW s.n≤64:=by unfold nW;omega
 have hget:∀k,k<nW s.n→(wordsA s.n T).toList[k]?=some (.int .u64 (wordK T k:Nat)):=fun k hk=>by have:=wordsA_get s.n T k hk;simpa using this
 have hlen:(wordsA s.n T).toList.length=nW s.n:=by unfold wordsA;simp
 generalize (wordsA s.n T).toList=xs at *;have HG:=Hd hget;have HC1:Hid (∀(y:World) (X:Nat),SetAt y s X→y.cell? ⟨s.h,1,none⟩=some (.slice (some ⟨s.wb,0,none⟩) (nW s.n) (nW s.n))∧∀k,k<nW s.n→y.cell? ⟨s.wb,k,none⟩=some (.int .u64 (wordK X k:Nat))∧y.frozen? ⟨s.wb,k,none⟩=false):=Hd (fun y X hy=>⟨hy.cells.2,fun k hk=>⟨hy.word hk,hy.words.frozen k⟩⟩);have HST:Hid (∀(y:World) (X X2 k:Nat),SetAt y s X→k<nW s.n→X2<2 ^ s.n→(∀j,j≠k→wordK X2 j=wordK X j)→∀u:Int,u=(wordK X2 k:Nat)→SetAt (y.setCell ⟨s.wb,k,none⟩ (.int .u64 u)) s X2):=Hd (fun y X X2 k hy hk hX h1 u hu=>hy.set hk hX h1 hu);have HF:Hid (∀j,mixK S T j<2 ^ s.n):=Hd (mix_fit h.fit hTf)
 unfold SetH.v at *;clear h ht hget hTf;generalize hm:nW s.n=m at *;go_enter Tryz.func157,Tryz.ntmps157
 go_wp2_with (first
  | (go_at_call 137;refine HR.out.mono ?_;rintro e w' ⟨rfl,rfl⟩)
  | (
    go_at_call 201;refine HW.out.mono ?_;rintro e w1 ⟨A,c,rfl,hrow,hb⟩
    have HRW:=Hd hrow;have HB:=Hd hb;rcases own_form hrow with⟨_,h0⟩|⟨g,c',he,hg1,hg2,hg3,hg4,-⟩
    · omega
    cases he
    clear hrow hb))
 go_loopw [5,13] (fun ch i wr=>∃k:Nat,k≤m∧i=.int .i64 k∧ch=.bool (mixK S T k != S)∧Hid (SetAt wr s (mixK S T k))∧Hid (Chg s.X w1 wr)) (fun _ i _=>m-(intOf i).toNat)
 case atStart=>exact⟨0,zeL _,rfl,by rw[mix_zero];simp,Hd (by rw[mix_zero];exact HH.out.later HB.out),Hd (Chg.refl _ _)⟩
 case round=>
  obtain⟨k,hk,rfl,rfl,HS,HC⟩:=hrel;by_cases hlt2:k<m
  ·obtain⟨d1,d2⟩:=HC1.out wr _ HS.out
   obtain⟨d3,d4⟩:=d2 k hlt2;have hnext:=mix_step (S:=S) (T:=T) (j:=k);have hbc:wr.cell? ⟨g,k,none⟩=some (.int .u64 (wordK T k:Nat)):=by have hr:=HC.out.own HRW.out (fun b hb=>by cases hb;show ¬g=s.wb;omega);exact(own_cell hr k (by omega)).trans (HG.out k hlt2)
   have hb:=wordK_lt T k;have ha:=wordK_lt S k;have e1:wordK (mixK S T k) k=wordK S k:=by rw[wordK_mix,if_neg (by omega)]
   have e2:wordK (mixK S T (k+1)) k=wordK S k|||wordK T k:=by rw[wordK_mix,if_pos (by omega)]
   rw[e1]at d3;have hand:=u64_andNot_nat _ _ hb ha;have hor:=u64_or_nat _ _ ha hb;have hz:=andNot_zero hb ha;clear d2;by_cases hq:wordK T k &&& (18446744073709551615-wordK S k)=0
   · have hm1:=hnext.2 (hz.1 hq)
     rw[hq]at hand;have HS2:Hid (SetAt wr s (mixK S T (k+1))):=Hd (by rw[hm1];exact HS.out);have hm2:(mixK S T (k+1) != S)=(mixK S T k != S):=by rw[hm1]
     generalize (mixK S T k != S)=ch at *;clear HS hm1 hz hnext hq e1 e2 hor;generalize wordK T k=b at *;generalize wordK S k=a at *;go_wp2_with fail
     go_roundw
     case rel=>exact⟨k+1,by omega,by go_num,by rw[hm2],HS2,HC⟩
     case measure=>simp[intOf];omega
   · have hne:¬mixK S T (k+1)=mixK S T k:=fun e=>hq (hz.2 (hnext.1 e))
     have hm2:(mixK S T (k+1) != S)=true:=by rw[bne_iff_ne];intro e;have e3:=congrArg (fun x=>wordK x k) e;simp only[e2]at e3;exact hne (hnext.2 e3)
     have HS2:Hid (SetAt (wr.setCell ⟨s.wb,k,none⟩ (.int .u64 ((wordK S k|||wordK T k:Nat):Int))) s (mixK S T (k+1))):=Hd (HST.out wr _ _ k HS.out hlt2 (HF.out _) (fun j hj=>by
       rw[wordK_mix,wordK_mix];by_cases hj2:j<k
       ·rw[if_pos (by omega),if_pos hj2]
       ·rw[if_neg (by omega),if_neg hj2]) _ (by rw[e2]))
     have hq1:(((wordK T k &&& (18446744073709551615-wordK S k):Nat):Int) != 0)=true:=by rw[bne_iff_ne];omega
     generalize (mixK S T k != S)=ch at *;clear HS hz hnext hq e1 e2 hne;generalize wordK T k &&& (18446744073709551615-wordK S k)=z at *;generalize wordK S k|||wordK T k=o at *;generalize wordK T k=b at *;generalize wordK S k=a at *;go_wp2_with fail
     go_roundw
     case rel=>exact⟨k+1,by omega,by go_num,by rw[hm2],HS2,Hd (HC.out.set (p:=⟨s.wb,k,none⟩) (.inr rfl) _)⟩
     case measure=>simp[intOf];omega
  ·obtain rfl:k=m:=by omega
   go_wp2_with fail
   go_ret;exact⟨rfl,HS.out,((Chg.of_below HB.out).next HC.out)⟩
theorem or_nil{w:World}{s:SetH}{S:Nat}(h:SetAt w s S):Calls Tryz.prog 157 #[s.v,.pointer none] w fun e w'=>e=.returned (.bool false)∧w'=w:=by
 have HR:=Hd (room_any h);have HW:=Hd (words_nil w s.n);unfold SetH.v at *;clear h;go_enter Tryz.func157,Tryz.ntmps157
 go_wp2_with (first
  | (go_at_call 137;refine HR.out.mono ?_;rintro e w' ⟨rfl,rfl⟩)
  | (go_at_call 201;refine HW.out.mono ?_;rintro e w1 ⟨rfl,rfl⟩))
 go_loopw [5,13] (fun ch i wr=>i=.int .i64 0∧ch=.bool false∧wr=w1) (fun _ i _=>0)
 case atStart=>exact⟨rfl,rfl,rfl⟩
 case round=>
  obtain⟨rfl,rfl,rfl⟩:=hrel;go_wp2_with fail
  go_ret;exact⟨rfl,rfl⟩
def nextI(n S i:Nat):Int:=match nextS n S i with|some k=>(k:Int)|none => -1
theorem nextI_some{n S i k:Nat}(hk:k<n)(hb:S.testBit k=true)(hi:i≤k)(h:∀j,i≤j→j<k→S.testBit j=false):nextI n S i=k:=by unfold nextI;rw[nextS_some hk hb hi h]
theorem nextI_none{n S i:Nat}(h:∀j,i≤j→j<n→S.testBit j=false):nextI n S i = -1:=by unfold nextI;rw[nextS_none h]
theorem or63(i:Nat)(hi:i<9223372036854775000):bits .or .i64 (i:Int) 63=((i/64*64+63:Nat):Int):=by
 show IntKind.i64.wrap ((BitVec.ofInt 64 (i:Int)|||BitVec.ofInt 64 ((63:Nat):Int)).toNat:Int)=_;have e:i|||63=i/64*64+63:=by
  apply Nat.eq_of_testBit_eq;intro j;have e1:=Nat.testBit_two_pow_sub_one 6 j;rw[show 2 ^ 6-1=63 by rfl]at e1;have e2:i/64*64+63=2 ^ 6*(i/64)+63:=by omega
  rw[Nat.testBit_or,e1,e2,Nat.testBit_two_pow_mul_add _ (by decide),e1];by_cases hj:j<6
  ·rw[if_pos hj,decide_eq_true hj,Bool.or_true]
  ·rw[if_neg hj,decide_eq_false hj,Bool.or_false,show (64:Nat)=2 ^ 6 by rfl,Nat.testBit_div_two_pow,show j-6+6=j by omega]
 rw[BitVec.toNat_or,ofInt_u64 i (by omega),ofInt_u64 63 (by omega),e,IntKind.wrap_i64];omega
theorem div_zero_bits{S i:Nat}(h:wordK S (i/64)/2 ^ (i%64)=0):∀j,i≤j→j<i/64*64+64→S.testBit j=false:=by intro j h1 h2;have e:=word_rest S i (j-i);rw[h,Nat.zero_testBit,decide_eq_true (by omega:j-i+i%64<64),Bool.true_and,show i+(j-i)=j by omega]at e;exact e.symm
theorem next_any{w:World}{s:SetH}{S i0:Nat}(h:SetAt w s S)(hi:i0≤5000):Calls Tryz.prog 155 #[s.v,.int .i64 i0] w fun e w'=>e=.returned (.int .i64 (nextI s.n S i0))∧w'=w:=by
 have HR:=Hd (room_any h);have HH:=Hd h;obtain⟨-,c1⟩:=h.cells;have hsm:=h.small;unfold SetH.v at *;clear h;go_enter Tryz.func155,Tryz.ntmps155
 go_wp2_with fail
 go_loopw [5] (fun i wr=>∃k:Nat,k≤9000∧i=.int .i64 k∧wr=w∧Hid (i0≤k∧∀j,i0≤j→j<k→S.testBit j=false)) (fun i _=>9000-(intOf i).toNat)
 case atStart=>exact⟨i0,by omega,rfl,rfl,Hd ⟨leR _,fun j h1 h2=>by omega⟩⟩
 case round=>
  obtain⟨k,hk,rfl,rfl,HA⟩:=hrel;by_cases hlt2:k<s.n
  ·have c2:=HH.out.word (k:=k/64) (by unfold nW;omega)
   have hdiv:((k/64:Nat):Int)=(k:Int)/64:=by omega
   have h63:=and63 k (by omega);have hlt3:k/64<nW s.n:=by unfold nW;omega
   have h64:=or63 k (by omega);have hRq:((wordK S (k/64):Nat):Int)/2 ^ (k%64)=((wordK S (k/64)/2 ^ (k%64):Nat):Int):=by norm_cast
   have hRl:wordK S (k/64)/2 ^ (k%64)<18446744073709551616:=Nat.lt_of_le_of_lt (Nat.div_le_self _ _) (wordK_lt _ _);have hRt:=word_rest S k;have hRz:wordK S (k/64)/2 ^ (k%64)=0→_:=div_zero_bits;have HZ:=Hd hRz;have HT:=Hd hRt;clear hRz hRt;generalize hR0:wordK S (k/64)/2 ^ (k%64)=R at *;by_cases hz:R=0
   ·have HB:Hid (i0≤k/64*64+64∧∀j,i0≤j→j<k/64*64+64→S.testBit j=false):=Hd ⟨by have:=HA.out.1;omega,fun j h1 h2=>by
     by_cases hj:j<k
     ·exact HA.out.2 j h1 hj
     ·exact HZ.out hz j (by omega) h2⟩
    have hz1:((R:Int)==0)=true:=by rw[hz];rfl
    clear hR0 hz HZ HT;go_wp2_with (go_at_call 137;refine HR.out.mono ?_;rintro e w' ⟨rfl,rfl⟩)
    go_roundw
    case rel=>exact⟨k/64*64+64,by omega,by go_num,trivial,HB⟩
    case measure=>simp[intOf];omega
   ·have hz1:((R:Int)==0)=false:=by rw[bN];omega
    have HZ0:=Hd hz;clear hR0 hz HZ;go_wp2_with (go_at_call 137;refine HR.out.mono ?_;rintro e w' ⟨rfl,rfl⟩)
    rename World=>wz
    clear h63 h64 hdiv hlt3 c2 HR;go_loopw [5,6] (fun i r wr=>∃t x:Nat,t≤63∧i=.int .i64 ((k:Int)+t)∧r=.int .u64 x∧wr=wz∧¬(x=0)∧Hid (x=R/2 ^ t∧∀j,j<t→R.testBit j=false)) (fun i _ _=>k+64-(intOf i).toNat)
    case atStart=>exact⟨0,R,by omega,by simp,by rw[hRq],rfl,HZ0.out,Hd ⟨by simp,fun j hj=>absurd hj (Nat.not_lt_zero _)⟩⟩
    case round=>
     obtain⟨t,x,ht,rfl,rfl,rfl,hx0,HX⟩:=hrel;have hx1:x<18446744073709551616:=by rw[HX.out.1];exact Nat.lt_of_le_of_lt (Nat.div_le_self _ _) hRl
     have hand:bits .and .u64 (x:Int) 1=((x%2:Nat):Int):=by rw[←nat_mask1];exact u64_and_nat x 1 hx1 (by decide)
     have hbit:R.testBit t=decide (x%2=1):=by rw[HX.out.1,Nat.testBit_eq_decide_div_mod_eq]
     have HB0:=Hd hbit;clear hbit;by_cases hq:x%2=0
     ·rw[hq,Int.natCast_zero]at hand
      have ht2:t+1≤63:=by
       by_cases hh:t+1≤63
       ·exact hh
       ·exfalso
        have h1:t=63:=by omega
        have h2:x<2:=by rw[HX.out.1,h1];exact Nat.div_lt_of_lt_mul (by omega)
        omega
      have HX2:Hid (x/2=R/2 ^ (t+1)∧∀j,j<t+1→R.testBit j=false):=Hd ⟨by rw[HX.out.1,Nat.div_div_eq_div_mul,Nat.pow_succ],fun j hj=>by
       by_cases he:j=t
       ·rw[he,HB0.out,hq];rfl
       ·exact HX.out.2 j (by omega)⟩
      have hx2:¬x/2=0:=by omega
      clear HX HB0 hx1 hRl;go_wp2_with fail
      go_roundw
      case rel=>exact⟨t+1,x/2,by omega,by go_num,by go_num,trivial,hx2,HX2⟩
      case measure=>simp[intOf];omega
     ·have hq1:x%2=1:=by omega
      rw[hq1,Int.natCast_one]at hand;have HFound:Hid (nextI s.n S i0=((k+t:Nat):Int)):=Hd (by
       have hT:=HT.out t;rw[HB0.out,decide_eq_true hq1]at hT;have hS:S.testBit (k+t)=true:=by
        cases hh:S.testBit (k+t)
        ·rw[hh,Bool.and_false]at hT;cases hT
        ·rfl
       refine nextI_some ?_ hS (by have:=HA.out.1;omega) ?_
       ·by_cases hh:k+t<s.n
        ·exact hh
        ·rw[testBit_high HH.out.fit (by omega)]at hS;cases hS
       ·intro j h1 h2
        by_cases hj:j<k
        ·exact HA.out.2 j h1 hj
        ·have h3:=HT.out (j-k)
         rw[HX.out.2 (j-k) (by omega),decide_eq_true (by
          by_cases hh:j-k+k%64<64
          ·exact hh
          ·exfalso
           have hT2:=HT.out t;rw[HB0.out,decide_eq_true hq1,decide_eq_false (by omega),Bool.false_and]at hT2;cases hT2),Bool.true_and,show k+(j-k)=j by omega]at h3
         exact h3.symm)
      clear HX HB0;go_wp2_with fail
      go_ret;exact⟨by rw[HFound.out];rfl,rfl⟩
  ·have HN:=Hd (nextI_none (n:=s.n) (S:=S) (i:=i0) (fun j h1 h2=>HA.out.2 j h1 (by omega)))
   go_wp2_with (go_at_call 137;refine HR.out.mono ?_;rintro e w' ⟨rfl,rfl⟩)
   go_ret;exact⟨by rw[HN.out];rfl,rfl⟩
end Go.Proofs.YthaacmablcpdfaaGreatDoor
