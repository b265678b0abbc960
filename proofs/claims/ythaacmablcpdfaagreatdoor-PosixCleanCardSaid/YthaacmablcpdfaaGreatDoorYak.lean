/- A map from texts of rows of items to pla. A map from numbers to true. -/
import Derived.Test.YthaacmablcpdfaaGreatDoorYai
import Derived.Test.YthaacmablcpdfaaGreatDoorYaj
import Derived.Test.YthaacmablcpdfaaGreatDoorYn
set_option linter.unusedVariables false
set_option maxRecDepth 100000
set_option maxHeartbeats 16000000
namespace Go.Proofs.YthaacmablcpdfaaGreatDoor
open Go.RowKit
section
open Go.Maps (IsMap)
def I6(D:DataW Unit)(K:List (List UInt8)):Prop:=∀s,(s∈K->Maps.has D (B6 s)=true/\∀z,D.atKey (B6 s) z=.lit (.int .i64 (K.idxOf s:Nat)))/\(s ∉ K->Maps.has D (B6 s)=false/\∀z,D.atKey (B6 s) z=z)
theorem I6.start:I6 (.map []) []:=fun s=>⟨fun h=>(by cases h),fun _=>⟨rfl,fun _=>rfl⟩⟩
theorem I6.next{D:DataW Unit}{K:List (List UInt8)}(h:I6 D K)(t:IsMap D){s:List UInt8}(I:s ∉ K):I6 (D.put (B6 s) (.lit (.int .i64 (K.length:Nat)))) (K++[s]):=by
 intro u;by_cases p:u=s
 ·subst p
  refine⟨fun _=>⟨Maps.has_put_same t (LR u) _,fun z=>?_⟩,fun o=>absurd (List.mem_append_right _ (List.mem_singleton_self u)) o⟩;rw[Maps.atKey_put_same t (LR u),List.idxOf_append,if_neg I];simp
 ·have l:B6 u≠B6 s:=fun e=>p (NL e)
  refine⟨fun C=>?_,fun o=>?_⟩
  ·have i:u∈K:=by
    rcases mA.1 C with j|j
    ·exact j
    ·exact absurd (mS.1 j) p
   refine⟨by rw[Maps.has_put_other l];exact((h u).1 i).1,fun z=>?_⟩;rw[Maps.atKey_put_other l,((h u).1 i).2 z,List.idxOf_append,if_pos i]
  ·have i:u ∉ K:=fun j=>o (List.mem_append_left _ j)
   exact⟨by rw[Maps.has_put_other l];exact((h u).2 i).1,fun z=>by rw[Maps.atKey_put_other l];exact((h u).2 i).2 z⟩
abbrev Hw(w:World)(mb n:Nat)(D:DataW Unit):Prop:=w.ownsMap Tryz.prog 9 (plainElem Tryz.prog 3) mb n D
theorem QX{w:World}{mb n:Nat}{D:DataW Unit}{K:List (List UInt8)}(h:Hw w mb n D)(p:I6 D K){s:List UInt8}(hs:s.length<=300000) :
  (Instr.lookup 137 (.map (some mb)) (.string ⟨s.toArray⟩) true).run Tryz.prog w=.ok (.tuple #[.int .i64 (if s∈K then K.idxOf s else 0:Nat),.bool (decide (s∈K))]) w:=by
 have R:=WideMaps.keyOf_string_mk Tryz.underlying9 (s:=(⟨s.toArray⟩:ByteArray)) (by show s.toArray.size<=_;simp;unfold maxLen;omega);have T:=plainElem_int (H:=Unit) (a:=0) Tryz.underlying3 (WalkArith.wf_i64 (by omega));obtain⟨v,U,t,I⟩:=h.look_ok IB Tryz.underlying137 (Lq w) T R;have C:(Instr.lookup 137 (.map (some mb)) (.string ⟨s.toArray⟩) true).run Tryz.prog w=.ok (.tuple #[v,.bool (Maps.has D (B6 s))]) w:=t;have J:plainElem Tryz.prog 3 v=some (D.atKey (B6 s) (.lit (.int .i64 0)),U):=I;obtain⟨c,rfl,P,-⟩:=plainElem_int_inv Tryz.underlying3 J;have i:D.atKey (B6 s) (.lit (.int .i64 0))=.lit (.int .i64 c):=congrArg Prod.fst P
 rw[C];by_cases j:s∈K
 ·obtain⟨l,o⟩:=(p s).1 j
  rw[o]at i;simp only[DataW.lit.injEq,Lit.int.injEq,true_and]at i;rw[l,<-i,if_pos j,decide_eq_true j]
 ·obtain⟨l,o⟩:=(p s).2 j
  rw[o]at i;simp only[DataW.lit.injEq,Lit.int.injEq,true_and]at i;rw[l,<-i,if_neg j,decide_eq_false j];rfl
theorem VU{w:World}{mb n:Nat}{D:DataW Unit}(h:Hw w mb n D)(l:n<=100000){s:List UInt8}(o:s.length<=300000){c:Nat}(j:c<=100000) :
  ∃w',(Instr.mapUpdate 137 (.map (some mb)) (.string ⟨s.toArray⟩) (.int .i64 (c:Int))).run Tryz.prog w=.ok () w'/\Hw w' mb (n+1) (D.put (B6 s) (.lit (.int .i64 (c:Int))))/\w.grownBy w' (some mb):=by
 have i:=WideMaps.keyOf_string_mk Tryz.underlying9 (s:=(⟨s.toArray⟩:ByteArray)) (by show s.toArray.size<=_;simp;unfold maxLen;omega);exact h.update IB Tryz.underlying137 (by unfold maxLen;omega) i (plainElem_int Tryz.underlying3 (WalkArith.wf_i64 (by omega)))
end
section
open Go.Maps (IsMap Keyed)
theorem LZ:Keyed Tryz.prog 3:=Maps.int_keyed Tryz.underlying3
abbrev IY(w:World)(mb n:Nat)(D:DataW Unit):Prop:=w.ownsMap Tryz.prog 3 (plainElem Tryz.prog 4) mb n D
def Ch(i:Nat):Lit:=.int .i64 i
theorem Nt(i:Nat):WideAt.IsKeyLit (Ch i):=by unfold Ch;simp[WideAt.IsKeyLit]
theorem Pg{i j:Nat}(h:Ch i=Ch j):i=j:=by unfold Ch at h;simp at h;omega
def Hi(D:DataW Unit)(M:List Nat):Prop:=∀i:Nat,D.atKey (Ch i) (.lit (.bool false))=.lit (.bool (decide (i∈M)))
theorem Hi.start:Hi (.map []) []:=fun i=>rfl
theorem Hi.next{D:DataW Unit}{M:List Nat}(h:Hi D M)(o:IsMap D)(i:Nat):Hi (D.put (Ch i) (.lit (.bool true))) (i::M):=by
 intro j;by_cases l:j=i
 ·subst l
  rw[Maps.atKey_put_same o (Nt j)];simp
 ·rw[Maps.atKey_put_other (fun e=>l (Pg e)),h j]
  simp[l]
theorem Zv(w:World):(zeroValue 4).run Tryz.prog w=.ok (.bool false) w:=by kernel_rfl
theorem La{w:World}{mb n:Nat}{D:DataW Unit}{M:List Nat}(h:IY w mb n D)(o:Hi D M){i:Nat}(t:i<=100000):(Instr.lookup 222 (.map (some mb)) (.int .i64 (i:Int)) false).run Tryz.prog w=.ok (.bool (decide (i∈M))) w:=by
 have p:keyOf Tryz.prog 3 (.int .i64 (i:Int))=some (Ch i):=Maps.keyOf_int_mk Tryz.underlying3 (WalkArith.wf_i64 (by omega));obtain⟨v,C,l,j⟩:=h.lookup LZ Tryz.underlying222 (Zv w) (plainElem_bool Tryz.underlying4 false) p;rw[o i]at j;rw[l];unfold plainElem at j;rw[Tryz.underlying4]at j;cases v<;>simp at j
 rw[j.1]
theorem Oi{w:World}{mb n:Nat}{D:DataW Unit}(h:IY w mb n D)(o:n<=1000000){i:Nat}(l:i<=100000) :
  ∃w',(Instr.mapUpdate 222 (.map (some mb)) (.int .i64 (i:Int)) (.bool true)).run Tryz.prog w=.ok () w'/\IY w' mb (n+1) (D.put (Ch i) (.lit (.bool true)))/\w.grownBy w' (some mb):=by
 have j:keyOf Tryz.prog 3 (.int .i64 (i:Int))=some (Ch i):=Maps.keyOf_int_mk Tryz.underlying3 (WalkArith.wf_i64 (by omega));exact h.update LZ Tryz.underlying222 (by unfold maxLen;omega) j (plainElem_bool Tryz.underlying4 true)
end
end Go.Proofs.YthaacmablcpdfaaGreatDoor
