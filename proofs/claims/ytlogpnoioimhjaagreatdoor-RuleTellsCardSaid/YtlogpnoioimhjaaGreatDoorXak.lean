/- A map from texts of rows of items to pla. -/
import Derived.Test.YtlogpnoioimhjaaGreatDoorXai
import Derived.Test.YtlogpnoioimhjaaGreatDoorXaj
set_option linter.all false
set_option maxRecDepth 100000
set_option maxHeartbeats 16000000
namespace Go.Proofs.YtlogpnoioimhjaaGreatDoor
open Go.RowKit Go.Proofs.Tryz
variable{w:World}{i mb n:Nat}{D:DataW Unit}{s:List UInt8}
section
open Go.Maps (IsMap)
def Jh(D:DataW Unit)(K:List (List UInt8)):Prop:=∀s,(s∈K->Maps.has D (Cf s)=true/\∀z,D.atKey (Cf s) z=.lit (.int .i64 (K.idxOf s:Nat)))/\(s ∉ K->Maps.has D (Cf s)=false/\∀z,D.atKey (Cf s) z=z)
def Jh.start:Jh (.map []) []:=fun s=>⟨fun h=>(by cases h),fun _=>⟨rfl,fun _=>rfl⟩⟩
def Jh.next{D:DataW Unit}{K:List (List UInt8)}(h:Jh D K)(t:IsMap D){s:List UInt8}(I:s ∉ K):Jh (D.put (Cf s) (.lit (.int .i64 (K.length:Nat)))) (K++[s]):=by
 intro u;by_cases p:u=s
 ·subst p
  refine⟨fun _=>⟨Maps.has_put_same t (Mu u) _,fun z=>?_⟩,fun o=>absurd (List.mem_append_right _ (List.mem_singleton_self u)) o⟩;rw[Maps.atKey_put_same t (Mu u),List.idxOf_append,if_neg I];simp
 ·have l:Cf u≠Cf s:=fun e=>p (Ph e)
  refine⟨fun C=>?_,fun o=>?_⟩
  ·have i:u∈K:=by
    rcases mA.1 C with j|j
    ·exact j
    ·exact absurd (mS.1 j) p
   refine⟨by rw[Maps.has_put_other l];exact((h u).1 i).1,fun z=>?_⟩;rw[Maps.atKey_put_other l,((h u).1 i).2 z,List.idxOf_append,if_pos i]
  ·have i:u ∉ K:=fun j=>o (List.mem_append_left _ j)
   exact⟨by rw[Maps.has_put_other l];exact((h u).2 i).1,fun z=>by rw[Maps.atKey_put_other l];exact((h u).2 i).2 z⟩
abbrev H0(w:World)(mb n:Nat)(D:DataW Unit):Prop:=w.ownsMap Tryz.prog 9 (plainElem Tryz.prog 3) mb n D
def Tg{K:List (List UInt8)}(h:H0 w mb n D)(p:Jh D K)(hs:s.length<=300000) :
  (Instr.lookup 139 (.map (some mb)) (.string ⟨s.toArray⟩) true).run Tryz.prog w=.ok (.tuple #[.int .i64 (if s∈K then K.idxOf s else 0:Nat),.bool (decide (s∈K))]) w:=by
 have R:=WideMaps.keyOf_string_mk underlying9 (s:=(⟨s.toArray⟩:ByteArray)) (by show s.toArray.size<=_;simp;unfold maxLen;omega);have T:=plainElem_int (H:=Unit) (a:=0) underlying3 (WalkArith.wf_i64 (by omega));obtain⟨v,U,t,I⟩:=h.look_ok IE underlying139 (LV w) T R;have C:(Instr.lookup 139 (.map (some mb)) (.string ⟨s.toArray⟩) true).run Tryz.prog w=.ok (.tuple #[v,.bool (Maps.has D (Cf s))]) w:=t;have J:plainElem Tryz.prog 3 v=some (D.atKey (Cf s) (.lit (.int .i64 0)),U):=I;obtain⟨c,rfl,P,-⟩:=plainElem_int_inv underlying3 J;have i:D.atKey (Cf s) (.lit (.int .i64 0))=.lit (.int .i64 c):=congrArg Prod.fst P
 rw[C];by_cases j:s∈K
 ·obtain⟨l,o⟩:=(p s).1 j
  rw[o]at i;simp only[DataW.lit.injEq,Lit.int.injEq,true_and]at i;rw[l,<-i,if_pos j,decide_eq_true j]
 ·obtain⟨l,o⟩:=(p s).2 j
  rw[o]at i;simp only[DataW.lit.injEq,Lit.int.injEq,true_and]at i;rw[l,<-i,if_neg j,decide_eq_false j];rfl
def kT(h:H0 w mb n D)(l:n<=100000)(o:s.length<=300000){c:Nat}(j:c<=100000) :
  ∃w',(Instr.mapUpdate 139 (.map (some mb)) (.string ⟨s.toArray⟩) (.int .i64 (c:Int))).run Tryz.prog w=.ok () w'/\H0 w' mb (n+1) (D.put (Cf s) (.lit (.int .i64 (c:Int))))/\w.grownBy w' (some mb):=by
 have i:=WideMaps.keyOf_string_mk underlying9 (s:=(⟨s.toArray⟩:ByteArray)) (by show s.toArray.size<=_;simp;unfold maxLen;omega);exact h.update IE underlying139 (by unfold maxLen;omega) i (plainElem_int underlying3 (WalkArith.wf_i64 (by omega)))
end
section
open Go.Maps (IsMap Keyed)
def Me:Keyed Tryz.prog 3:=Maps.int_keyed underlying3
abbrev Jy(w:World)(mb n:Nat)(D:DataW Unit):Prop:=w.ownsMap Tryz.prog 3 (plainElem Tryz.prog 4) mb n D
def Ck(i:Nat):Lit:=.int .i64 i
def ND(i:Nat):WideAt.IsKeyLit (Ck i):=by unfold Ck;simp[WideAt.IsKeyLit]
def Tr{j:Nat}(h:Ck i=Ck j):i=j:=by unfold Ck at h;simp at h;omega
def Il(D:DataW Unit)(M:List Nat):Prop:=∀i:Nat,D.atKey (Ck i) (.lit (.bool false))=.lit (.bool (decide (i∈M)))
def Il.start:Il (.map []) []:=fun i=>rfl
def Il.next{D:DataW Unit}{M:List Nat}(h:Il D M)(o:IsMap D)(i:Nat):Il (D.put (Ck i) (.lit (.bool true))) (i::M):=by
 intro j;by_cases l:j=i
 ·subst l
  rw[Maps.atKey_put_same o (ND j)];simp
 ·rw[Maps.atKey_put_other (fun e=>l (Tr e)),h j]
  simp[l]
def Wf(w:World):(zeroValue 4).run Tryz.prog w=.ok (.bool false) w:=by kernel_rfl
def L1{M:List Nat}(h:Jy w mb n D)(o:Il D M)(t:i<=100000):(Instr.lookup 239 (.map (some mb)) (.int .i64 (i:Int)) false).run Tryz.prog w=.ok (.bool (decide (i∈M))) w:=by
 have p:keyOf Tryz.prog 3 (.int .i64 (i:Int))=some (Ck i):=Maps.keyOf_int_mk underlying3 (WalkArith.wf_i64 (by omega));obtain⟨v,C,l,j⟩:=h.lookup Me underlying239 (Wf w) (plainElem_bool underlying4 false) p;rw[o i]at j;rw[l];unfold plainElem at j;rw[underlying4]at j;cases v<;>simp at j
 rw[j.1]
def On(h:Jy w mb n D)(o:n<=1000000)(l:i<=100000) :
  ∃w',(Instr.mapUpdate 239 (.map (some mb)) (.int .i64 (i:Int)) (.bool true)).run Tryz.prog w=.ok () w'/\Jy w' mb (n+1) (D.put (Ck i) (.lit (.bool true)))/\w.grownBy w' (some mb):=by
 have j:keyOf Tryz.prog 3 (.int .i64 (i:Int))=some (Ck i):=Maps.keyOf_int_mk underlying3 (WalkArith.wf_i64 (by omega));exact h.update Me underlying239 (by unfold maxLen;omega) j (plainElem_bool underlying4 true)
end
end Go.Proofs.YtlogpnoioimhjaaGreatDoor
