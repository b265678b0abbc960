/- . -/
import Derived.Test.YtendpobbjjaopaaGreatDoorXai
import Derived.Test.YtendpobbjjaopaaGreatDoorXaj
set_option linter.all false
set_option maxRecDepth 100000
set_option maxHeartbeats 16000000
namespace Go.Proofs.YtendpobbjjaopaaGreatDoor
open Go.RowKit Go.Proofs.Tryz
open Value renaming string→oJ
open Option renaming some→oM
open IntKind renaming i64→oO
open Go renaming World→oU
variable{w:oU}{i mb n:Nat}{D:DataW Unit}{s:List UInt8}
section
open Go.Maps (IsMap)
def Jb(D:DataW Unit)(K:List (List UInt8)):Prop:=∀s,(s∈K->Maps.has D (Cj s)=true/\∀z,D.atKey (Cj s) z=.lit (.int oO (K.idxOf s:Nat)))/\(s ∉ K->Maps.has D (Cj s)=false/\∀z,D.atKey (Cj s) z=z)
def Jb.start:Jb (.map []) []:=fun s=>⟨fun h=>(by cases h),fun _=>⟨rfl,fun _=>rfl⟩⟩
def Jb.next{D:DataW Unit}{K:List (List UInt8)}(h:Jb D K)(t:IsMap D){s:List UInt8}(I:s ∉ K):Jb (D.put (Cj s) (.lit (.int oO (K.length:Nat)))) (K++[s]):=by
 intro u;by_cases p:u=s
 ·subst p
  refine⟨fun _=>⟨Maps.has_put_same t (Nr u) _,fun z=>?_⟩,fun o=>absurd (List.mem_append_right _ (List.mem_singleton_self u)) o⟩;rw[Maps.atKey_put_same t (Nr u),List.idxOf_append,if_neg I];simp
 ·have l:Cj u≠Cj s:=fun e=>p (OH e)
  refine⟨fun C=>?_,fun o=>?_⟩
  ·have i:u∈K:=by
    rcases mA.1 C with j|j
    ·exact j
    ·exact absurd (mS.1 j) p
   refine⟨by rw[Maps.has_put_other l];exact((h u).1 i).1,fun z=>?_⟩;rw[Maps.atKey_put_other l,((h u).1 i).2 z,List.idxOf_append,if_pos i]
  ·have i:u ∉ K:=fun j=>o (List.mem_append_left _ j)
   exact⟨by rw[Maps.has_put_other l];exact((h u).2 i).1,fun z=>by rw[Maps.atKey_put_other l];exact((h u).2 i).2 z⟩
abbrev Io(w:oU)(mb n:Nat)(D:DataW Unit):Prop:=w.ownsMap Tryz.prog 9 (plainElem Tryz.prog 3) mb n D
def Um{K:List (List UInt8)}(h:Io w mb n D)(p:Jb D K)(hs:s.length<=300000) :
  (Instr.lookup 133 (.map (oM mb)) (oJ ⟨s.toArray⟩) true).run Tryz.prog w=.ok (.tuple #[.int oO (if s∈K then K.idxOf s else 0:Nat),.bool (decide (s∈K))]) w:=by
 have R:=WideMaps.keyOf_string_mk underlying9 (s:=(⟨s.toArray⟩:ByteArray)) (by show s.toArray.size<=_;simp;unfold maxLen;omega);have T:=plainElem_int (H:=Unit) (a:=0) underlying3 (WalkArith.wf_i64 nX);obtain⟨v,U,t,I⟩:=h.look_ok IY underlying133 (LG w) T R;have C:(Instr.lookup 133 (.map (oM mb)) (oJ ⟨s.toArray⟩) true).run Tryz.prog w=.ok (.tuple #[v,.bool (Maps.has D (Cj s))]) w:=t;have J:plainElem Tryz.prog 3 v=oM (D.atKey (Cj s) (.lit (.int oO 0)),U):=I;obtain⟨c,rfl,P,-⟩:=plainElem_int_inv underlying3 J;have i:D.atKey (Cj s) (.lit (.int oO 0))=.lit (.int oO c):=congrArg Prod.fst P
 rw[C];by_cases j:s∈K
 ·obtain⟨l,o⟩:=(p s).1 j
  rw[o]at i;simp only[DataW.lit.injEq,Lit.int.injEq,true_and]at i;rw[l,<-i,if_pos j,decide_eq_true j]
 ·obtain⟨l,o⟩:=(p s).2 j
  rw[o]at i;simp only[DataW.lit.injEq,Lit.int.injEq,true_and]at i;rw[l,<-i,if_neg j,decide_eq_false j];rfl
def kI(h:Io w mb n D)(l:n<=100000)(o:s.length<=300000){c:Nat}(j:c<=100000) :
  ∃w',(Instr.mapUpdate 133 (.map (oM mb)) (oJ ⟨s.toArray⟩) (.int oO (c:Int))).run Tryz.prog w=.ok () w'/\Io w' mb (n+1) (D.put (Cj s) (.lit (.int oO (c:Int))))/\w.grownBy w' (oM mb):=by
 have i:=WideMaps.keyOf_string_mk underlying9 (s:=(⟨s.toArray⟩:ByteArray)) (by show s.toArray.size<=_;simp;unfold maxLen;omega);exact h.update IY underlying133 oB i (plainElem_int underlying3 (WalkArith.wf_i64 nX))
end
section
open Go.Maps (IsMap Keyed)
def MH:Keyed Tryz.prog 3:=Maps.int_keyed underlying3
abbrev JA(w:oU)(mb n:Nat)(D:DataW Unit):Prop:=w.ownsMap Tryz.prog 3 (plainElem Tryz.prog 4) mb n D
def Cq(i:Nat):Lit:=.int .i64 i
def OZ(i:Nat):WideAt.IsKeyLit (Cq i):=by unfold Cq;simp[WideAt.IsKeyLit]
def Q8{j:Nat}(h:Cq i=Cq j):i=j:=by unfold Cq at h;simp at h;omega
def Im(D:DataW Unit)(M:List Nat):Prop:=∀i:Nat,D.atKey (Cq i) (.lit (.bool false))=.lit (.bool (decide (i∈M)))
def Im.start:Im (.map []) []:=fun i=>rfl
def Im.next{D:DataW Unit}{M:List Nat}(h:Im D M)(o:IsMap D)(i:Nat):Im (D.put (Cq i) (.lit (.bool true))) (i::M):=by
 intro j;by_cases l:j=i
 ·subst l
  rw[Maps.atKey_put_same o (OZ j)];simp
 ·rw[Maps.atKey_put_other (fun e=>l (Q8 e)),h j]
  simp[l]
def mi(w:oU):(zeroValue 4).run Tryz.prog w=.ok (.bool false) w:=by kernel_rfl
def LM{M:List Nat}(h:JA w mb n D)(o:Im D M)(t:i<=100000):(Instr.lookup 247 (.map (some mb)) (.int .i64 (i:Int)) false).run Tryz.prog w=.ok (.bool (decide (i∈M))) w:=by
 have p:keyOf Tryz.prog 3 (.int .i64 (i:Int))=some (Cq i):=Maps.keyOf_int_mk underlying3 (WalkArith.wf_i64 nX);obtain⟨v,C,l,j⟩:=h.lookup MH underlying247 (mi w) (plainElem_bool underlying4 false) p;rw[o i]at j;rw[l];unfold plainElem at j;rw[underlying4]at j;cases v<;>simp at j
 rw[j.1]
def Ov(h:JA w mb n D)(o:n<=1000000)(l:i<=100000) :
  ∃w',(Instr.mapUpdate 247 (.map (some mb)) (.int .i64 (i:Int)) (.bool true)).run Tryz.prog w=.ok () w'/\JA w' mb (n+1) (D.put (Cq i) (.lit (.bool true)))/\w.grownBy w' (some mb):=by
 have j:keyOf Tryz.prog 3 (.int .i64 (i:Int))=some (Cq i):=Maps.keyOf_int_mk underlying3 (WalkArith.wf_i64 nX);exact h.update MH underlying247 oB j (plainElem_bool underlying4 true)
end
