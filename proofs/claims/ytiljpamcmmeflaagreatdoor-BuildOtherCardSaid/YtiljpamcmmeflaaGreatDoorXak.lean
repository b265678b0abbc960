/- . -/
import Derived.Test.YtiljpamcmmeflaaGreatDoorXai
import Derived.Test.YtiljpamcmmeflaaGreatDoorXaj
set_option linter.all false
set_option maxRecDepth 100000
set_option maxHeartbeats 16000000
namespace Go.Proofs.YtiljpamcmmeflaaGreatDoor
open Go.RowKit Go.Proofs.Tryz
open Value renaming string→nH
open Option renaming some→nJ
open IntKind renaming i64→nM
open Go renaming World→nS
variable{w:nS}{i mb n:Nat}{D:DataW Unit}{s:List UInt8}
section
open Go.Maps (IsMap)
def I0(D:DataW Unit)(K:List (List UInt8)):Prop:=∀s,(s∈K->Maps.has D (Cf s)=true/\∀z,D.atKey (Cf s) z=.lit (.int nM (K.idxOf s:Nat)))/\(s ∉ K->Maps.has D (Cf s)=false/\∀z,D.atKey (Cf s) z=z)
def I0.start:I0 (.map []) []:=fun s=>⟨fun h=>(by cases h),fun _=>⟨rfl,fun _=>rfl⟩⟩
def I0.next{D:DataW Unit}{K:List (List UInt8)}(h:I0 D K)(t:IsMap D){s:List UInt8}(I:s ∉ K):I0 (D.put (Cf s) (.lit (.int nM (K.length:Nat)))) (K++[s]):=by
 intro u;by_cases p:u=s
 ·subst p
  refine⟨fun _=>⟨Maps.has_put_same t (Ni u) _,fun z=>?_⟩,fun o=>absurd (List.mem_append_right _ (List.mem_singleton_self u)) o⟩;rw[Maps.atKey_put_same t (Ni u),List.idxOf_append,if_neg I];simp
 ·have l:Cf u≠Cf s:=fun e=>p (Oh e)
  refine⟨fun C=>?_,fun o=>?_⟩
  ·have i:u∈K:=by
    rcases mA.1 C with j|j
    ·exact j
    ·exact absurd (mS.1 j) p
   refine⟨by rw[Maps.has_put_other l];exact((h u).1 i).1,fun z=>?_⟩;rw[Maps.atKey_put_other l,((h u).1 i).2 z,List.idxOf_append,if_pos i]
  ·have i:u ∉ K:=fun j=>o (List.mem_append_left _ j)
   exact⟨by rw[Maps.has_put_other l];exact((h u).2 i).1,fun z=>by rw[Maps.atKey_put_other l];exact((h u).2 i).2 z⟩
abbrev Ie(w:nS)(mb n:Nat)(D:DataW Unit):Prop:=w.ownsMap Tryz.prog 9 (plainElem Tryz.prog 3) mb n D
def Tf{K:List (List UInt8)}(h:Ie w mb n D)(p:I0 D K)(hs:s.length<=300000) :
  (Instr.lookup 65 (.map (nJ mb)) (nH ⟨s.toArray⟩) true).run Tryz.prog w=.ok (.tuple #[.int nM (if s∈K then K.idxOf s else 0:Nat),.bool (decide (s∈K))]) w:=by
 have R:=WideMaps.keyOf_string_mk underlying9 (s:=(⟨s.toArray⟩:ByteArray)) (by show s.toArray.size<=_;simp;unfold maxLen;omega);have T:=plainElem_int (H:=Unit) (a:=0) underlying3 (WalkArith.wf_i64 mR);obtain⟨v,U,t,I⟩:=h.look_ok H0 underlying65 (Ll w) T R;have C:(Instr.lookup 65 (.map (nJ mb)) (nH ⟨s.toArray⟩) true).run Tryz.prog w=.ok (.tuple #[v,.bool (Maps.has D (Cf s))]) w:=t;have J:plainElem Tryz.prog 3 v=nJ (D.atKey (Cf s) (.lit (.int nM 0)),U):=I;obtain⟨c,rfl,P,-⟩:=plainElem_int_inv underlying3 J;have i:D.atKey (Cf s) (.lit (.int nM 0))=.lit (.int nM c):=congrArg Prod.fst P
 rw[C];by_cases j:s∈K
 ·obtain⟨l,o⟩:=(p s).1 j
  rw[o]at i;simp only[DataW.lit.injEq,Lit.int.injEq,true_and]at i;rw[l,<-i,if_pos j,decide_eq_true j]
 ·obtain⟨l,o⟩:=(p s).2 j
  rw[o]at i;simp only[DataW.lit.injEq,Lit.int.injEq,true_and]at i;rw[l,<-i,if_neg j,decide_eq_false j];rfl
def cQ(h:Ie w mb n D)(l:n<=100000)(o:s.length<=300000){c:Nat}(j:c<=100000) :
  ∃w',(Instr.mapUpdate 65 (.map (nJ mb)) (nH ⟨s.toArray⟩) (.int nM (c:Int))).run Tryz.prog w=.ok () w'/\Ie w' mb (n+1) (D.put (Cf s) (.lit (.int nM (c:Int))))/\w.grownBy w' (nJ mb):=by
 have i:=WideMaps.keyOf_string_mk underlying9 (s:=(⟨s.toArray⟩:ByteArray)) (by show s.toArray.size<=_;simp;unfold maxLen;omega);exact h.update H0 underlying65 mW i (plainElem_int underlying3 (WalkArith.wf_i64 mR))
end
section
open Go.Maps (IsMap Keyed)
def Mp:Keyed Tryz.prog 3:=Maps.int_keyed underlying3
abbrev Jo(w:nS)(mb n:Nat)(D:DataW Unit):Prop:=w.ownsMap Tryz.prog 3 (plainElem Tryz.prog 4) mb n D
def Cj(i:Nat):Lit:=.int .i64 i
def NP(i:Nat):WideAt.IsKeyLit (Cj i):=by unfold Cj;simp[WideAt.IsKeyLit]
def S6{j:Nat}(h:Cj i=Cj j):i=j:=by unfold Cj at h;simp at h;omega
def Hx(D:DataW Unit)(M:List Nat):Prop:=∀i:Nat,D.atKey (Cj i) (.lit (.bool false))=.lit (.bool (decide (i∈M)))
def Hx.start:Hx (.map []) []:=fun i=>rfl
def Hx.next{D:DataW Unit}{M:List Nat}(h:Hx D M)(o:IsMap D)(i:Nat):Hx (D.put (Cj i) (.lit (.bool true))) (i::M):=by
 intro j;by_cases l:j=i
 ·subst l
  rw[Maps.atKey_put_same o (NP j)];simp
 ·rw[Maps.atKey_put_other (fun e=>l (S6 e)),h j]
  simp[l]
def VA(w:nS):(zeroValue 4).run Tryz.prog w=.ok (.bool false) w:=by kernel_rfl
def LK{M:List Nat}(h:Jo w mb n D)(o:Hx D M)(t:i<=100000):(Instr.lookup 274 (.map (some mb)) (.int .i64 (i:Int)) false).run Tryz.prog w=.ok (.bool (decide (i∈M))) w:=by
 have p:keyOf Tryz.prog 3 (.int .i64 (i:Int))=some (Cj i):=Maps.keyOf_int_mk underlying3 (WalkArith.wf_i64 mR);obtain⟨v,C,l,j⟩:=h.lookup Mp underlying274 (VA w) (plainElem_bool underlying4 false) p;rw[o i]at j;rw[l];unfold plainElem at j;rw[underlying4]at j;cases v<;>simp at j
 rw[j.1]
def NQ(h:Jo w mb n D)(o:n<=1000000)(l:i<=100000) :
  ∃w',(Instr.mapUpdate 274 (.map (some mb)) (.int .i64 (i:Int)) (.bool true)).run Tryz.prog w=.ok () w'/\Jo w' mb (n+1) (D.put (Cj i) (.lit (.bool true)))/\w.grownBy w' (some mb):=by
 have j:keyOf Tryz.prog 3 (.int .i64 (i:Int))=some (Cj i):=Maps.keyOf_int_mk underlying3 (WalkArith.wf_i64 mR);exact h.update Mp underlying274 mW j (plainElem_bool underlying4 true)
end
