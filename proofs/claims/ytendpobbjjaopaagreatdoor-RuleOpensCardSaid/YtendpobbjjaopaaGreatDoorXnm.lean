/- Short names of often used laws. -/
import Derived.Lib.Hide
import Derived.IntWalk
import Derived.KernelRfl
import Derived.Laws.Sem
import Derived.Test.YtendpobbjjaopaaGreatDoorProg
namespace Go.Proofs.YtendpobbjjaopaaGreatDoor
open Go.RowKit
instance:Coe World Nat:=⟨fun w=>w.heap.size⟩
instance(b k:Nat):CoeDep (Nat×Nat) (b,k) Addr:=⟨⟨b,k,none⟩⟩
instance(b k:Nat):CoeDep (Nat×Nat) (b,k) (Option Addr):=⟨some ⟨b,k,none⟩⟩
instance(b k:Nat):CoeDep (Nat×Nat) (b,k) Value:=⟨.pointer (some ⟨b,k,none⟩)⟩
instance(w:World)(k:Nat):CoeDep (World×Nat) (w,k) Addr:=⟨⟨w.heap.size,k,none⟩⟩
instance(w:World)(k:Nat):CoeDep (World×Nat) (w,k) (Option Addr):=⟨some ⟨w.heap.size,k,none⟩⟩
instance(w:World)(k:Nat):CoeDep (World×Nat) (w,k) Value:=⟨.pointer (some ⟨w.heap.size,k,none⟩)⟩
instance:Coe Int Value:=⟨fun k=>.int .i64 k⟩
instance:Coe Nat Value:=⟨fun k=>.int .i64 k⟩
instance:CoeFun Unit fun _=>Nat->Array Value->World->(Ending->World->Prop)->Prop:=⟨fun _=>Calls Tryz.prog⟩
theorem Hd {p : Prop} (h : p) : Hid p := Lib.hid h
theorem eG {α : Type _} {l : List α} {i : Nat} (h : i < l.length) : l[i]? = some l[i] := List.getElem?_eq_getElem h
theorem sG {α : Type _} {i : Nat} {a : α} {l : List α} : l[i]? = some a ↔ ∃ h : i < l.length, l[i] = a := List.getElem?_eq_some_iff
theorem dG {α : Type _} {l : List α} {i : Nat} {a : α} : l.getD i a = l[i]?.getD a := List.getD_eq_getElem?_getD
theorem mG {α : Type _} {l : List α} {i : Nat} {a : α} (e : l[i]? = some a) : a ∈ l := List.mem_of_getElem? e
theorem pG {α β : Type _} {f : α → β} {l : List α} {i : Nat} : (List.map f l)[i]? = Option.map f l[i]? := List.getElem?_map
theorem mS {α : Type _} {a b : α} : a ∈ [b] ↔ a = b := List.mem_singleton
theorem aG {α : Type _} {i : Nat} {b : α} {xs : Array α} : xs[i]? = some b ↔ ∃ h : i < xs.size, xs[i] = b := Array.getElem?_eq_some_iff
theorem lM {α β : Type _} {x : List α} (f : α → β) : (List.map f x).length = x.length := List.length_map f
theorem mA {α : Type _} {a : α} {s t : List α} : a ∈ s ++ t ↔ a ∈ s ∨ a ∈ t := List.mem_append
theorem A0 {n m k : Nat} : n < m → m ≤ k → n < k := Nat.lt_of_lt_of_le
theorem Ay (n : Nat) : n ≤ n := Nat.le_refl n
theorem bN {α : Type _} [BEq α] [LawfulBEq α] {a b : α} : (a == b) = false ↔ a ≠ b := beq_eq_false_iff_ne
theorem nG {α : Type _} {l : List α} {i : Nat} (h : l.length ≤ i) : l[i]? = none := List.getElem?_eq_none h
theorem tG {α : Type _} {l : List α} {i : Nat} {a : α} (h : i < l.length) : (l.set i a)[i]? = some a := List.getElem?_set_self h
theorem AW {n m k : Nat} : n ≤ m → m ≤ k → n ≤ k := Nat.le_trans
theorem AX (n : Nat) : 0 ≤ n := Nat.zero_le n
theorem BB {α β : Type _} {f : α → β} {l m : List α} : List.map f (l ++ m) = List.map f l ++ List.map f m := List.map_append
theorem Cb {α : Type _} {x y : List α} : (x ++ y).length = x.length + y.length := List.length_append
theorem gL {α : Type _} {l m : List α} {i : Nat} (h : i < l.length) : (l ++ m)[i]? = l[i]? := List.getElem?_append_left h
theorem Da {α : Type _} {i : Nat} {l : List α} (h : l.length ≤ i) : List.take i l = l := List.take_of_length_le h
theorem uG {α : Type _} {l : List α} {i j : Nat} (h : i ≠ j) {a : α} : (l.set i a)[j]? = l[j]? := List.getElem?_set_ne h
theorem nX{p:Prop}(h:p:=by omega):p:=h
theorem nY{p:Prop}(h:p:=by decide):p:=h
theorem nZ{p:Prop}(h:p:=by kernel_rfl):p:=h
theorem oA{p:Prop}(h:p:=by simp):p:=h
theorem oB{p:Prop}(h:p:=by unfold maxLen;omega):p:=h
theorem oC{p:Prop}(h:p:=by simp;omega):p:=h
theorem oD{p:Prop}(h:p:=by go_num):p:=h
theorem oE{p:Prop}(h:p:=by simp[Value.oneCell']):p:=h
theorem oF{p:Prop}(h:p:=by rfl):p:=h
end Go.Proofs.YtendpobbjjaopaaGreatDoor
