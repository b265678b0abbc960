/- Short names of often used laws. -/
import Derived.Lib.Hide
namespace Go.Proofs.YthaacmablcpdfaaGreatDoor
open Go.RowKit
theorem Hd {p : Prop} (h : p) : Hid p := Lib.hid h
theorem eG {α : Type _} {l : List α} {i : Nat} (h : i < l.length) : l[i]? = some l[i] := List.getElem?_eq_getElem h
theorem sG {α : Type _} {i : Nat} {a : α} {l : List α} : l[i]? = some a ↔ ∃ h : i < l.length, l[i] = a := List.getElem?_eq_some_iff
theorem dG {α : Type _} {l : List α} {i : Nat} {a : α} : l.getD i a = l[i]?.getD a := List.getD_eq_getElem?_getD
theorem mG {α : Type _} {l : List α} {i : Nat} {a : α} (e : l[i]? = some a) : a ∈ l := List.mem_of_getElem? e
theorem pG {α β : Type _} {f : α → β} {l : List α} {i : Nat} : (List.map f l)[i]? = Option.map f l[i]? := List.getElem?_map
theorem mS {α : Type _} {a b : α} : a ∈ [b] ↔ a = b := List.mem_singleton
theorem aG {α : Type _} {i : Nat} {b : α} {xs : Array α} : xs[i]? = some b ↔ ∃ h : i < xs.size, xs[i] = b := Array.getElem?_eq_some_iff
theorem lM {α β : Type _} {as : List α} (f : α → β) : (List.map f as).length = as.length := List.length_map f
theorem mA {α : Type _} {a : α} {s t : List α} : a ∈ s ++ t ↔ a ∈ s ∨ a ∈ t := List.mem_append
theorem A0 {n m k : Nat} : n < m → m ≤ k → n < k := Nat.lt_of_lt_of_le
theorem AG (n : Nat) : n ≤ n := Nat.le_refl n
theorem bN {α : Type _} [BEq α] [LawfulBEq α] {a b : α} : (a == b) = false ↔ a ≠ b := beq_eq_false_iff_ne
theorem nG {α : Type _} {l : List α} {i : Nat} (h : l.length ≤ i) : l[i]? = none := List.getElem?_eq_none h
theorem tG {α : Type _} {l : List α} {i : Nat} {a : α} (h : i < l.length) : (l.set i a)[i]? = some a := List.getElem?_set_self h
theorem AX {n m k : Nat} : n ≤ m → m ≤ k → n ≤ k := Nat.le_trans
theorem AP (n : Nat) : 0 ≤ n := Nat.zero_le n
theorem By {α β : Type _} {f : α → β} {l m : List α} : List.map f (l ++ m) = List.map f l ++ List.map f m := List.map_append
theorem B5 {α : Type _} {as bs : List α} : (as ++ bs).length = as.length + bs.length := List.length_append
theorem gL {α : Type _} {l m : List α} {i : Nat} (h : i < l.length) : (l ++ m)[i]? = l[i]? := List.getElem?_append_left h
theorem Ds {α : Type _} {i : Nat} {l : List α} (h : l.length ≤ i) : List.take i l = l := List.take_of_length_le h
theorem uG {α : Type _} {l : List α} {i j : Nat} (h : i ≠ j) {a : α} : (l.set i a)[j]? = l[j]? := List.getElem?_set_ne h
end Go.Proofs.YthaacmablcpdfaaGreatDoor
