/- How trees that lie are built; a small tree of commands, and what it comes to. The last check. PRINTED by gen50.py. A tree of commands that came in, read. PRINTED by gen51.py. -/
import Derived.Test.YtpjcmhlgdgadjaaKt
import Derived.Test.YtpjcmhlgdgadjaaKa
import Derived.Test.YtpjcmhlgdgadjaaRows
import Derived.Deep.Slices
import Derived.Deep.Fields
namespace Go.Proofs.Ytpjcmhlgdgadjaa
open Go.RowKit
set_option linter.unusedVariables false
section
variable {A : Nat → Prop} {w : World}
theorem Lies.mkPart {k : Int} {s o : ByteArray} {v3 v4 : Value} {ps ns : List Tr} (hk1 : -9223372036854775808 ≤ k) (hk2 : k ≤ 9223372036854775807) (hs : s.size ≤ 1048576) (ho : o.size ≤ 1048576)
    (h3 : RowAt A w 5 v3 ps) (h4 : RowAt A w 10 v4 ns) (k3 : ∀ x ∈ ps, Lies A w .part x) (k4 : ∀ x ∈ ns, Lies A w .node x) : Lies A w .part (.mk [.int .i64 k, .string s, .string o, v3, v4] [[], [], [], ps, ns]) := by
  refine .mk .part _ _ rfl rfl (fun i f e => ?_) (fun i u e => ?_)
  · match i, e with
    | 0, e => cases e; exact ⟨rfl, k, rfl, hk1, hk2⟩
    | 1, e => cases e; exact ⟨rfl, s, rfl, hs⟩
    | 2, e => cases e; exact ⟨rfl, o, rfl, ho⟩
    | 3, e => cases e; exact h3
    | 4, e => cases e; exact h4
    | i + 5, e => simp [Ty.flds] at e
  · match i, e with
    | 0, e => cases e
    | 1, e => cases e
    | 2, e => cases e
    | 3, e => cases e; exact k3
    | 4, e => cases e; exact k4
    | i + 5, e => simp [Ty.flds] at e
theorem Lies.mkInt {k : Int} (hk1 : -9223372036854775808 ≤ k) (hk2 : k ≤ 9223372036854775807) : Lies A w .ints (.mk [.int .i64 k] [[]]) := by
  refine .mk .ints _ _ rfl rfl (fun i f e => ?_) (fun i u e => ?_)
  · match i, e with
    | 0, e => cases e; exact ⟨rfl, k, rfl, hk1, hk2⟩
    | i + 1, e => simp [Ty.flds] at e
  · match i, e with
    | 0, e => cases e
    | i + 1, e => simp [Ty.flds] at e
theorem Lies.mkWord {v : Value} {ps : List Tr} (h : RowAt A w 5 v ps) (k : ∀ x ∈ ps, Lies A w .part x) : Lies A w .word (.mk [v] [ps]) := Lies.wordOf h k
theorem Lies.mkRedir {n : ByteArray} {k : Int} {v : Value} {ps : List Tr} {s : ByteArray} (hn : n.size ≤ 1048576) (hk1 : -9223372036854775808 ≤ k) (hk2 : k ≤ 9223372036854775807) (hs : s.size ≤ 1048576)
    (h : RowAt A w 5 v ps) (kk : ∀ x ∈ ps, Lies A w .part x) : Lies A w .redir (.mk [.string n, .int .i64 k, v, .string s] [[], [], ps, []]) := by
  refine .mk .redir _ _ rfl rfl (fun i f e => ?_) (fun i u e => ?_)
  · match i, e with
    | 0, e => cases e; exact ⟨rfl, n, rfl, hn⟩
    | 1, e => cases e; exact ⟨rfl, k, rfl, hk1, hk2⟩
    | 2, e => cases e; exact h
    | 3, e => cases e; exact ⟨rfl, s, rfl, hs⟩
    | i + 4, e => simp [Ty.flds] at e
  · match i, e with
    | 0, e => cases e
    | 1, e => cases e
    | 2, e => cases e; exact kk
    | 3, e => cases e
    | i + 4, e => simp [Ty.flds] at e
theorem Lies.mkNode {k : Int} {s : ByteArray} {b1 b2 : Bool} {v4 v5 v6 v7 v8 v9 : Value} {os gs ws rs ms ks : List Tr} (hk1 : -9223372036854775808 ≤ k) (hk2 : k ≤ 9223372036854775807) (hs : s.size ≤ 1048576)
    (h4 : RowAt A w 1 v4 os) (h5 : RowAt A w 1 v5 gs) (h6 : RowAt A w 1 v6 ws) (h7 : RowAt A w 4 v7 rs) (h8 : RowAt A w 11 v8 ms) (h9 : RowAt A w 10 v9 ks)
    (k4 : ∀ x ∈ os, Lies A w .ints x) (k5 : ∀ x ∈ gs, Lies A w .word x) (k6 : ∀ x ∈ ws, Lies A w .word x) (k7 : ∀ x ∈ rs, Lies A w .redir x) (k8 : ∀ x ∈ ms, Lies A w .arm x) (k9 : ∀ x ∈ ks, Lies A w .node x) :
    Lies A w .node (.mk [.int .i64 k, .string s, .bool b1, .bool b2, v4, v5, v6, v7, v8, v9] [[], [], [], [], os, gs, ws, rs, ms, ks]) := by
  refine .mk .node _ _ rfl rfl (fun i f e => ?_) (fun i u e => ?_)
  · match i, e with
    | 0, e => cases e; exact ⟨rfl, k, rfl, hk1, hk2⟩
    | 1, e => cases e; exact ⟨rfl, s, rfl, hs⟩
    | 2, e => cases e; exact ⟨rfl, b1, rfl⟩
    | 3, e => cases e; exact ⟨rfl, b2, rfl⟩
    | 4, e => cases e; exact h4
    | 5, e => cases e; exact h5
    | 6, e => cases e; exact h6
    | 7, e => cases e; exact h7
    | 8, e => cases e; exact h8
    | 9, e => cases e; exact h9
    | i + 10, e => simp [Ty.flds, nodeF] at e
  · match i, e with
    | 0, e => cases e
    | 1, e => cases e
    | 2, e => cases e
    | 3, e => cases e
    | 4, e => cases e; exact k4
    | 5, e => cases e; exact k5
    | 6, e => cases e; exact k6
    | 7, e => cases e; exact k7
    | 8, e => cases e; exact k8
    | 9, e => cases e; exact k9
    | i + 10, e => simp [Ty.flds, nodeF] at e
theorem Lies.mkArm {v : Value} {ps : List Tr} {cs : List Value} {rows : List (List Tr)} (h : RowAt A w 1 v ps) (k : ∀ x ∈ ps, Lies A w .word x) (hb : Lies A w .node (.mk cs rows)) : Lies A w .arm (.mk (v :: cs) (ps :: rows)) := by
  have hc := hb.len
  have hr := hb.rlen
  refine .mk .arm _ _ (by simp [Ty.flds] at hc ⊢; exact hc) (by simp [Ty.flds] at hr ⊢; exact hr) (fun i f e => ?_) (fun i u e => ?_)
  · match i, e with
    | 0, e => cases e; exact h
    | i + 1, e => exact hb.field (i := i) (f := f) (by simpa [Ty.flds] using e)
  · match i, e with
    | 0, e => cases e; exact k
    | i + 1, e => exact hb.kids (i := i) (u := u) (by simpa [Ty.flds] using e)
theorem RowAt.nil (m : Nat) : RowAt A w m (.slice none 0 0) [] := ⟨by simp, none, 0, rfl, fun _ => rfl, by simp, by simp, fun k x hx => by cases hx⟩
/-- A whole block is a row. -/
theorem RowAt.blk {b m : Nat} {e : TypeId} {l : List Tr} (h : Blk w b e (l.flatMap Tr.cs).toArray) (hA : A b) (hl : l.length ≤ 1048576) (hm : ∀ x ∈ l, x.cs.length = m) : RowAt A w m (.slice (some ⟨b, 0, none⟩) l.length l.length) l := by
  refine ⟨hl, some ⟨b, 0, none⟩, l.length, rfl, fun e => (by cases e), Nat.le_refl _, by unfold maxLen; omega, fun k x hx => ⟨b, 0, rfl, hA, h.lt, fun j hj => ?_⟩⟩
  have h1 := h.cell (0 + k * m + j)
  rw [h1]
  have := flat_get l k j x hm hx hj
  rw [← this]
  simp
end
/-- The small tree. -/
def exP (k : Int) (s : ByteArray) : Tr := .mk [.int .i64 k, .string s, .string ⟨#[]⟩, .slice none 0 0, .slice none 0 0] [[], [], [], [], []]
def exW (v : Value) (p : Tr) : Tr := .mk [v] [[p]]
def exI : Tr := .mk [.int .i64 1] [[]]
def exS (v7 v8 : Value) (a b c : Tr) : Tr := .mk [.int .i64 4, .string ⟨#[]⟩, .bool false, .bool false, .slice none 0 0, v7, v8, .slice none 0 0, .slice none 0 0, .slice none 0 0] [[], [], [], [], [], [a], [b, c], [], [], []]
def exN (v6 v9 : Value) (n : Tr) : Tr := .mk [.int .i64 1, .string ⟨#[]⟩, .bool false, .bool false, v6, .slice none 0 0, .slice none 0 0, .slice none 0 0, .slice none 0 0, v9] [[], [], [], [], [exI], [], [], [], [], [n]]
def exA (v : Value) : Tr := exW v (exP 1 ⟨#[120, 61, 49]⟩)
def exB (v : Value) : Tr := exW v (exP 1 ⟨#[108, 115]⟩)
def exC (v : Value) : Tr := exW v (exP 5 ⟨#[121]⟩)
def exT (v6 v9 v7 v8 va vb vc : Value) : Tr := exN v6 v9 (exS v7 v8 (exA va) (exB vb) (exC vc))
section
variable (v6 v9 v7 v8 va vb vc : Value)
theorem cmds_exP (k : Int) (s : ByteArray) (h : k ≠ 6) : cmdsL [exP k s] = [] := by
  rw [cmdsL_cons, if_neg (by simpa [exP, Tr.k, Tr.c, Tr.cs] using h)]
  have e : (exP k s).r 3 = [] := rfl
  rw [e, cmdsL_nil]
  rfl
theorem below_exS : below (exS v7 v8 (exA va) (exB vb) (exC vc)) = [] := by
  have e : own (exS v7 v8 (exA va) (exB vb) (exC vc)) = [exA va, exB vb, exC vc] := rfl
  have h8 : (exS v7 v8 (exA va) (exB vb) (exC vc)).r 8 = [] := rfl
  have h9 : (exS v7 v8 (exA va) (exB vb) (exC vc)).r 9 = [] := rfl
  have ea : (exA va).r 0 = [exP 1 ⟨#[120, 61, 49]⟩] := rfl
  have eb : (exB vb).r 0 = [exP 1 ⟨#[108, 115]⟩] := rfl
  have ec : (exC vc).r 0 = [exP 5 ⟨#[121]⟩] := rfl
  unfold below inParts
  rw [e, h8, h9]
  simp [ea, eb, ec, cmds_exP]
theorem all_exT : all (exT v6 v9 v7 v8 va vb vc) = [exT v6 v9 v7 v8 va vb vc, exS v7 v8 (exA va) (exB vb) (exC vc)] := by
  have e : below (exT v6 v9 v7 v8 va vb vc) = [exS v7 v8 (exA va) (exB vb) (exC vc)] := rfl
  rw [all_eq, e, allL_cons, below_exS, allL_nil]
  rfl
theorem deep_exT : deep (exT v6 v9 v7 v8 va vb vc) = 2 := by
  have e : below (exT v6 v9 v7 v8 va vb vc) = [exS v7 v8 (exA va) (exB vb) (exC vc)] := rfl
  unfold deep
  rw [e, deepL_cons, below_exS, deepL_nil]
  rfl
theorem words_exT : wordsOf (exT v6 v9 v7 v8 va vb vc) = [exA va, exB vb, exC vc] := by unfold wordsOf; rw [all_exT]; rfl
theorem calls_exT : (all (exT v6 v9 v7 v8 va vb vc)).flatMap callV = [.string ⟨#[108, 115]⟩] := by
  rw [all_exT]
  have h1 : callV (exT v6 v9 v7 v8 va vb vc) = [] := rfl
  have h2 : callV (exS v7 v8 (exA va) (exB vb) (exC vc)) = [.string ⟨#[108, 115]⟩] := rfl
  simp [h1, h2]
theorem sets_exT : (all (exT v6 v9 v7 v8 va vb vc)).flatMap setV = [.string ⟨#[120]⟩] := by
  rw [all_exT]
  have h1 : setV (exT v6 v9 v7 v8 va vb vc) = [] := rfl
  have h2 : setV (exS v7 v8 (exA va) (exB vb) (exC vc)) = [.string ⟨#[120]⟩] := by
    have e : (exS v7 v8 (exA va) (exB vb) (exC vc)).r 5 = [exA va] := rfl
    have h3 : assignOf (exA va) = some ⟨#[120]⟩ := by
      have : assignOf (exA va) = assignP [exP 1 ⟨#[120, 61, 49]⟩] := rfl
      rw [this, assignP_cons]
      decide
    have h4 : (exS v7 v8 (exA va) (exB vb) (exC vc)).k 0 = 4 := rfl
    unfold setV setR
    rw [e, h4]
    simp [h3]
  simp [h1, h2]
theorem reads_exT : reads (exT v6 v9 v7 v8 va vb vc) = [⟨#[121]⟩] := by
  have ea : (exA va).r 0 = [exP 1 ⟨#[120, 61, 49]⟩] := rfl
  have eb : (exB vb).r 0 = [exP 1 ⟨#[108, 115]⟩] := rfl
  have ec : (exC vc).r 0 = [exP 5 ⟨#[121]⟩] := rfl
  have e3 : ∀ k s, (exP k s).r 3 = [] := fun _ _ => rfl
  have n1 : nameP (exP 1 ⟨#[120, 61, 49]⟩) = [] := by decide
  have n2 : nameP (exP 1 ⟨#[108, 115]⟩) = [] := by decide
  have n3 : nameP (exP 5 ⟨#[121]⟩) = [⟨#[121]⟩] := by decide
  unfold reads
  rw [words_exT]
  simp [wnames, ea, eb, ec, namesL_cons, namesL_nil, e3, n1, n2, n3]
end
end Go.Proofs.Ytpjcmhlgdgadjaa

namespace Go.Proofs.Ytpjcmhlgdgadjaa
open Go.RowKit
set_option linter.unusedVariables false
theorem one_mem {A : Nat → Prop} {w : World} {ty : Ty} {x : Tr} (h : Lies A w ty x) : ∀ y ∈ [x], Lies A w ty y := fun y hy => by rw [List.mem_singleton.1 hy]; exact h
theorem no_mem {A : Nat → Prop} {w : World} {ty : Ty} : ∀ y ∈ ([] : List Tr), Lies A w ty y := fun y hy => by cases hy
theorem exW_lies {A : Nat → Prop} {w : World} {b : Nat} {k : Int} {s : ByteArray} (hb : Blk w b 52 #[.int .i64 k, .string s, .string ⟨#[]⟩, .slice none 0 0, .slice none 0 0]) (hA : A b) (h1 : -9223372036854775808 ≤ k) (h2 : k ≤ 9223372036854775807) (hs : s.size ≤ 1048576) :
    Lies A w .word (exW (.slice (some ⟨b, 0, none⟩) 1 1) (exP k s)) := by
  refine .mkWord (RowAt.blk (l := [exP k s]) hb hA (by simp) (fun x hx => by rw [List.mem_singleton.1 hx]; rfl)) (one_mem ?_)
  exact .mkPart h1 h2 hs (by decide) (RowAt.nil _) (RowAt.nil _) no_mem no_mem
theorem exT_lies {A : Nat → Prop} {w : World} {ba bb bc b6 b7 b8 b9 : Nat} (ha : Blk w ba 52 #[.int .i64 1, .string { data := #[120, 61, 49] }, .string ⟨#[]⟩, .slice none 0 0, .slice none 0 0])
    (hb : Blk w bb 52 #[.int .i64 1, .string { data := #[108, 115] }, .string ⟨#[]⟩, .slice none 0 0, .slice none 0 0]) (hc : Blk w bc 52 #[.int .i64 5, .string { data := #[121] }, .string ⟨#[]⟩, .slice none 0 0, .slice none 0 0])
    (h6 : Blk w b6 3 #[.int .i64 1]) (h7 : Blk w b7 41 #[.slice (some ⟨ba, 0, none⟩) 1 1]) (h8 : Blk w b8 41 #[.slice (some ⟨bb, 0, none⟩) 1 1, .slice (some ⟨bc, 0, none⟩) 1 1])
    (h9 : Blk w b9 28 #[.int .i64 4, .string ⟨#[]⟩, .bool false, .bool false, .slice none 0 0, .slice (some ⟨b7, 0, none⟩) 1 1, .slice (some ⟨b8, 0, none⟩) 2 2, .slice none 0 0, .slice none 0 0, .slice none 0 0])
    (hA : ∀ b, b < w.heap.size → A b) : Lies A w .node (exT (.slice (some ⟨b6, 0, none⟩) 1 1) (.slice (some ⟨b9, 0, none⟩) 1 1) (.slice (some ⟨b7, 0, none⟩) 1 1) (.slice (some ⟨b8, 0, none⟩) 2 2) (.slice (some ⟨ba, 0, none⟩) 1 1) (.slice (some ⟨bb, 0, none⟩) 1 1) (.slice (some ⟨bc, 0, none⟩) 1 1)) := by
  have la := exW_lies ha (hA _ ha.lt) (by decide) (by decide) (by decide)
  have lb := exW_lies hb (hA _ hb.lt) (by decide) (by decide) (by decide)
  have lc := exW_lies hc (hA _ hc.lt) (by decide) (by decide) (by decide)
  have r6 := RowAt.blk (m := 1) (l := [exI]) h6 (hA _ h6.lt) (by simp) (fun x hx => by rw [List.mem_singleton.1 hx]; rfl)
  have r7 := RowAt.blk (m := 1) (l := [exA (.slice (some ⟨ba, 0, none⟩) 1 1)]) h7 (hA _ h7.lt) (by simp) (fun x hx => by rw [List.mem_singleton.1 hx]; rfl)
  have r8 := RowAt.blk (m := 1) (l := [exB (.slice (some ⟨bb, 0, none⟩) 1 1), exC (.slice (some ⟨bc, 0, none⟩) 1 1)]) h8 (hA _ h8.lt) (by simp) (fun x hx => by
    rcases List.mem_cons.1 hx with rfl | hx
    · rfl
    · rw [List.mem_singleton.1 hx]; rfl)
  have l9 : Lies A w .node (exS (.slice (some ⟨b7, 0, none⟩) 1 1) (.slice (some ⟨b8, 0, none⟩) 2 2) (exA (.slice (some ⟨ba, 0, none⟩) 1 1)) (exB (.slice (some ⟨bb, 0, none⟩) 1 1)) (exC (.slice (some ⟨bc, 0, none⟩) 1 1))) :=
    .mkNode (by decide) (by decide) (by decide) (RowAt.nil _) r7 r8 (RowAt.nil _) (RowAt.nil _) (RowAt.nil _) no_mem (one_mem la) (fun x hx => by
      rcases List.mem_cons.1 hx with rfl | hx
      · exact lb
      · rw [List.mem_singleton.1 hx]; exact lc) no_mem no_mem no_mem
  have r9 := RowAt.blk (m := 10) (l := [exS (.slice (some ⟨b7, 0, none⟩) 1 1) (.slice (some ⟨b8, 0, none⟩) 2 2) (exA (.slice (some ⟨ba, 0, none⟩) 1 1)) (exB (.slice (some ⟨bb, 0, none⟩) 1 1)) (exC (.slice (some ⟨bc, 0, none⟩) 1 1))]) h9 (hA _ h9.lt) (by simp) (fun x hx => by rw [List.mem_singleton.1 hx]; rfl)
  exact .mkNode (by decide) (by decide) (by decide) r6 (RowAt.nil _) (RowAt.nil _) (RowAt.nil _) (RowAt.nil _) r9 (one_mem (.mkInt (by decide) (by decide))) no_mem no_mem no_mem no_mem (one_mem l9)
set_option maxRecDepth 100000 in
set_option maxHeartbeats 1600000 in
theorem awake_any (w : World) : Calls Try.prog 6 #[] w fun e w' => e = .returned (.bool true) ∧ Below w.heap.size w w' := by
  obtain ⟨W1, hW1⟩ : ∃ W, World.alloc w (.cells #[.int .i64 1, .string { data := #[108, 115] }, .string { data := #[] }, .slice none 0 0, .slice none 0 0] 52) = W := ⟨_, rfl⟩
  have hs1 : W1.heap.size = w.heap.size + 1 := by rw [← hW1]; exact World.size_alloc _ _
  have b0 : Blk W1 (w.heap.size) 52 #[.int .i64 1, .string { data := #[108, 115] }, .string { data := #[] }, .slice none 0 0, .slice none 0 0] := by rw [← hW1]; exact Blk.new _ _ _
  obtain ⟨W2, hW2⟩ : ∃ W, World.alloc W1 (.cells #[.slice (some ⟨w.heap.size, 0, none⟩) 1 1] 41) = W := ⟨_, rfl⟩
  have hs2 : W2.heap.size = w.heap.size + 1 + 1 := by rw [← hW2, World.size_alloc, hs1]
  have b1 : Blk W2 (w.heap.size + 1) 41 #[.slice (some ⟨w.heap.size, 0, none⟩) 1 1] := by have h := Blk.new W1 41 #[.slice (some ⟨w.heap.size, 0, none⟩) 1 1]; rw [hW2, hs1] at h; exact h
  replace b0 := b0.alloc (.cells #[.slice (some ⟨w.heap.size, 0, none⟩) 1 1] 41)
  rw [hW2] at b0
  obtain ⟨W3, hW3⟩ : ∃ W, World.alloc W2 (.cells #[.int .i64 5, .string { data := #[121] }, .string { data := #[] }, .slice none 0 0, .slice none 0 0] 52) = W := ⟨_, rfl⟩
  have hs3 : W3.heap.size = w.heap.size + 1 + 1 + 1 := by rw [← hW3, World.size_alloc, hs2]
  have b2 : Blk W3 (w.heap.size + 1 + 1) 52 #[.int .i64 5, .string { data := #[121] }, .string { data := #[] }, .slice none 0 0, .slice none 0 0] := by have h := Blk.new W2 52 #[.int .i64 5, .string { data := #[121] }, .string { data := #[] }, .slice none 0 0, .slice none 0 0]; rw [hW3, hs2] at h; exact h
  replace b0 := b0.alloc (.cells #[.int .i64 5, .string { data := #[121] }, .string { data := #[] }, .slice none 0 0, .slice none 0 0] 52)
  rw [hW3] at b0
  obtain ⟨W4, hW4⟩ : ∃ W, World.alloc W3 (.cells #[.slice (some ⟨w.heap.size + 1 + 1, 0, none⟩) 1 1] 41) = W := ⟨_, rfl⟩
  have hs4 : W4.heap.size = w.heap.size + 1 + 1 + 1 + 1 := by rw [← hW4, World.size_alloc, hs3]
  have b3 : Blk W4 (w.heap.size + 1 + 1 + 1) 41 #[.slice (some ⟨w.heap.size + 1 + 1, 0, none⟩) 1 1] := by have h := Blk.new W3 41 #[.slice (some ⟨w.heap.size + 1 + 1, 0, none⟩) 1 1]; rw [hW4, hs3] at h; exact h
  replace b0 := b0.alloc (.cells #[.slice (some ⟨w.heap.size + 1 + 1, 0, none⟩) 1 1] 41)
  rw [hW4] at b0
  replace b2 := b2.alloc (.cells #[.slice (some ⟨w.heap.size + 1 + 1, 0, none⟩) 1 1] 41)
  rw [hW4] at b2
  obtain ⟨W5, hW5⟩ : ∃ W, World.alloc W4 (.cells #[.int .i64 1, .string { data := #[120, 61, 49] }, .string { data := #[] }, .slice none 0 0, .slice none 0 0] 52) = W := ⟨_, rfl⟩
  have hs5 : W5.heap.size = w.heap.size + 1 + 1 + 1 + 1 + 1 := by rw [← hW5, World.size_alloc, hs4]
  have b4 : Blk W5 (w.heap.size + 1 + 1 + 1 + 1) 52 #[.int .i64 1, .string { data := #[120, 61, 49] }, .string { data := #[] }, .slice none 0 0, .slice none 0 0] := by have h := Blk.new W4 52 #[.int .i64 1, .string { data := #[120, 61, 49] }, .string { data := #[] }, .slice none 0 0, .slice none 0 0]; rw [hW5, hs4] at h; exact h
  replace b0 := b0.alloc (.cells #[.int .i64 1, .string { data := #[120, 61, 49] }, .string { data := #[] }, .slice none 0 0, .slice none 0 0] 52)
  rw [hW5] at b0
  replace b2 := b2.alloc (.cells #[.int .i64 1, .string { data := #[120, 61, 49] }, .string { data := #[] }, .slice none 0 0, .slice none 0 0] 52)
  rw [hW5] at b2
  obtain ⟨W6, hW6⟩ : ∃ W, World.alloc W5 (.cells #[.slice (some ⟨w.heap.size + 1 + 1 + 1 + 1, 0, none⟩) 1 1] 41) = W := ⟨_, rfl⟩
  have hs6 : W6.heap.size = w.heap.size + 1 + 1 + 1 + 1 + 1 + 1 := by rw [← hW6, World.size_alloc, hs5]
  have b5 : Blk W6 (w.heap.size + 1 + 1 + 1 + 1 + 1) 41 #[.slice (some ⟨w.heap.size + 1 + 1 + 1 + 1, 0, none⟩) 1 1] := by have h := Blk.new W5 41 #[.slice (some ⟨w.heap.size + 1 + 1 + 1 + 1, 0, none⟩) 1 1]; rw [hW6, hs5] at h; exact h
  replace b0 := b0.alloc (.cells #[.slice (some ⟨w.heap.size + 1 + 1 + 1 + 1, 0, none⟩) 1 1] 41)
  rw [hW6] at b0
  replace b2 := b2.alloc (.cells #[.slice (some ⟨w.heap.size + 1 + 1 + 1 + 1, 0, none⟩) 1 1] 41)
  rw [hW6] at b2
  replace b4 := b4.alloc (.cells #[.slice (some ⟨w.heap.size + 1 + 1 + 1 + 1, 0, none⟩) 1 1] 41)
  rw [hW6] at b4
  obtain ⟨W7, hW7⟩ : ∃ W, World.alloc W6 (.cells #[.int .i64 1] 3) = W := ⟨_, rfl⟩
  have hs7 : W7.heap.size = w.heap.size + 1 + 1 + 1 + 1 + 1 + 1 + 1 := by rw [← hW7, World.size_alloc, hs6]
  have b6 : Blk W7 (w.heap.size + 1 + 1 + 1 + 1 + 1 + 1) 3 #[.int .i64 1] := by have h := Blk.new W6 3 #[.int .i64 1]; rw [hW7, hs6] at h; exact h
  replace b0 := b0.alloc (.cells #[.int .i64 1] 3)
  rw [hW7] at b0
  replace b2 := b2.alloc (.cells #[.int .i64 1] 3)
  rw [hW7] at b2
  replace b4 := b4.alloc (.cells #[.int .i64 1] 3)
  rw [hW7] at b4
  obtain ⟨W8, hW8⟩ : ∃ W, World.alloc W7 (.cells #[.slice (some ⟨w.heap.size + 1 + 1 + 1 + 1, 0, none⟩) 1 1] 41) = W := ⟨_, rfl⟩
  have hs8 : W8.heap.size = w.heap.size + 1 + 1 + 1 + 1 + 1 + 1 + 1 + 1 := by rw [← hW8, World.size_alloc, hs7]
  have b7 : Blk W8 (w.heap.size + 1 + 1 + 1 + 1 + 1 + 1 + 1) 41 #[.slice (some ⟨w.heap.size + 1 + 1 + 1 + 1, 0, none⟩) 1 1] := by have h := Blk.new W7 41 #[.slice (some ⟨w.heap.size + 1 + 1 + 1 + 1, 0, none⟩) 1 1]; rw [hW8, hs7] at h; exact h
  replace b0 := b0.alloc (.cells #[.slice (some ⟨w.heap.size + 1 + 1 + 1 + 1, 0, none⟩) 1 1] 41)
  rw [hW8] at b0
  replace b2 := b2.alloc (.cells #[.slice (some ⟨w.heap.size + 1 + 1 + 1 + 1, 0, none⟩) 1 1] 41)
  rw [hW8] at b2
  replace b4 := b4.alloc (.cells #[.slice (some ⟨w.heap.size + 1 + 1 + 1 + 1, 0, none⟩) 1 1] 41)
  rw [hW8] at b4
  replace b6 := b6.alloc (.cells #[.slice (some ⟨w.heap.size + 1 + 1 + 1 + 1, 0, none⟩) 1 1] 41)
  rw [hW8] at b6
  obtain ⟨W9, hW9⟩ : ∃ W, World.alloc W8 (.cells #[.slice (some ⟨w.heap.size, 0, none⟩) 1 1, .slice (some ⟨w.heap.size + 1 + 1, 0, none⟩) 1 1] 41) = W := ⟨_, rfl⟩
  have hs9 : W9.heap.size = w.heap.size + 1 + 1 + 1 + 1 + 1 + 1 + 1 + 1 + 1 := by rw [← hW9, World.size_alloc, hs8]
  have b8 : Blk W9 (w.heap.size + 1 + 1 + 1 + 1 + 1 + 1 + 1 + 1) 41 #[.slice (some ⟨w.heap.size, 0, none⟩) 1 1, .slice (some ⟨w.heap.size + 1 + 1, 0, none⟩) 1 1] := by have h := Blk.new W8 41 #[.slice (some ⟨w.heap.size, 0, none⟩) 1 1, .slice (some ⟨w.heap.size + 1 + 1, 0, none⟩) 1 1]; rw [hW9, hs8] at h; exact h
  replace b0 := b0.alloc (.cells #[.slice (some ⟨w.heap.size, 0, none⟩) 1 1, .slice (some ⟨w.heap.size + 1 + 1, 0, none⟩) 1 1] 41)
  rw [hW9] at b0
  replace b2 := b2.alloc (.cells #[.slice (some ⟨w.heap.size, 0, none⟩) 1 1, .slice (some ⟨w.heap.size + 1 + 1, 0, none⟩) 1 1] 41)
  rw [hW9] at b2
  replace b4 := b4.alloc (.cells #[.slice (some ⟨w.heap.size, 0, none⟩) 1 1, .slice (some ⟨w.heap.size + 1 + 1, 0, none⟩) 1 1] 41)
  rw [hW9] at b4
  replace b6 := b6.alloc (.cells #[.slice (some ⟨w.heap.size, 0, none⟩) 1 1, .slice (some ⟨w.heap.size + 1 + 1, 0, none⟩) 1 1] 41)
  rw [hW9] at b6
  replace b7 := b7.alloc (.cells #[.slice (some ⟨w.heap.size, 0, none⟩) 1 1, .slice (some ⟨w.heap.size + 1 + 1, 0, none⟩) 1 1] 41)
  rw [hW9] at b7
  obtain ⟨W10, hW10⟩ : ∃ W, World.alloc W9 (.cells #[.int .i64 4, .string { data := #[] }, .bool false, .bool false, .slice none 0 0, .slice (some ⟨w.heap.size + 1 + 1 + 1 + 1 + 1 + 1 + 1, 0, none⟩) 1 1, .slice (some ⟨w.heap.size + 1 + 1 + 1 + 1 + 1 + 1 + 1 + 1, 0, none⟩) 2 2, .slice none 0 0, .slice none 0 0, .slice none 0 0] 28) = W := ⟨_, rfl⟩
  have hs10 : W10.heap.size = w.heap.size + 1 + 1 + 1 + 1 + 1 + 1 + 1 + 1 + 1 + 1 := by rw [← hW10, World.size_alloc, hs9]
  have b9 : Blk W10 (w.heap.size + 1 + 1 + 1 + 1 + 1 + 1 + 1 + 1 + 1) 28 #[.int .i64 4, .string { data := #[] }, .bool false, .bool false, .slice none 0 0, .slice (some ⟨w.heap.size + 1 + 1 + 1 + 1 + 1 + 1 + 1, 0, none⟩) 1 1, .slice (some ⟨w.heap.size + 1 + 1 + 1 + 1 + 1 + 1 + 1 + 1, 0, none⟩) 2 2, .slice none 0 0, .slice none 0 0, .slice none 0 0] := by have h := Blk.new W9 28 #[.int .i64 4, .string { data := #[] }, .bool false, .bool false, .slice none 0 0, .slice (some ⟨w.heap.size + 1 + 1 + 1 + 1 + 1 + 1 + 1, 0, none⟩) 1 1, .slice (some ⟨w.heap.size + 1 + 1 + 1 + 1 + 1 + 1 + 1 + 1, 0, none⟩) 2 2, .slice none 0 0, .slice none 0 0, .slice none 0 0]; rw [hW10, hs9] at h; exact h
  replace b0 := b0.alloc (.cells #[.int .i64 4, .string { data := #[] }, .bool false, .bool false, .slice none 0 0, .slice (some ⟨w.heap.size + 1 + 1 + 1 + 1 + 1 + 1 + 1, 0, none⟩) 1 1, .slice (some ⟨w.heap.size + 1 + 1 + 1 + 1 + 1 + 1 + 1 + 1, 0, none⟩) 2 2, .slice none 0 0, .slice none 0 0, .slice none 0 0] 28)
  rw [hW10] at b0
  replace b2 := b2.alloc (.cells #[.int .i64 4, .string { data := #[] }, .bool false, .bool false, .slice none 0 0, .slice (some ⟨w.heap.size + 1 + 1 + 1 + 1 + 1 + 1 + 1, 0, none⟩) 1 1, .slice (some ⟨w.heap.size + 1 + 1 + 1 + 1 + 1 + 1 + 1 + 1, 0, none⟩) 2 2, .slice none 0 0, .slice none 0 0, .slice none 0 0] 28)
  rw [hW10] at b2
  replace b4 := b4.alloc (.cells #[.int .i64 4, .string { data := #[] }, .bool false, .bool false, .slice none 0 0, .slice (some ⟨w.heap.size + 1 + 1 + 1 + 1 + 1 + 1 + 1, 0, none⟩) 1 1, .slice (some ⟨w.heap.size + 1 + 1 + 1 + 1 + 1 + 1 + 1 + 1, 0, none⟩) 2 2, .slice none 0 0, .slice none 0 0, .slice none 0 0] 28)
  rw [hW10] at b4
  replace b6 := b6.alloc (.cells #[.int .i64 4, .string { data := #[] }, .bool false, .bool false, .slice none 0 0, .slice (some ⟨w.heap.size + 1 + 1 + 1 + 1 + 1 + 1 + 1, 0, none⟩) 1 1, .slice (some ⟨w.heap.size + 1 + 1 + 1 + 1 + 1 + 1 + 1 + 1, 0, none⟩) 2 2, .slice none 0 0, .slice none 0 0, .slice none 0 0] 28)
  rw [hW10] at b6
  replace b7 := b7.alloc (.cells #[.int .i64 4, .string { data := #[] }, .bool false, .bool false, .slice none 0 0, .slice (some ⟨w.heap.size + 1 + 1 + 1 + 1 + 1 + 1 + 1, 0, none⟩) 1 1, .slice (some ⟨w.heap.size + 1 + 1 + 1 + 1 + 1 + 1 + 1 + 1, 0, none⟩) 2 2, .slice none 0 0, .slice none 0 0, .slice none 0 0] 28)
  rw [hW10] at b7
  replace b8 := b8.alloc (.cells #[.int .i64 4, .string { data := #[] }, .bool false, .bool false, .slice none 0 0, .slice (some ⟨w.heap.size + 1 + 1 + 1 + 1 + 1 + 1 + 1, 0, none⟩) 1 1, .slice (some ⟨w.heap.size + 1 + 1 + 1 + 1 + 1 + 1 + 1 + 1, 0, none⟩) 2 2, .slice none 0 0, .slice none 0 0, .slice none 0 0] 28)
  rw [hW10] at b8
  obtain ⟨W11, hW11⟩ : ∃ W, World.alloc W10 (.cells #[.int .i64 1, .string { data := #[] }, .bool false, .bool false, .slice (some ⟨w.heap.size + 1 + 1 + 1 + 1 + 1 + 1, 0, none⟩) 1 1, .slice none 0 0, .slice none 0 0, .slice none 0 0, .slice none 0 0, .slice (some ⟨w.heap.size + 1 + 1 + 1 + 1 + 1 + 1 + 1 + 1 + 1, 0, none⟩) 1 1] 28) = W := ⟨_, rfl⟩
  have hs11 : W11.heap.size = w.heap.size + 1 + 1 + 1 + 1 + 1 + 1 + 1 + 1 + 1 + 1 + 1 := by rw [← hW11, World.size_alloc, hs10]
  have b10 : Blk W11 (w.heap.size + 1 + 1 + 1 + 1 + 1 + 1 + 1 + 1 + 1 + 1) 28 #[.int .i64 1, .string { data := #[] }, .bool false, .bool false, .slice (some ⟨w.heap.size + 1 + 1 + 1 + 1 + 1 + 1, 0, none⟩) 1 1, .slice none 0 0, .slice none 0 0, .slice none 0 0, .slice none 0 0, .slice (some ⟨w.heap.size + 1 + 1 + 1 + 1 + 1 + 1 + 1 + 1 + 1, 0, none⟩) 1 1] := by have h := Blk.new W10 28 #[.int .i64 1, .string { data := #[] }, .bool false, .bool false, .slice (some ⟨w.heap.size + 1 + 1 + 1 + 1 + 1 + 1, 0, none⟩) 1 1, .slice none 0 0, .slice none 0 0, .slice none 0 0, .slice none 0 0, .slice (some ⟨w.heap.size + 1 + 1 + 1 + 1 + 1 + 1 + 1 + 1 + 1, 0, none⟩) 1 1]; rw [hW11, hs10] at h; exact h
  replace b0 := b0.alloc (.cells #[.int .i64 1, .string { data := #[] }, .bool false, .bool false, .slice (some ⟨w.heap.size + 1 + 1 + 1 + 1 + 1 + 1, 0, none⟩) 1 1, .slice none 0 0, .slice none 0 0, .slice none 0 0, .slice none 0 0, .slice (some ⟨w.heap.size + 1 + 1 + 1 + 1 + 1 + 1 + 1 + 1 + 1, 0, none⟩) 1 1] 28)
  rw [hW11] at b0
  replace b2 := b2.alloc (.cells #[.int .i64 1, .string { data := #[] }, .bool false, .bool false, .slice (some ⟨w.heap.size + 1 + 1 + 1 + 1 + 1 + 1, 0, none⟩) 1 1, .slice none 0 0, .slice none 0 0, .slice none 0 0, .slice none 0 0, .slice (some ⟨w.heap.size + 1 + 1 + 1 + 1 + 1 + 1 + 1 + 1 + 1, 0, none⟩) 1 1] 28)
  rw [hW11] at b2
  replace b4 := b4.alloc (.cells #[.int .i64 1, .string { data := #[] }, .bool false, .bool false, .slice (some ⟨w.heap.size + 1 + 1 + 1 + 1 + 1 + 1, 0, none⟩) 1 1, .slice none 0 0, .slice none 0 0, .slice none 0 0, .slice none 0 0, .slice (some ⟨w.heap.size + 1 + 1 + 1 + 1 + 1 + 1 + 1 + 1 + 1, 0, none⟩) 1 1] 28)
  rw [hW11] at b4
  replace b6 := b6.alloc (.cells #[.int .i64 1, .string { data := #[] }, .bool false, .bool false, .slice (some ⟨w.heap.size + 1 + 1 + 1 + 1 + 1 + 1, 0, none⟩) 1 1, .slice none 0 0, .slice none 0 0, .slice none 0 0, .slice none 0 0, .slice (some ⟨w.heap.size + 1 + 1 + 1 + 1 + 1 + 1 + 1 + 1 + 1, 0, none⟩) 1 1] 28)
  rw [hW11] at b6
  replace b7 := b7.alloc (.cells #[.int .i64 1, .string { data := #[] }, .bool false, .bool false, .slice (some ⟨w.heap.size + 1 + 1 + 1 + 1 + 1 + 1, 0, none⟩) 1 1, .slice none 0 0, .slice none 0 0, .slice none 0 0, .slice none 0 0, .slice (some ⟨w.heap.size + 1 + 1 + 1 + 1 + 1 + 1 + 1 + 1 + 1, 0, none⟩) 1 1] 28)
  rw [hW11] at b7
  replace b8 := b8.alloc (.cells #[.int .i64 1, .string { data := #[] }, .bool false, .bool false, .slice (some ⟨w.heap.size + 1 + 1 + 1 + 1 + 1 + 1, 0, none⟩) 1 1, .slice none 0 0, .slice none 0 0, .slice none 0 0, .slice none 0 0, .slice (some ⟨w.heap.size + 1 + 1 + 1 + 1 + 1 + 1 + 1 + 1 + 1, 0, none⟩) 1 1] 28)
  rw [hW11] at b8
  replace b9 := b9.alloc (.cells #[.int .i64 1, .string { data := #[] }, .bool false, .bool false, .slice (some ⟨w.heap.size + 1 + 1 + 1 + 1 + 1 + 1, 0, none⟩) 1 1, .slice none 0 0, .slice none 0 0, .slice none 0 0, .slice none 0 0, .slice (some ⟨w.heap.size + 1 + 1 + 1 + 1 + 1 + 1 + 1 + 1 + 1, 0, none⟩) 1 1] 28)
  rw [hW11] at b9
  have hbel : Below w.heap.size w W11 := by
    rw [← hW11, ← hW10, ← hW9, ← hW8, ← hW7, ← hW6, ← hW5, ← hW4, ← hW3, ← hW2, ← hW1]
    exact (below_more (below_more (below_more (below_more (below_more (below_more (below_more (below_more (below_more (below_more (below_alloc w _) _) _) _) _) _) _) _) _) _) _)
  have hl := exT_lies (A := fun b => b < W11.heap.size) b4 b0 b2 b6 b7 b8 b9 (fun b hb => hb)
  obtain ⟨t, ht⟩ : ∃ t, exT (.slice (some ⟨w.heap.size + 1 + 1 + 1 + 1 + 1 + 1, 0, none⟩) 1 1) (.slice (some ⟨w.heap.size + 1 + 1 + 1 + 1 + 1 + 1 + 1 + 1 + 1, 0, none⟩) 1 1) (.slice (some ⟨w.heap.size + 1 + 1 + 1 + 1 + 1 + 1 + 1, 0, none⟩) 1 1) (.slice (some ⟨w.heap.size + 1 + 1 + 1 + 1 + 1 + 1 + 1 + 1, 0, none⟩) 2 2) (.slice (some ⟨w.heap.size + 1 + 1 + 1 + 1, 0, none⟩) 1 1) (.slice (some ⟨w.heap.size, 0, none⟩) 1 1) (.slice (some ⟨w.heap.size + 1 + 1, 0, none⟩) 1 1) = t := ⟨_, rfl⟩
  have hsz : t.sz ≤ 1048576 := by rw [← ht]; simp [exT, exN, exS, exA, exB, exC, exW, exP, exI, Tr.sz, szR, szL]
  have hts : t.cs.toArray = #[.int .i64 1, .string { data := #[] }, .bool false, .bool false, .slice (some ⟨w.heap.size + 1 + 1 + 1 + 1 + 1 + 1, 0, none⟩) 1 1, .slice none 0 0, .slice none 0 0, .slice none 0 0, .slice none 0 0, .slice (some ⟨w.heap.size + 1 + 1 + 1 + 1 + 1 + 1 + 1 + 1 + 1, 0, none⟩) 1 1] := by rw [← ht]; rfl
  have hall := all_exT (.slice (some ⟨w.heap.size + 1 + 1 + 1 + 1 + 1 + 1, 0, none⟩) 1 1) (.slice (some ⟨w.heap.size + 1 + 1 + 1 + 1 + 1 + 1 + 1 + 1 + 1, 0, none⟩) 1 1) (.slice (some ⟨w.heap.size + 1 + 1 + 1 + 1 + 1 + 1 + 1, 0, none⟩) 1 1) (.slice (some ⟨w.heap.size + 1 + 1 + 1 + 1 + 1 + 1 + 1 + 1, 0, none⟩) 2 2) (.slice (some ⟨w.heap.size + 1 + 1 + 1 + 1, 0, none⟩) 1 1) (.slice (some ⟨w.heap.size, 0, none⟩) 1 1) (.slice (some ⟨w.heap.size + 1 + 1, 0, none⟩) 1 1)
  have hdp := deep_exT (.slice (some ⟨w.heap.size + 1 + 1 + 1 + 1 + 1 + 1, 0, none⟩) 1 1) (.slice (some ⟨w.heap.size + 1 + 1 + 1 + 1 + 1 + 1 + 1 + 1 + 1, 0, none⟩) 1 1) (.slice (some ⟨w.heap.size + 1 + 1 + 1 + 1 + 1 + 1 + 1, 0, none⟩) 1 1) (.slice (some ⟨w.heap.size + 1 + 1 + 1 + 1 + 1 + 1 + 1 + 1, 0, none⟩) 2 2) (.slice (some ⟨w.heap.size + 1 + 1 + 1 + 1, 0, none⟩) 1 1) (.slice (some ⟨w.heap.size, 0, none⟩) 1 1) (.slice (some ⟨w.heap.size + 1 + 1, 0, none⟩) 1 1)
  have hwd := words_exT (.slice (some ⟨w.heap.size + 1 + 1 + 1 + 1 + 1 + 1, 0, none⟩) 1 1) (.slice (some ⟨w.heap.size + 1 + 1 + 1 + 1 + 1 + 1 + 1 + 1 + 1, 0, none⟩) 1 1) (.slice (some ⟨w.heap.size + 1 + 1 + 1 + 1 + 1 + 1 + 1, 0, none⟩) 1 1) (.slice (some ⟨w.heap.size + 1 + 1 + 1 + 1 + 1 + 1 + 1 + 1, 0, none⟩) 2 2) (.slice (some ⟨w.heap.size + 1 + 1 + 1 + 1, 0, none⟩) 1 1) (.slice (some ⟨w.heap.size, 0, none⟩) 1 1) (.slice (some ⟨w.heap.size + 1 + 1, 0, none⟩) 1 1)
  have hcl := calls_exT (.slice (some ⟨w.heap.size + 1 + 1 + 1 + 1 + 1 + 1, 0, none⟩) 1 1) (.slice (some ⟨w.heap.size + 1 + 1 + 1 + 1 + 1 + 1 + 1 + 1 + 1, 0, none⟩) 1 1) (.slice (some ⟨w.heap.size + 1 + 1 + 1 + 1 + 1 + 1 + 1, 0, none⟩) 1 1) (.slice (some ⟨w.heap.size + 1 + 1 + 1 + 1 + 1 + 1 + 1 + 1, 0, none⟩) 2 2) (.slice (some ⟨w.heap.size + 1 + 1 + 1 + 1, 0, none⟩) 1 1) (.slice (some ⟨w.heap.size, 0, none⟩) 1 1) (.slice (some ⟨w.heap.size + 1 + 1, 0, none⟩) 1 1)
  have hst := sets_exT (.slice (some ⟨w.heap.size + 1 + 1 + 1 + 1 + 1 + 1, 0, none⟩) 1 1) (.slice (some ⟨w.heap.size + 1 + 1 + 1 + 1 + 1 + 1 + 1 + 1 + 1, 0, none⟩) 1 1) (.slice (some ⟨w.heap.size + 1 + 1 + 1 + 1 + 1 + 1 + 1, 0, none⟩) 1 1) (.slice (some ⟨w.heap.size + 1 + 1 + 1 + 1 + 1 + 1 + 1 + 1, 0, none⟩) 2 2) (.slice (some ⟨w.heap.size + 1 + 1 + 1 + 1, 0, none⟩) 1 1) (.slice (some ⟨w.heap.size, 0, none⟩) 1 1) (.slice (some ⟨w.heap.size + 1 + 1, 0, none⟩) 1 1)
  have hrd := reads_exT (.slice (some ⟨w.heap.size + 1 + 1 + 1 + 1 + 1 + 1, 0, none⟩) 1 1) (.slice (some ⟨w.heap.size + 1 + 1 + 1 + 1 + 1 + 1 + 1 + 1 + 1, 0, none⟩) 1 1) (.slice (some ⟨w.heap.size + 1 + 1 + 1 + 1 + 1 + 1 + 1, 0, none⟩) 1 1) (.slice (some ⟨w.heap.size + 1 + 1 + 1 + 1 + 1 + 1 + 1 + 1, 0, none⟩) 2 2) (.slice (some ⟨w.heap.size + 1 + 1 + 1 + 1, 0, none⟩) 1 1) (.slice (some ⟨w.heap.size, 0, none⟩) 1 1) (.slice (some ⟨w.heap.size + 1 + 1, 0, none⟩) 1 1)
  rw [ht] at hl hall hdp hwd hcl hst hrd
  have hA : ∀ y, Below W11.heap.size W11 y → ∀ b, b < W11.heap.size → b < y.heap.size := fun y hy b hb => Nat.lt_of_lt_of_le hb hy.size
  have hlen : ((all t).take (99 : Int).toNat).length = 2 := by rw [hall]; rfl
  have CN := Lib.hid (fun y (hy : Below W11.heap.size W11 y) => nodes_any (most := 99) hsz (hA y hy) (hl.later (fun b hb => hb) hy) (by omega) (by omega))
  have CD := Lib.hid (fun y (hy : Below W11.heap.size W11 y) => deep_any _ t (Nat.le_refl _) hsz _ y (hA y hy) (hl.later (fun b hb => hb) hy))
  have CC := Lib.hid (fun y (hy : Below W11.heap.size W11 y) => fcalls_any hsz (hA y hy) (hl.later (fun b hb => hb) hy))
  have CR := Lib.hid (fun y (hy : Below W11.heap.size W11 y) => reads_any hsz (hA y hy) (hl.later (fun b hb => hb) hy))
  have CS := Lib.hid (fun y (hy : Below W11.heap.size W11 y) => fsets_any hsz (hA y hy) (hl.later (fun b hb => hb) hy))
  have CW := Lib.hid (fun y (hy : Below W11.heap.size W11 y) => words_any hsz (hA y hy) (hl.later (fun b hb => hb) hy))
  rw [hts] at CN CD CC CR CS CW
  rw [hlen] at CN
  rw [hdp] at CD
  rw [hcl] at CC
  rw [hst] at CS
  rw [hrd] at CR
  rw [hwd] at CW
  simp only [List.length_cons, List.length_nil, List.map_cons, List.map_nil, Nat.zero_add] at CC CR CS CW
  generalize ((all t).take (99 : Int).toNat).flatMap Tr.cs = nl at *
  have HBL := Lib.hid hbel
  have HX0 := Lib.hid b10
  have HB0 := Lib.hid (Below.refl W11.heap.size W11)
  have HW1 := Lib.hid hW1
  have HW2 := Lib.hid hW2
  have HW3 := Lib.hid hW3
  have HW4 := Lib.hid hW4
  have HW5 := Lib.hid hW5
  have HW6 := Lib.hid hW6
  have HW7 := Lib.hid hW7
  have HW8 := Lib.hid hW8
  have HW9 := Lib.hid hW9
  have HW10 := Lib.hid hW10
  have HW11 := Lib.hid hW11
  have HZ := Lib.hid hs11
  clear b0 b2 b4 b6 b7 b8 b9 b10 hbel hl ht hsz hts hall hdp hwd hcl hst hrd hA hlen hW1 hs1 hW2 hs2 hW3 hs3 hW4 hs4 hW5 hs5 hW6 hs6 hW7 hs7 hW8 hs8 hW9 hs9 hW10 hs10 hW11 hs11 b1 b3 b5
  go_enter Try.func6, Try.ntmps6
  have c0 := HX0.out.cell 0
  have c1 := HX0.out.cell 1
  have c2 := HX0.out.cell 2
  have c3 := HX0.out.cell 3
  have c4 := HX0.out.cell 4
  have c5 := HX0.out.cell 5
  have c6 := HX0.out.cell 6
  have c7 := HX0.out.cell 7
  have c8 := HX0.out.cell 8
  have c9 := HX0.out.cell 9
  simp at c0 c1 c2 c3 c4 c5 c6 c7 c8 c9
  go_wp2_with fail
  rw [HW1.out, HW2.out, HW3.out, HW4.out, HW5.out, HW6.out, HW7.out, HW8.out, HW9.out, HW10.out, HW11.out]
  refine (CN.out _ HB0.out).mono ?_
  rintro e y1 ⟨o, rfl, A1, k1, rfl, ho, hb⟩
  have HB1 := Lib.hid (HB0.out.trans (hb.mono HB0.out.size))
  have HX1 := Lib.hid (HX0.out.below hb HX0.out.lt)
  clear ho
  clear hb HX0
  clear c0 c1 c2 c3 c4 c5 c6 c7 c8 c9
  have c0 := HX1.out.cell 0
  have c1 := HX1.out.cell 1
  have c2 := HX1.out.cell 2
  have c3 := HX1.out.cell 3
  have c4 := HX1.out.cell 4
  have c5 := HX1.out.cell 5
  have c6 := HX1.out.cell 6
  have c7 := HX1.out.cell 7
  have c8 := HX1.out.cell 8
  have c9 := HX1.out.cell 9
  simp at c0 c1 c2 c3 c4 c5 c6 c7 c8 c9
  go_wp2_with fail
  refine (CD.out _ HB1.out).mono ?_
  rintro e y2 ⟨rfl, hb⟩
  have HB2 := Lib.hid (HB1.out.trans (hb.mono HB1.out.size))
  have HX2 := Lib.hid (HX1.out.below hb HX1.out.lt)
  clear hb HX1
  clear c0 c1 c2 c3 c4 c5 c6 c7 c8 c9
  have c0 := HX2.out.cell 0
  have c1 := HX2.out.cell 1
  have c2 := HX2.out.cell 2
  have c3 := HX2.out.cell 3
  have c4 := HX2.out.cell 4
  have c5 := HX2.out.cell 5
  have c6 := HX2.out.cell 6
  have c7 := HX2.out.cell 7
  have c8 := HX2.out.cell 8
  have c9 := HX2.out.cell 9
  simp at c0 c1 c2 c3 c4 c5 c6 c7 c8 c9
  go_wp2_with fail
  refine (CC.out _ HB2.out).mono ?_
  rintro e y3 ⟨o, rfl, A3, k3, rfl, ho, hb⟩
  have HB3 := Lib.hid (HB2.out.trans (hb.mono HB2.out.size))
  have HX3 := Lib.hid (HX2.out.below hb HX2.out.lt)
  clear ho
  clear hb HX2
  clear c0 c1 c2 c3 c4 c5 c6 c7 c8 c9
  have c0 := HX3.out.cell 0
  have c1 := HX3.out.cell 1
  have c2 := HX3.out.cell 2
  have c3 := HX3.out.cell 3
  have c4 := HX3.out.cell 4
  have c5 := HX3.out.cell 5
  have c6 := HX3.out.cell 6
  have c7 := HX3.out.cell 7
  have c8 := HX3.out.cell 8
  have c9 := HX3.out.cell 9
  simp at c0 c1 c2 c3 c4 c5 c6 c7 c8 c9
  go_wp2_with fail
  refine (CC.out _ HB3.out).mono ?_
  rintro e y4 ⟨o, rfl, A4, k4, rfl, ho, hb⟩
  have HB4 := Lib.hid (HB3.out.trans (hb.mono HB3.out.size))
  have HX4 := Lib.hid (HX3.out.below hb HX3.out.lt)
  obtain ⟨g4, rfl, -, -⟩ : ∃ g, A4 = some ⟨g, 0, none⟩ ∧ y3.heap.size ≤ g ∧ g < y4.heap.size := own_some ho
  have z4 : y4.cell? ⟨g4, 0, none⟩ = some (.string { data := #[108, 115] }) := by have := own_cell ho 0 (by omega); simpa using this
  clear ho
  clear hb HX3
  clear c0 c1 c2 c3 c4 c5 c6 c7 c8 c9
  have c0 := HX4.out.cell 0
  have c1 := HX4.out.cell 1
  have c2 := HX4.out.cell 2
  have c3 := HX4.out.cell 3
  have c4 := HX4.out.cell 4
  have c5 := HX4.out.cell 5
  have c6 := HX4.out.cell 6
  have c7 := HX4.out.cell 7
  have c8 := HX4.out.cell 8
  have c9 := HX4.out.cell 9
  simp at c0 c1 c2 c3 c4 c5 c6 c7 c8 c9
  go_wp2_with fail
  refine (CR.out _ HB4.out).mono ?_
  rintro e y5 ⟨o, rfl, A5, k5, rfl, ho, hb⟩
  have HB5 := Lib.hid (HB4.out.trans (hb.mono HB4.out.size))
  have HX5 := Lib.hid (HX4.out.below hb HX4.out.lt)
  obtain ⟨g5, rfl, -, -⟩ : ∃ g, A5 = some ⟨g, 0, none⟩ ∧ y4.heap.size ≤ g ∧ g < y5.heap.size := own_some ho
  have z5 : y5.cell? ⟨g5, 0, none⟩ = some (.string { data := #[121] }) := by have := own_cell ho 0 (by omega); simpa using this
  clear ho
  clear hb HX4
  clear c0 c1 c2 c3 c4 c5 c6 c7 c8 c9
  have c0 := HX5.out.cell 0
  have c1 := HX5.out.cell 1
  have c2 := HX5.out.cell 2
  have c3 := HX5.out.cell 3
  have c4 := HX5.out.cell 4
  have c5 := HX5.out.cell 5
  have c6 := HX5.out.cell 6
  have c7 := HX5.out.cell 7
  have c8 := HX5.out.cell 8
  have c9 := HX5.out.cell 9
  simp at c0 c1 c2 c3 c4 c5 c6 c7 c8 c9
  go_wp2_with fail
  refine (CS.out _ HB5.out).mono ?_
  rintro e y6 ⟨o, rfl, A6, k6, rfl, ho, hb⟩
  have HB6 := Lib.hid (HB5.out.trans (hb.mono HB5.out.size))
  have HX6 := Lib.hid (HX5.out.below hb HX5.out.lt)
  obtain ⟨g6, rfl, -, -⟩ : ∃ g, A6 = some ⟨g, 0, none⟩ ∧ y5.heap.size ≤ g ∧ g < y6.heap.size := own_some ho
  have z6 : y6.cell? ⟨g6, 0, none⟩ = some (.string { data := #[120] }) := by have := own_cell ho 0 (by omega); simpa using this
  clear ho
  clear hb HX5
  clear c0 c1 c2 c3 c4 c5 c6 c7 c8 c9
  have c0 := HX6.out.cell 0
  have c1 := HX6.out.cell 1
  have c2 := HX6.out.cell 2
  have c3 := HX6.out.cell 3
  have c4 := HX6.out.cell 4
  have c5 := HX6.out.cell 5
  have c6 := HX6.out.cell 6
  have c7 := HX6.out.cell 7
  have c8 := HX6.out.cell 8
  have c9 := HX6.out.cell 9
  simp at c0 c1 c2 c3 c4 c5 c6 c7 c8 c9
  go_wp2_with fail
  refine (CW.out _ HB6.out).mono ?_
  rintro e y7 ⟨o, rfl, A7, k7, rfl, ho, hb⟩
  have HB7 := Lib.hid (HB6.out.trans (hb.mono HB6.out.size))
  have HX7 := Lib.hid (HX6.out.below hb HX6.out.lt)
  clear ho
  clear hb HX6
  clear c0 c1 c2 c3 c4 c5 c6 c7 c8 c9
  have c0 := HX7.out.cell 0
  have c1 := HX7.out.cell 1
  have c2 := HX7.out.cell 2
  have c3 := HX7.out.cell 3
  have c4 := HX7.out.cell 4
  have c5 := HX7.out.cell 5
  have c6 := HX7.out.cell 6
  have c7 := HX7.out.cell 7
  have c8 := HX7.out.cell 8
  have c9 := HX7.out.cell 9
  simp at c0 c1 c2 c3 c4 c5 c6 c7 c8 c9
  go_wp2
  go_ret
  exact ⟨rfl, HBL.out.trans (HB7.out.mono HBL.out.size)⟩
end Go.Proofs.Ytpjcmhlgdgadjaa

namespace Go.Proofs.Ytpjcmhlgdgadjaa
open Go.ChangeShapes Go.WideShapes Go.ChangeAt Go.RowKit Go.Deep
set_option linter.unusedVariables false
set_option linter.unusedSimpArgs false
theorem Try.cells_part : Try.prog.cellsOf 52 = 5 := by kernel_rfl
theorem Try.cells_word : Try.prog.cellsOf 41 = 1 := by kernel_rfl
theorem Try.cells_redir : Try.prog.cellsOf 47 = 4 := by kernel_rfl
theorem Try.cells_arm : Try.prog.cellsOf 50 = 11 := by kernel_rfl
theorem Try.cells_node : Try.prog.cellsOf 28 = 10 := by kernel_rfl
theorem Try.cells_int : Try.prog.cellsOf 3 = 1 := by kernel_rfl
theorem Try.cells_string : Try.prog.cellsOf 9 = 1 := by kernel_rfl
theorem Try.cells_bool : Try.prog.cellsOf 4 = 1 := by kernel_rfl
theorem Try.cells_parts : Try.prog.cellsOf 39 = 1 := by kernel_rfl
theorem Try.cells_words : Try.prog.cellsOf 23 = 1 := by kernel_rfl
theorem Try.cells_redirs : Try.prog.cellsOf 24 = 1 := by kernel_rfl
theorem Try.cells_arms : Try.prog.cellsOf 25 = 1 := by kernel_rfl
theorem Try.cells_rnodes : Try.prog.cellsOf 26 = 1 := by kernel_rfl
theorem Try.cells_ints : Try.prog.cellsOf 22 = 1 := by kernel_rfl
theorem cell_spot {w : World} {p : Addr} {v : Value} (h : w.cell? p = some v) : p.spot = none := by
  unfold World.cell? at h
  split at h
  · split at h
    · cases h
    · rename_i hs; cases hh : p.spot with
      | none => rfl
      | some x => rw [hh] at hs; exact absurd rfl hs
  · cases h
theorem add_zero' (a : Addr) : a.add 0 = a := by unfold Addr.add; rw [if_pos rfl]
theorem add_none {a : Addr} (h : a.spot = none) (i : Nat) : a.add i = ⟨a.block, a.off + i, none⟩ := by
  obtain ⟨b, o, s⟩ := a
  dsimp only at h
  subst h
  unfold Addr.add
  split
  · rename_i h0; simp_all
  · rfl
section
variable {H : Type}
theorem bulk_one (d : DataW H) : 1 ≤ Rows.uptoBulk d := by
  cases d with
  | lit l => cases l <;> simp [Rows.uptoBulk]
  | nil => simp [Rows.uptoBulk]
  | ptr d => simp [Rows.uptoBulk]
  | slice elems spare => simp [Rows.uptoBulk]
  | agg parts => simp [Rows.uptoBulk]
  | iface t d => simp [Rows.uptoBulk]
  | map entries => simp [Rows.uptoBulk]
  | held h => simp [Rows.uptoBulk]
theorem bulk_range (f : Nat → Tr) (D : Nat → DataW H) (L : List Nat) (h : ∀ i ∈ L, (f i).sz ≤ Rows.uptoBulk (D i)) : szL (L.map f) ≤ Rows.uptoBulkAll (L.map D) := by
  induction L with
  | nil => simp [szL, Rows.uptoBulkAll]
  | cons i L ih =>
    have h1 := h i (by simp)
    have h2 := ih (fun j hj => h j (List.mem_cons_of_mem _ hj))
    simp only [List.map_cons, szL, Rows.uptoBulkAll]
    omega
theorem bulk_at (D : Nat → DataW H) (n i : Nat) (h : i < n) : Rows.uptoBulk (D i) ≤ Rows.uptoBulkAll ((List.range n).map D) := by
  have : ∀ L : List Nat, i ∈ L → Rows.uptoBulk (D i) ≤ Rows.uptoBulkAll (L.map D) := by
    intro L
    induction L with
    | nil => intro h; cases h
    | cons j L ih =>
      intro hm
      simp only [List.map_cons, Rows.uptoBulkAll]
      rcases List.mem_cons.1 hm with rfl | hm
      · omega
      · have := ih hm; omega
  exact this _ (List.mem_range.2 h)
/-- The blocks there are. -/
def Here (w : World) : Nat → Prop := fun b => b < w.heap.size
/-- Elements of this type, of this bulk at most, are trees that lie. -/
def ReadEl (enc : TypeId × Value → H) (w : World) (ty : Ty) (e : TypeId) (N : Nat) : Prop := ∀ (fuel : Nat) (cs : List Value) (x : DataW H × List MemPlace), Rows.uptoBulk x.1 ≤ N →
    DataW.trod enc Try.prog w 0 (fun _ => true) true fuel e cs = some x → ∃ t, t.cs = cs ∧ Lies (Here w) w ty t ∧ t.sz ≤ Rows.uptoBulk x.1
def ReadRow (enc : TypeId × Value → H) (w : World) (ty : Ty) (r : TypeId) (m N : Nat) : Prop := ∀ (fuel : Nat) (cs : List Value) (x : DataW H × List MemPlace), Rows.uptoBulk x.1 ≤ N →
    DataW.trod enc Try.prog w 0 (fun _ => true) true fuel r cs = some x → ∃ v l, cs = [v] ∧ RowAt (Here w) w m v l ∧ (∀ x ∈ l, Lies (Here w) w ty x) ∧ szL l + 1 ≤ Rows.uptoBulk x.1
theorem read_row {enc : TypeId × Value → H} {w : World} {ty : Ty} {e r : TypeId} {m N : Nat} (hu : Try.prog.underlying r = some (.slice e)) (hc : Try.prog.cellsOf e = m) (hm0 : 0 < m) (hfm : ty.flds.length = m) (hN : N ≤ 1048576) (hel : ReadEl enc w ty e N) : ReadRow enc w ty r m N := by
  intro fuel cs x hx h
  rcases open_slice hu h with ⟨rfl, rfl⟩ | ⟨a, len, cap, k, n, D, Pl, rfl, hb, hl, hm, hmm, rfl, hi⟩
  · exact ⟨_, [], rfl, RowAt.nil _, fun x hx => (by cases hx), by simp [szL, Rows.uptoBulk]⟩
  · have hmm2 : k = cap := by rw [hmm]; simp
    simp only [Rows.uptoBulk] at hx ⊢
    by_cases hlen : len = 0
    · subst hlen
      exact ⟨_, [], rfl, ⟨by simp, some a, cap, rfl, fun e => (by cases e), by simp, hm, fun k x hx => by cases hx⟩, fun x hx => (by cases hx), by simp [szL]⟩
    have hsp : a.spot = none := by
      obtain ⟨cs0, hc0, _⟩ := hi 0 (by omega)
      rw [hc, Nat.zero_mul] at hc0
      obtain ⟨_, hl0, hcell0⟩ := World.cells?_some hc0
      have h0 := hcell0 0 (by omega)
      rw [add_zero', add_zero', List.getElem?_eq_getElem (by omega)] at h0
      exact cell_spot h0
    have hex : ∀ i, i < len → ∃ t : Tr, a.block < w.heap.size ∧ (∀ j, j < m → w.cell? ⟨a.block, a.off + i * m + j, none⟩ = t.cs[j]?) ∧ Lies (Here w) w ty t ∧ t.sz ≤ Rows.uptoBulk (D i) := by
      intro i hil
      have hbi := bulk_at D len i hil
      obtain ⟨cs', hc', ht⟩ := hi i (by omega)
      rw [hc] at hc'
      obtain ⟨_, hlen', hcell⟩ := World.cells?_some hc'
      obtain ⟨t, rfl, h1, h2⟩ := hel n cs' (D i, Pl i) (by show Rows.uptoBulk (D i) ≤ N; omega) ht
      have hs2 : (a.add (i * m)).spot = none := by rw [add_none hsp]
      have hq : ∀ j, j < m → w.cell? ⟨a.block, a.off + i * m + j, none⟩ = t.cs[j]? := fun j hj => by
        have := hcell j hj
        rw [add_none hs2, add_none hsp] at this
        exact this
      have q0 := hq 0 hm0
      rw [List.getElem?_eq_getElem (by omega)] at q0
      have hlt := World.block_lt_of_cell? w _ q0
      exact ⟨t, hlt, hq, h1, h2⟩
    let f : Nat → Tr := fun i => if h : i < len then Classical.choose (hex i h) else .mk [] []
    have hf : ∀ i, i < len → a.block < w.heap.size ∧ (∀ j, j < m → w.cell? ⟨a.block, a.off + i * m + j, none⟩ = (f i).cs[j]?) ∧ Lies (Here w) w ty (f i) ∧ (f i).sz ≤ Rows.uptoBulk (D i) := fun i h => by
      have e : f i = Classical.choose (hex i h) := dif_pos h
      rw [e]
      exact Classical.choose_spec (hex i h)
    have hsum := bulk_range f D (List.range len) (fun i hi => (hf i (List.mem_range.1 hi)).2.2.2)
    have hll : ((List.range len).map f).length = len := by simp
    have hsl := szL_len ((List.range len).map f)
    have ha : a = ⟨a.block, a.off, none⟩ := by rw [← hsp]
    refine ⟨_, (List.range len).map f, rfl, ⟨by omega, some a, cap, by rw [hll], fun e => (by cases e), by omega, hm, fun k x hx => ?_⟩, fun x hx => ?_, by omega⟩
    · have hk : k < len := by
        have := (List.getElem?_eq_some_iff.1 hx).1
        omega
      have hx2 : f k = x := by
        have := hx
        rw [List.getElem?_map, List.getElem?_range hk] at this
        simpa using this
      subst hx2
      exact ⟨a.block, a.off, by rw [← ha], (hf k hk).1, (hf k hk).1, (hf k hk).2.1⟩
    · obtain ⟨i, hi, rfl⟩ := List.mem_map.1 hx
      exact (hf i (List.mem_range.1 hi)).2.2.1
theorem int_range {k : Int} (h : (Lit.int .i64 k).wf = true) : -9223372036854775808 ≤ k ∧ k ≤ 9223372036854775807 := by
  have e1 : IntKind.i64.min = -9223372036854775808 := rfl
  have e2 : IntKind.i64.max = 9223372036854775807 := rfl
  simp [Lit.wf, e1, e2] at h
  omega
theorem read_ints {enc : TypeId × Value → H} {w : World} (N : Nat) : ReadEl enc w .ints 3 N := by
  intro fuel cs x hx h
  obtain ⟨K, rfl, he, hw⟩ := DataW.trod_int Try.underlying3 h
  obtain ⟨h1, h2⟩ := int_range hw
  exact ⟨.mk [.int .i64 K] [[]], rfl, .mkInt h1 h2, by rw [he]; simp [Tr.sz, szR, szL, Rows.uptoBulk]⟩
/-- All of it, of this bulk at most. -/
def ReadAll (enc : TypeId × Value → H) (w : World) (N : Nat) : Prop := ReadEl enc w .part 52 N ∧ ReadEl enc w .word 41 N ∧ ReadEl enc w .redir 47 N ∧ ReadEl enc w .arm 50 N ∧ ReadEl enc w .node 28 N
set_option maxRecDepth 100000 in
theorem read_part {enc : TypeId × Value → H} {w : World} {N : Nat} (hN : N + 1 ≤ 1048576) (ih : ReadAll enc w N) : ReadEl enc w .part 52 (N + 1) := by
  obtain ⟨ihP, ihW, ihR, ihA, ihN⟩ := ih
  have rP : ReadRow enc w .part 39 5 N := read_row Try.underlying39 Try.cells_part (by omega) rfl (by omega) ihP
  have rW : ReadRow enc w .word 23 1 N := read_row Try.underlying23 Try.cells_word (by omega) rfl (by omega) ihW
  have rR : ReadRow enc w .redir 24 4 N := read_row Try.underlying24 Try.cells_redir (by omega) rfl (by omega) ihR
  have rA : ReadRow enc w .arm 25 11 N := read_row Try.underlying25 Try.cells_arm (by omega) rfl (by omega) ihA
  have rN : ReadRow enc w .node 26 10 N := read_row Try.underlying26 Try.cells_node (by omega) rfl (by omega) ihN
  have rI : ReadRow enc w .ints 22 1 N := read_row Try.underlying22 Try.cells_int (by omega) rfl (by omega) (read_ints N)
  intro fuel cs x hx h
  obtain ⟨xs, n', _, hD, hcl, hxl, hfl⟩ := DataW.trod_struct Try.underlying52 h
  rw [Try.cells_part] at hcl
  match cs, hcl with
  | [v0, v1, v2, v3, v4], _ =>
    have z0 := hfl 0 _ rfl
    have z1 := hfl 1 _ rfl
    have z2 := hfl 2 _ rfl
    have z3 := hfl 3 _ rfl
    have z4 := hfl 4 _ rfl
    obtain ⟨y0, y1, y2, y3, y4, rfl⟩ : ∃ y0 y1 y2 y3 y4, xs = [y0, y1, y2, y3, y4] := by
      match xs, hxl with
      | [y0, y1, y2, y3, y4], _ => exact ⟨_, _, _, _, _, rfl⟩
    simp only [List.getElem_toArray, List.getElem_cons_zero, List.getElem_cons_succ, Try.cells_part, Try.cells_word, Try.cells_redir, Try.cells_arm, Try.cells_node, Try.cells_int, Try.cells_string, Try.cells_bool, Try.cells_parts, Try.cells_words, Try.cells_redirs, Try.cells_arms, Try.cells_rnodes, Try.cells_ints, List.drop_zero, List.take_succ_cons, List.take_zero, List.drop_succ_cons, List.getElem?_cons_zero, List.getElem?_cons_succ] at z0 z1 z2 z3 z4
    have hDi : x.1 = .agg [y0.1, y1.1, y2.1, y3.1, y4.1] := by have := congrArg Prod.fst hD; simpa using this
    rw [hDi] at hx ⊢
    simp only [Rows.uptoBulk, Rows.uptoBulkAll] at hx ⊢
    have p0 := bulk_one y0.1
    have p1 := bulk_one y1.1
    have p2 := bulk_one y2.1
    have p3 := bulk_one y3.1
    have p4 := bulk_one y4.1
    obtain ⟨K, hK, hy0, hw0⟩ := DataW.trod_int Try.underlying3 z0
    obtain ⟨tx, htx, hy1, _⟩ := DataW.trod_string Try.underlying9 z1
    obtain ⟨op, hop, hy2, _⟩ := DataW.trod_string Try.underlying9 z2
    obtain ⟨v, l, he3, h3, k3, b3⟩ := rP _ _ _ (by omega) z3
    obtain ⟨v', l', he4, h4, k4, b4⟩ := rN _ _ _ (by omega) z4
    obtain ⟨i1, i2⟩ := int_range hw0
    rw [hy0, hy1, hy2] at hx ⊢
    simp only [Rows.uptoBulk, Array.length_toList] at hx ⊢
    simp only [List.cons.injEq, and_true] at hK htx hop he3 he4
    subst hK htx hop he3 he4
    have hts : tx.data.size = tx.size := rfl
    have hos : op.data.size = op.size := rfl
    exact ⟨_, rfl, .mkPart i1 i2 (by omega) (by omega) h3 h4 k3 k4, by simp only [Tr.sz, szR, szL]; omega⟩
set_option maxRecDepth 100000 in
theorem read_word {enc : TypeId × Value → H} {w : World} {N : Nat} (hN : N + 1 ≤ 1048576) (ih : ReadAll enc w N) : ReadEl enc w .word 41 (N + 1) := by
  obtain ⟨ihP, ihW, ihR, ihA, ihN⟩ := ih
  have rP : ReadRow enc w .part 39 5 N := read_row Try.underlying39 Try.cells_part (by omega) rfl (by omega) ihP
  have rW : ReadRow enc w .word 23 1 N := read_row Try.underlying23 Try.cells_word (by omega) rfl (by omega) ihW
  have rR : ReadRow enc w .redir 24 4 N := read_row Try.underlying24 Try.cells_redir (by omega) rfl (by omega) ihR
  have rA : ReadRow enc w .arm 25 11 N := read_row Try.underlying25 Try.cells_arm (by omega) rfl (by omega) ihA
  have rN : ReadRow enc w .node 26 10 N := read_row Try.underlying26 Try.cells_node (by omega) rfl (by omega) ihN
  have rI : ReadRow enc w .ints 22 1 N := read_row Try.underlying22 Try.cells_int (by omega) rfl (by omega) (read_ints N)
  intro fuel cs x hx h
  obtain ⟨xs, n', _, hD, hcl, hxl, hfl⟩ := DataW.trod_struct Try.underlying41 h
  rw [Try.cells_word] at hcl
  match cs, hcl with
  | [v0], _ =>
    have z0 := hfl 0 _ rfl
    obtain ⟨y0, rfl⟩ : ∃ y0, xs = [y0] := by
      match xs, hxl with
      | [y0], _ => exact ⟨_, rfl⟩
    simp only [List.getElem_toArray, List.getElem_cons_zero, List.getElem_cons_succ, Try.cells_part, Try.cells_word, Try.cells_redir, Try.cells_arm, Try.cells_node, Try.cells_int, Try.cells_string, Try.cells_bool, Try.cells_parts, Try.cells_words, Try.cells_redirs, Try.cells_arms, Try.cells_rnodes, Try.cells_ints, List.drop_zero, List.take_succ_cons, List.take_zero, List.drop_succ_cons, List.getElem?_cons_zero, List.getElem?_cons_succ] at z0
    have hDi : x.1 = .agg [y0.1] := by have := congrArg Prod.fst hD; simpa using this
    rw [hDi] at hx ⊢
    simp only [Rows.uptoBulk, Rows.uptoBulkAll] at hx ⊢
    have p0 := bulk_one y0.1
    obtain ⟨v, l, he3, h3, k3, b3⟩ := rP _ _ _ (by omega) z0
    simp only [List.cons.injEq, and_true] at he3
    subst he3
    exact ⟨_, rfl, .mkWord h3 k3, by simp only [Tr.sz, szR, szL]; omega⟩
set_option maxRecDepth 100000 in
theorem read_redir {enc : TypeId × Value → H} {w : World} {N : Nat} (hN : N + 1 ≤ 1048576) (ih : ReadAll enc w N) : ReadEl enc w .redir 47 (N + 1) := by
  obtain ⟨ihP, ihW, ihR, ihA, ihN⟩ := ih
  have rP : ReadRow enc w .part 39 5 N := read_row Try.underlying39 Try.cells_part (by omega) rfl (by omega) ihP
  have rW : ReadRow enc w .word 23 1 N := read_row Try.underlying23 Try.cells_word (by omega) rfl (by omega) ihW
  have rR : ReadRow enc w .redir 24 4 N := read_row Try.underlying24 Try.cells_redir (by omega) rfl (by omega) ihR
  have rA : ReadRow enc w .arm 25 11 N := read_row Try.underlying25 Try.cells_arm (by omega) rfl (by omega) ihA
  have rN : ReadRow enc w .node 26 10 N := read_row Try.underlying26 Try.cells_node (by omega) rfl (by omega) ihN
  have rI : ReadRow enc w .ints 22 1 N := read_row Try.underlying22 Try.cells_int (by omega) rfl (by omega) (read_ints N)
  intro fuel cs x hx h
  obtain ⟨xs, n', _, hD, hcl, hxl, hfl⟩ := DataW.trod_struct Try.underlying47 h
  rw [Try.cells_redir] at hcl
  match cs, hcl with
  | [v0, v1, v2, v3], _ =>
    have z0 := hfl 0 _ rfl
    have z1 := hfl 1 _ rfl
    have z2 := hfl 2 _ rfl
    have z3 := hfl 3 _ rfl
    obtain ⟨y0, y1, y2, y3, rfl⟩ : ∃ y0 y1 y2 y3, xs = [y0, y1, y2, y3] := by
      match xs, hxl with
      | [y0, y1, y2, y3], _ => exact ⟨_, _, _, _, rfl⟩
    simp only [List.getElem_toArray, List.getElem_cons_zero, List.getElem_cons_succ, Try.cells_part, Try.cells_word, Try.cells_redir, Try.cells_arm, Try.cells_node, Try.cells_int, Try.cells_string, Try.cells_bool, Try.cells_parts, Try.cells_words, Try.cells_redirs, Try.cells_arms, Try.cells_rnodes, Try.cells_ints, List.drop_zero, List.take_succ_cons, List.take_zero, List.drop_succ_cons, List.getElem?_cons_zero, List.getElem?_cons_succ] at z0 z1 z2 z3
    have hDi : x.1 = .agg [y0.1, y1.1, y2.1, y3.1] := by have := congrArg Prod.fst hD; simpa using this
    rw [hDi] at hx ⊢
    simp only [Rows.uptoBulk, Rows.uptoBulkAll] at hx ⊢
    have p0 := bulk_one y0.1
    have p1 := bulk_one y1.1
    have p2 := bulk_one y2.1
    have p3 := bulk_one y3.1
    obtain ⟨tx, htx, hy0, _⟩ := DataW.trod_string Try.underlying9 z0
    obtain ⟨K, hK, hy1, hw0⟩ := DataW.trod_int Try.underlying3 z1
    obtain ⟨t, he2, l2, b2⟩ := ihW _ _ _ (by omega) z2
    obtain ⟨op, hop, hy3, _⟩ := DataW.trod_string Try.underlying9 z3
    obtain ⟨i1, i2⟩ := int_range hw0
    rw [hy0, hy1, hy3] at hx ⊢
    simp only [Rows.uptoBulk, Array.length_toList] at hx ⊢
    obtain ⟨pa, pc, ps, rfl, h3, k3⟩ := l2.word
    simp only [Tr.cs, List.cons.injEq, and_true] at hK htx hop he2
    subst hK htx hop he2
    have hts : tx.data.size = tx.size := rfl
    have hos : op.data.size = op.size := rfl
    simp only [Tr.sz, szR] at b2
    exact ⟨_, rfl, .mkRedir (by omega) i1 i2 (by omega) h3 k3, by simp only [Tr.sz, szR, szL]; omega⟩
set_option maxRecDepth 100000 in
theorem read_arm {enc : TypeId × Value → H} {w : World} {N : Nat} (hN : N + 1 ≤ 1048576) (ih : ReadAll enc w N) : ReadEl enc w .arm 50 (N + 1) := by
  obtain ⟨ihP, ihW, ihR, ihA, ihN⟩ := ih
  have rP : ReadRow enc w .part 39 5 N := read_row Try.underlying39 Try.cells_part (by omega) rfl (by omega) ihP
  have rW : ReadRow enc w .word 23 1 N := read_row Try.underlying23 Try.cells_word (by omega) rfl (by omega) ihW
  have rR : ReadRow enc w .redir 24 4 N := read_row Try.underlying24 Try.cells_redir (by omega) rfl (by omega) ihR
  have rA : ReadRow enc w .arm 25 11 N := read_row Try.underlying25 Try.cells_arm (by omega) rfl (by omega) ihA
  have rN : ReadRow enc w .node 26 10 N := read_row Try.underlying26 Try.cells_node (by omega) rfl (by omega) ihN
  have rI : ReadRow enc w .ints 22 1 N := read_row Try.underlying22 Try.cells_int (by omega) rfl (by omega) (read_ints N)
  intro fuel cs x hx h
  obtain ⟨xs, n', _, hD, hcl, hxl, hfl⟩ := DataW.trod_struct Try.underlying50 h
  rw [Try.cells_arm] at hcl
  match cs, hcl with
  | [v0, v1, v2, v3, v4, v5, v6, v7, v8, v9, v10], _ =>
    have z0 := hfl 0 _ rfl
    have z1 := hfl 1 _ rfl
    obtain ⟨y0, y1, rfl⟩ : ∃ y0 y1, xs = [y0, y1] := by
      match xs, hxl with
      | [y0, y1], _ => exact ⟨_, _, rfl⟩
    simp only [List.getElem_toArray, List.getElem_cons_zero, List.getElem_cons_succ, Try.cells_part, Try.cells_word, Try.cells_redir, Try.cells_arm, Try.cells_node, Try.cells_int, Try.cells_string, Try.cells_bool, Try.cells_parts, Try.cells_words, Try.cells_redirs, Try.cells_arms, Try.cells_rnodes, Try.cells_ints, List.drop_zero, List.take_succ_cons, List.take_zero, List.drop_succ_cons, List.getElem?_cons_zero, List.getElem?_cons_succ] at z0 z1
    have hDi : x.1 = .agg [y0.1, y1.1] := by have := congrArg Prod.fst hD; simpa using this
    rw [hDi] at hx ⊢
    simp only [Rows.uptoBulk, Rows.uptoBulkAll] at hx ⊢
    have p0 := bulk_one y0.1
    have p1 := bulk_one y1.1
    obtain ⟨v, l, he3, h3, k3, b3⟩ := rW _ _ _ (by omega) z0
    obtain ⟨t, he2, l2, b2⟩ := ihN _ _ _ (by omega) z1
    obtain ⟨cs', rows⟩ := t
    simp only [List.cons.injEq, and_true] at he3
    subst he3
    have he : cs' = _ := he2
    subst he
    simp only [Tr.sz] at b2
    exact ⟨_, rfl, .mkArm h3 k3 l2, by simp only [Tr.sz, szR]; omega⟩
set_option maxRecDepth 100000 in
theorem read_node {enc : TypeId × Value → H} {w : World} {N : Nat} (hN : N + 1 ≤ 1048576) (ih : ReadAll enc w N) : ReadEl enc w .node 28 (N + 1) := by
  obtain ⟨ihP, ihW, ihR, ihA, ihN⟩ := ih
  have rP : ReadRow enc w .part 39 5 N := read_row Try.underlying39 Try.cells_part (by omega) rfl (by omega) ihP
  have rW : ReadRow enc w .word 23 1 N := read_row Try.underlying23 Try.cells_word (by omega) rfl (by omega) ihW
  have rR : ReadRow enc w .redir 24 4 N := read_row Try.underlying24 Try.cells_redir (by omega) rfl (by omega) ihR
  have rA : ReadRow enc w .arm 25 11 N := read_row Try.underlying25 Try.cells_arm (by omega) rfl (by omega) ihA
  have rN : ReadRow enc w .node 26 10 N := read_row Try.underlying26 Try.cells_node (by omega) rfl (by omega) ihN
  have rI : ReadRow enc w .ints 22 1 N := read_row Try.underlying22 Try.cells_int (by omega) rfl (by omega) (read_ints N)
  intro fuel cs x hx h
  obtain ⟨xs, n', _, hD, hcl, hxl, hfl⟩ := DataW.trod_struct Try.underlying28 h
  rw [Try.cells_node] at hcl
  match cs, hcl with
  | [v0, v1, v2, v3, v4, v5, v6, v7, v8, v9], _ =>
    have z0 := hfl 0 _ rfl
    have z1 := hfl 1 _ rfl
    have z2 := hfl 2 _ rfl
    have z3 := hfl 3 _ rfl
    have z4 := hfl 4 _ rfl
    have z5 := hfl 5 _ rfl
    have z6 := hfl 6 _ rfl
    have z7 := hfl 7 _ rfl
    have z8 := hfl 8 _ rfl
    have z9 := hfl 9 _ rfl
    obtain ⟨y0, y1, y2, y3, y4, y5, y6, y7, y8, y9, rfl⟩ : ∃ y0 y1 y2 y3 y4 y5 y6 y7 y8 y9, xs = [y0, y1, y2, y3, y4, y5, y6, y7, y8, y9] := by
      match xs, hxl with
      | [y0, y1, y2, y3, y4, y5, y6, y7, y8, y9], _ => exact ⟨_, _, _, _, _, _, _, _, _, _, rfl⟩
    simp only [List.getElem_toArray, List.getElem_cons_zero, List.getElem_cons_succ, Try.cells_part, Try.cells_word, Try.cells_redir, Try.cells_arm, Try.cells_node, Try.cells_int, Try.cells_string, Try.cells_bool, Try.cells_parts, Try.cells_words, Try.cells_redirs, Try.cells_arms, Try.cells_rnodes, Try.cells_ints, List.drop_zero, List.take_succ_cons, List.take_zero, List.drop_succ_cons, List.getElem?_cons_zero, List.getElem?_cons_succ] at z0 z1 z2 z3 z4 z5 z6 z7 z8 z9
    have hDi : x.1 = .agg [y0.1, y1.1, y2.1, y3.1, y4.1, y5.1, y6.1, y7.1, y8.1, y9.1] := by have := congrArg Prod.fst hD; simpa using this
    rw [hDi] at hx ⊢
    simp only [Rows.uptoBulk, Rows.uptoBulkAll] at hx ⊢
    have p0 := bulk_one y0.1
    have p1 := bulk_one y1.1
    have p2 := bulk_one y2.1
    have p3 := bulk_one y3.1
    have p4 := bulk_one y4.1
    have p5 := bulk_one y5.1
    have p6 := bulk_one y6.1
    have p7 := bulk_one y7.1
    have p8 := bulk_one y8.1
    have p9 := bulk_one y9.1
    obtain ⟨K, hK, hy0, hw0⟩ := DataW.trod_int Try.underlying3 z0
    obtain ⟨tx, htx, hy1, _⟩ := DataW.trod_string Try.underlying9 z1
    obtain ⟨c1, hc1, hy2⟩ := DataW.trod_bool Try.underlying4 z2
    obtain ⟨c2, hc2, hy3⟩ := DataW.trod_bool Try.underlying4 z3
    obtain ⟨u4, l4, he4, h4, k4, b4⟩ := rI _ _ _ (by omega) z4
    obtain ⟨u5, l5, he5, h5, k5, b5⟩ := rW _ _ _ (by omega) z5
    obtain ⟨u6, l6, he6, h6, k6, b6⟩ := rW _ _ _ (by omega) z6
    obtain ⟨u7, l7, he7, h7, k7, b7⟩ := rR _ _ _ (by omega) z7
    obtain ⟨u8, l8, he8, h8, k8, b8⟩ := rA _ _ _ (by omega) z8
    obtain ⟨u9, l9, he9, h9, k9, b9⟩ := rN _ _ _ (by omega) z9
    obtain ⟨i1, i2⟩ := int_range hw0
    rw [hy0, hy1, hy2, hy3] at hx ⊢
    simp only [Rows.uptoBulk, Array.length_toList] at hx ⊢
    simp only [List.cons.injEq, and_true] at hK htx hc1 hc2 he4 he5 he6 he7 he8 he9
    subst hK htx hc1 hc2 he4 he5 he6 he7 he8 he9
    have hts : tx.data.size = tx.size := rfl
    exact ⟨_, rfl, .mkNode i1 i2 (by omega) h4 h5 h6 h7 h8 h9 k4 k5 k6 k7 k8 k9, by simp only [Tr.sz, szR, szL]; omega⟩
theorem read_all {enc : TypeId × Value → H} {w : World} (N : Nat) : N ≤ 1048576 → ReadAll enc w N := by
  induction N with
  | zero =>
    intro _
    refine ⟨?_, ?_, ?_, ?_, ?_⟩ <;> intro fuel cs x hx h <;> exact absurd (bulk_one x.1) (by omega)
  | succ N ih =>
    intro hN
    have h := ih (by omega)
    exact ⟨read_part hN h, read_word hN h, read_redir hN h, read_arm hN h, read_node hN h⟩
end
end Go.Proofs.Ytpjcmhlgdgadjaa
