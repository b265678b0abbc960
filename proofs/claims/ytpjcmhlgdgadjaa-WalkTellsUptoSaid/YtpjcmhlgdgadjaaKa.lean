/- What a call keeps of memory; blocks that are known whole; rows of structs. Plain lemmas over any world. append onto a row of the call's own, the source nil or not: the new row, and what is kept. A region that draws its order, whose operations yield one value in every world of a class of the prover's own: walked once. The frame of a law's proof: a call that answers true and turns nothing that was there. -/
import Derived.WalkKit
import Derived.Laws.OwnMore
import Derived.Laws.Rows
import Derived.Deep.Draws
import Derived.Lib.Hide
import Derived.Maps.AppendAt
import Derived.Laws.AppendOwnNone
import Derived.RegionTactic
import Derived.Deep.Quiet
import Derived.Deep.QuietTactic
import Derived.BigQuiet
import Derived.ProofKit
import Derived.OpenShut
import Derived.ShutString
import Derived.Carry
import Derived.ChangeSame
namespace Go.Proofs.Ytpjcmhlgdgadjaa
open Go.RowKit
set_option linter.unusedVariables false

theorem hide {p : Prop} (h : p) : Hid p := h

/-- w' is w but for new blocks, and for blocks from B on whose elements' type is in T. -/
structure Keeps (B : Nat) (T : List TypeId) (w w' : World) : Prop where
  os : w'.os = w.os
  tape : w'.tape = w.tape
  output : w'.output = w.output
  size : w.heap.size ≤ w'.heap.size
  block : ∀ k, k < w.heap.size → (k < B ∨ ∀ cs t m, w.heap[k]? = some (.cells cs t m) → t ∉ T) → w'.heap[k]? = w.heap[k]?

/-- A block whose cells are known whole, none frozen. -/
def Blk (w : World) (g : Nat) (t : TypeId) (cs : Array Value) : Prop := w.heap[g]? = some (.cells cs t (0, 0))

namespace Keeps
variable {B B' : Nat} {T T' : List TypeId} {a w w' w'' : World}
theorem refl (B : Nat) (T : List TypeId) (w : World) : Keeps B T w w := ⟨rfl, rfl, rfl, Nat.le_refl _, fun _ _ _ => rfl⟩
theorem trans (h : Keeps B T w w') (k : Keeps B T w' w'') : Keeps B T w w'' :=
  ⟨k.os.trans h.os, k.tape.trans h.tape, k.output.trans h.output, Nat.le_trans h.size k.size, fun i hi hc => by
    have e := h.block i hi hc
    have h2 : i < B ∨ ∀ cs t m, w'.heap[i]? = some (.cells cs t m) → t ∉ T := by
      rcases hc with hc | hc
      · exact .inl hc
      · exact .inr fun cs t m hh => hc cs t m (e ▸ hh)
    exact (k.block i (Nat.lt_of_lt_of_le hi h.size) h2).trans e⟩
theorem mono (h : Keeps B T w w') (hB : B' ≤ B) (hT : ∀ t, t ∈ T → t ∈ T') : Keeps B' T' w w' :=
  ⟨h.os, h.tape, h.output, h.size, fun i hi hc => h.block i hi (by
    rcases hc with hc | hc
    · exact .inl (by omega)
    · exact .inr fun cs t m hh ht => hc cs t m hh (hT t ht))⟩
theorem of_below (h : Below w.heap.size w w') : Keeps B T w w' := ⟨h.os, h.tape, h.output, h.size, fun i hi _ => h.block i hi⟩
theorem below (h : Keeps B T w w') (hB : B ≤ w.heap.size) : Below B w w' :=
  ⟨h.os, h.tape, h.output, h.size, fun i hi => h.block i (by omega) (.inl hi)⟩
theorem belowNil (h : Keeps B [] w w') : Below w.heap.size w w' :=
  ⟨h.os, h.tape, h.output, h.size, fun i hi => h.block i hi (.inr fun _ _ _ _ => by simp)⟩
theorem drew (h : Keeps B T a w) : Keeps B T a w.drew := ⟨h.os, h.tape, h.output, h.size, h.block⟩
theorem drewN (h : Keeps B T a w) (n : Nat) : Keeps B T a (w.drewN n) := ⟨h.os, h.tape, h.output, h.size, h.block⟩
theorem alloc (h : Keeps B T a w) (o : Obj) : Keeps B T a (w.alloc o) :=
  h.trans (of_below ⟨rfl, rfl, rfl, by simp, fun k hk => Below.heap_alloc _ _ _ hk⟩)
/-- A store into a block of a type in T, from B on. -/
theorem setCell (h : Keeps B T a w) {p : Addr} {cs : Array Value} {t : TypeId} {m : Nat × Nat} (hb : w.heap[p.block]? = some (.cells cs t m)) (hB : B ≤ p.block) (ht : t ∈ T) (u : Value) : Keeps B T a (w.setCell p u) :=
  h.trans ⟨rfl, rfl, rfl, by simp [World.setCell], fun k hk hc => Below.heap_setCell _ _ _ _ (by
    rintro rfl
    rcases hc with hc | hc
    · omega
    · exact hc _ _ _ hb ht)⟩
theorem setBlk (h : Keeps B T a w) {g : Nat} {cs : Array Value} {t : TypeId} (hb : Blk w g t cs) (hB : B ≤ g) (ht : t ∈ T) (i : Nat) (u : Value) : Keeps B T a (w.setCell ⟨g, i, none⟩ u) :=
  h.setCell (p := ⟨g, i, none⟩) hb hB ht u
/-- A store into a block that is new since a. -/
theorem setNew (h : Keeps B T a w) {p : Addr} (hB : a.heap.size ≤ p.block) (u : Value) : Keeps B T a (w.setCell p u) :=
  ⟨h.os, h.tape, h.output, by simpa [World.setCell] using h.size, fun k hk hc => (Below.heap_setCell _ _ _ _ (by omega)).trans (h.block k hk hc)⟩
/-- Behind a law that ends in 'grownBy'. -/
theorem grown (h : Keeps B T a w) {row : Option Nat} (hg : w.grownBy w' row) (hr : ∀ g, row = some g → a.heap.size ≤ g ∨ (B ≤ g ∧ ∃ cs t m, w.heap[g]? = some (.cells cs t m) ∧ t ∈ T)) : Keeps B T a w' :=
  ⟨hg.os.trans h.os, hg.tape.trans h.tape, hg.output.trans h.output, Nat.le_trans h.size hg.size, fun k hk hc => by
    have e := h.block k hk hc
    refine (hg.block k (Nat.lt_of_lt_of_le hk h.size) fun he => ?_).trans e
    rcases hr k he.symm with h1 | ⟨h1, cs, t, m, h2, h3⟩
    · omega
    · rcases hc with hc | hc
      · omega
      · exact hc cs t m (e ▸ h2) h3⟩
theorem blk (h : Keeps B T w w') {g t cs} (hb : Blk w g t cs) (ht : g < B ∨ t ∉ T) : Blk w' g t cs := by
  unfold Blk at *
  rw [h.block g (Array.getElem?_eq_some_iff.1 hb).1, hb]
  rcases ht with ht | ht
  · exact .inl ht
  · exact .inr fun cs t m hh => by rw [hb] at hh; cases hh; exact ht
theorem own (h : Keeps B T w w') {base e size v n xs} (ho : w.ownsRow base e size v n xs) (ht : (∀ k, v.ownBlock = some k → k < B) ∨ e ∉ T) : w'.ownsRow base e size v n xs := by
  refine ⟨ho.1, ?_⟩
  rcases ho.2 with hn | ⟨g, cap, cur, rfl, hb, hgg, rest⟩
  · exact .inl hn
  · refine .inr ⟨g, cap, cur, rfl, hb, ?_, rest⟩
    rw [h.block g (Array.getElem?_eq_some_iff.1 hgg).1, hgg]
    rcases ht with ht | ht
    · exact .inl (ht g rfl)
    · exact .inr fun cs t m hh => by rw [hgg] at hh; cases hh; exact ht
end Keeps

section
variable {w w' : World} {g : Nat} {t : TypeId} {cs : Array Value}
theorem Blk.lt (h : Blk w g t cs) : g < w.heap.size := (Array.getElem?_eq_some_iff.1 h).1
theorem Blk.cell (h : Blk w g t cs) (i : Nat) : w.cell? ⟨g, i, none⟩ = cs[i]? := cell_of_row w g i cs t (0, 0) h
theorem Blk.frozen (h : Blk w g t cs) (i : Nat) : w.frozen? ⟨g, i, none⟩ = false := by
  unfold Blk at h
  simp [World.frozen?, h]
theorem Blk.new (w : World) (t : TypeId) (cs : Array Value) : Blk (w.alloc (.cells cs t)) w.heap.size t cs := heap_alloc_new w _
theorem Blk.drew (h : Blk w g t cs) : Blk w.drew g t cs := h
theorem Blk.drewN (h : Blk w g t cs) (n : Nat) : Blk (w.drewN n) g t cs := h
theorem Blk.alloc (h : Blk w g t cs) (o : Obj) : Blk (w.alloc o) g t cs := (Below.heap_alloc w o g h.lt).trans h
theorem Blk.set_ (h : Blk w g t cs) (i : Nat) (u : Value) : Blk (w.setCell ⟨g, i, none⟩ u) g t (cs.setIfInBounds i u) := by
  unfold Blk at h ⊢
  simp [World.setCell, Array.getElem?_modify, h]
theorem Blk.far (h : Blk w g t cs) {p : Addr} (hp : g ≠ p.block) (u : Value) : Blk (w.setCell p u) g t cs := (Below.heap_setCell w p u g hp).trans h
theorem Blk.below {B : Nat} (h : Blk w g t cs) (hb : Below B w w') (hg : g < B) : Blk w' g t cs := (hb.block g hg).trans h
theorem Blk.grown {row : Option Nat} (h : Blk w g t cs) (hb : w.grownBy w' row) (hg : some g ≠ row) : Blk w' g t cs := (hb.block g h.lt hg).trans h
theorem Blk.ne_ {g' : Nat} {t' : TypeId} {cs' : Array Value} (h : Blk w g t cs) (h' : Blk w g' t' cs') (hne : t ≠ t') : g ≠ g' := by
  rintro rfl
  unfold Blk at h h'
  rw [h] at h'
  injection h' with h'
  injection h' with _ ht
  exact hne ht
theorem own_blk_ne {base : Nat} {e : TypeId} {size n : Nat} {v : Value} {xs : List Value} (h : w.ownsRow base e size v n xs) (hg : Blk w g t cs) (hne : e ≠ t) : v.ownBlock ≠ some g := by
  rcases h.2 with ⟨rfl, _⟩ | ⟨g', cap, cur, rfl, _, hh, _⟩
  · simp [Value.ownBlock]
  · intro he
    have : g' = g := by simpa [Value.ownBlock] using he
    subst this
    exact Blk.ne_ (t := e) hh hg hne rfl
end

/-! Rows of structs -/
section
variable {α : Type} (f : α → List Value) (m : Nat)
theorem fm_len (hf : ∀ a, (f a).length = m) (l : List α) : (l.flatMap f).length = l.length * m := by
  induction l with
  | nil => simp
  | cons a l ih => simp [List.flatMap_cons, ih, hf, Nat.add_mul]; omega
theorem fm_get (hf : ∀ a, (f a).length = m) (l : List α) (i j : Nat) (hi : i < l.length) (hj : j < m) : (l.flatMap f)[i * m + j]? = (f l[i])[j]? := by
  induction l generalizing i with
  | nil => simp at hi
  | cons a l ih =>
    rw [List.flatMap_cons]
    cases i with
    | zero => rw [List.getElem?_append_left (by rw [hf]; omega)]; simp
    | succ i =>
      rw [List.getElem?_append_right (by rw [hf, Nat.succ_mul]; omega)]
      rw [show (i + 1) * m + j - (f a).length = i * m + j by rw [hf, Nat.succ_mul]; omega]
      rw [ih i (by simpa using hi)]; simp
theorem fm_take (hf : ∀ a, (f a).length = m) (l : List α) (k : Nat) : (l.flatMap f).take (k * m) = (l.take k).flatMap f := by
  induction l generalizing k with
  | nil => simp
  | cons a l ih =>
    cases k with
    | zero => simp
    | succ k =>
      rw [List.take_succ_cons, List.flatMap_cons, List.flatMap_cons, List.take_append, hf, List.take_of_length_le (by rw [hf, Nat.succ_mul]; omega), show (k + 1) * m - m = k * m by rw [Nat.succ_mul]; omega, ih]
end

theorem own_cell {w : World} {base : Nat} {e : TypeId} {size n b c : Nat} {xs : List Value} (h : w.ownsRow base e size (.slice (some ⟨b, 0, none⟩) n c) n xs) (j : Nat) (hj : j < n * size) : w.cell? ⟨b, j, none⟩ = xs[j]? := by
  have := h.cells (g := b) rfl j (xs[j]'(by rw [h.1]; exact hj)) (by simp [h.1, hj])
  have hadd : (⟨b, 0, none⟩ : Addr).add j = ⟨b, j, none⟩ := by unfold Addr.add; split <;> simp_all
  rw [hadd] at this
  rw [this]; simp [h.1, hj]
theorem own_frozen {w : World} {base : Nat} {e : TypeId} {size n b c : Nat} {xs : List Value} (h : w.ownsRow base e size (.slice (some ⟨b, 0, none⟩) n c) n xs) (j : Nat) : w.frozen? ⟨b, j, none⟩ = false := by
  rcases h.2 with ⟨hh, _⟩ | ⟨g', cap, cur, hh, _, hb, _⟩
  · cases hh
  · cases hh
    simp [World.frozen?, hb]
theorem own_max {w : World} {base : Nat} {e : TypeId} {size n : Nat} {v : Value} {xs : List Value} (h : w.ownsRow base e size v n xs) : n ≤ maxLen := by
  rcases h.2 with ⟨_, hh⟩ | ⟨g', cap, cur, _, _, _, h1, h2, _⟩ <;> omega
/-- The first places of a row. -/
theorem own_take {w : World} {base : Nat} {e : TypeId} {size n b c k : Nat} {xs : List Value} (h : w.ownsRow base e size (.slice (some ⟨b, 0, none⟩) n c) n xs) (hk : k ≤ n) : w.ownsRow base e size (.slice (some ⟨b, 0, none⟩) k c) k (xs.take (k * size)) := by
  refine ⟨by rw [List.length_take, h.1, Nat.min_eq_left (Nat.mul_le_mul_right _ hk)], ?_⟩
  rcases h.2 with ⟨hh, _⟩ | ⟨g', cap, cur, hh, h1, h2, h3, h4, h5, h6⟩
  · cases hh
  · cases hh
    exact .inr ⟨b, c, cur, rfl, h1, h2, by omega, h4, h5, by rw [← h6, List.take_take, Nat.min_eq_left (Nat.mul_le_mul_right _ hk)]⟩
/-- One cell of a row is written. -/
theorem own_set {w : World} {base : Nat} {e : TypeId} {size n b c : Nat} {xs : List Value} (h : w.ownsRow base e size (.slice (some ⟨b, 0, none⟩) n c) n xs) (j : Nat) (hj : j < n * size) (u : Value) : (w.setCell ⟨b, j, none⟩ u).ownsRow base e size (.slice (some ⟨b, 0, none⟩) n c) n (xs.set j u) := by
  refine ⟨by simp [h.1], ?_⟩
  rcases h.2 with ⟨hh, _⟩ | ⟨g', cap, cur, hh, h1, h2, h3, h4, h5, h6⟩
  · cases hh
  · cases hh
    refine .inr ⟨b, c, cur.setIfInBounds j u, rfl, h1, ?_, h3, h4, by simpa using h5, ?_⟩
    · exact Blk.set_ (t := e) h2 j u
    · rw [← h6]; simp [List.take_set]
theorem own_far {w : World} {base : Nat} {e : TypeId} {size n : Nat} {v : Value} {xs : List Value} (h : w.ownsRow base e size v n xs) {p : Addr} (hp : v.ownBlock ≠ some p.block) (u : Value) : (w.setCell p u).ownsRow base e size v n xs := by
  refine ⟨h.1, ?_⟩
  rcases h.2 with hn | ⟨g, cap, cur, rfl, hb, hgg, rest⟩
  · exact .inl hn
  · refine .inr ⟨g, cap, cur, rfl, hb, ?_, rest⟩
    rw [Below.heap_setCell _ _ _ _ (by rintro rfl; exact hp rfl), hgg]
/-- What the row is. -/
theorem own_form {w : World} {base : Nat} {e : TypeId} {size n : Nat} {v : Value} {xs : List Value} (h : w.ownsRow base e size v n xs) : (v = .slice none 0 0 ∧ n = 0) ∨ ∃ b c, v = .slice (some ⟨b, 0, none⟩) n c ∧ base ≤ b ∧ b < w.heap.size ∧ n ≤ c ∧ c ≤ maxLen ∧ ∃ cur, Blk w b e cur := by
  rcases h.2 with hn | ⟨g, cap, cur, rfl, hb, hgg, h1, h2, rest⟩
  · exact .inl hn
  · exact .inr ⟨g, cap, rfl, hb, (Array.getElem?_eq_some_iff.1 hgg).1, h1, h2, cur, hgg⟩
/-- The cells to be appended, read out of a block that is known whole. -/
theorem news_blk {w : World} {g : Nat} {t : TypeId} {cs : List Value} (h : Blk w g t cs.toArray) : ∀ j u, cs[j]? = some u → w.cell? ((⟨g, 0, none⟩ : Addr).add j) = some u := by
  intro j u hu
  have hadd : (⟨g, 0, none⟩ : Addr).add j = ⟨g, j, none⟩ := by unfold Addr.add; split <;> simp_all
  rw [hadd, h.cell j]; simpa using hu
end Go.Proofs.Ytpjcmhlgdgadjaa

namespace Go.Proofs.Ytpjcmhlgdgadjaa
open Go.RowKit
set_option linter.unusedVariables false

/-- What is to be known of a slice type t of elements e. -/
structure El (P : Program) (t e : TypeId) (size bytes : Nat) : Prop where
  ht : P.underlying t = some (.slice e)
  hi : ∃ i z, P.info? e = some i ∧ i.zero = some z ∧ i.size = size ∧ i.bytes = bytes ∧ z.cells.size = size
  pos : 0 < size
theorem El.of {P : Program} {t e : TypeId} {size bytes : Nat} {z : Value} (ht : P.underlying t = some (.slice e)) (h : (P.info? e).map (fun i => (i.zero, i.size, i.bytes)) = some (some z, size, bytes)) (hz : z.cells.size = size) (hp : 0 < size) : El P t e size bytes := by
  obtain ⟨i0, hi, hz0, hz1, hz2⟩ := info_parts h
  exact ⟨ht, ⟨i0, z, hi, hz0, hz1, hz2, hz⟩, hp⟩

/-- The cells that a slice value holds, nil let in. -/
def SrcOK (w : World) (src : Value) (m size : Nat) (news : List Value) : Prop :=
  (∀ u ∈ news, u.oneCell' = true) ∧ ((src = .slice none 0 0 ∧ m = 0 ∧ news = []) ∨
  ∃ ad c, src = .slice (some ad) m c ∧ news.length = m * size ∧ ∀ j u, news[j]? = some u → w.cell? (ad.add j) = some u)

theorem SrcOK.own {w : World} {base : Nat} {e : TypeId} {size n : Nat} {v : Value} {xs : List Value} (h : w.ownsRow base e size v n xs) (h1 : ∀ u ∈ xs, u.oneCell' = true) : SrcOK w v n size xs := by
  refine ⟨h1, ?_⟩
  rcases h.2 with ⟨rfl, rfl⟩ | ⟨g, cap, cur, rfl, _⟩
  · exact .inl ⟨rfl, rfl, List.eq_nil_of_length_eq_zero (by simpa using h.1)⟩
  · exact .inr ⟨_, _, rfl, h.1, h.cells rfl⟩
theorem SrcOK.blk {w : World} {g : Nat} {t : TypeId} {cs : List Value} {m size c : Nat} (h : Blk w g t cs.toArray) (hl : cs.length = m * size) (h1 : ∀ u ∈ cs, u.oneCell' = true) : SrcOK w (.slice (some ⟨g, 0, none⟩) m c) m size cs :=
  ⟨h1, .inr ⟨_, _, rfl, hl, news_blk h⟩⟩
theorem SrcOK.keep {w w' : World} {src : Value} {m size : Nat} {news : List Value} (h : SrcOK w src m size news) (hk : ∀ a, src.ownBlock = some a → w'.heap[a]? = w.heap[a]?) : SrcOK w' src m size news := by
  refine ⟨h.1, ?_⟩
  rcases h.2 with hn | ⟨ad, c, rfl, hl, hc⟩
  · exact .inl hn
  · refine .inr ⟨ad, c, rfl, hl, fun j u hu => ?_⟩
    have hb : (ad.add j).block = ad.block := by unfold Addr.add; split <;> rfl
    exact (World.cell?_of_block (w := w) (by rw [hb]; exact hk _ rfl)).trans (hc j u hu)

theorem own_made {W : World} {cur : Array Value} {e : TypeId} {size base cap g : Nat} (hg : W.heap.size = g) (hb : base ≤ g) (hm : cap ≤ maxLen) (hs : cur.size = cap * size) :
    (W.alloc (.cells cur e)).ownsRow base e size (.slice (some ⟨g, 0, none⟩) 0 cap) 0 [] := by
  subst hg
  exact World.ownsRow_made W cur cap hb hm hs
theorem run_app {P : Program} {w : World} {t e ty : TypeId} {size bytes : Nat} (E : El P t e size bytes) {base n m N : Nat} {v src : Value} {xs news : List Value}
    (hown : w.ownsRow base e size v n xs) (hsrc : SrcOK w src m size news) (hN : n + m = N) (h63 : N ≤ maxLen) (hbytes : N * bytes ≤ 140737488355328) (hbase : base ≤ w.heap.size) :
    ∃ A c w', (Builtin.append_ #[t, t] ty #[v, src]).run P w = .ok (.slice A N c) w' ∧ w'.ownsRow base e size (.slice A N c) N (xs ++ news) ∧ Keeps base [e] w w' ∧
      (w.grownBy w' v.ownBlock ∧ ((Value.slice A N c).ownBlock = v.ownBlock ∨ (Value.slice A N c).ownBlock = some w.heap.size)) := by
  subst hN
  obtain ⟨ht, ⟨i, z, hi, hz, hs1, hs2, hz2⟩, hp⟩ := E
  rcases hsrc with ⟨h1, ⟨rfl, rfl, rfl⟩ | ⟨ad, c, rfl, hl, hc⟩⟩
  · have hr := run_append_owned_none (P := P) (w := w) base t ty e i size ht hi v n xs hown
    rcases own_form hown with ⟨rfl, rfl⟩ | ⟨b, c, rfl, _⟩
    · exact ⟨_, _, w, hr, by simpa using hown, Keeps.refl _ _ _, World.grownBy.refl w _, .inl rfl⟩
    · exact ⟨_, _, w, hr, by simpa using hown, Keeps.refl _ _ _, World.grownBy.refl w _, .inl rfl⟩
  · obtain ⟨v', w', hr, r1, r2, _, r4⟩ := run_append_own_at (P := P) w base t ty e i z size bytes ht hi hz hs1 hs2 hz2 hp v n xs hown ad m c news hl hc h1 h63 hbytes hbase
    have hk : Keeps base [e] w w' := (Keeps.refl base [e] w).grown r2 fun k hk => .inr (by
      rcases own_form hown with ⟨h1, _⟩ | ⟨b, c, h1, h2, _, _, _, cur, h3⟩
      · rw [h1] at hk; cases hk
      · rw [h1] at hk
        simp only [Value.ownBlock, Option.some.injEq] at hk
        subst hk
        exact ⟨h2, _, _, _, h3, by simp⟩)
    rcases own_form r1 with ⟨rfl, h0⟩ | ⟨b, c', rfl, _⟩
    · rw [h0] at r1 ⊢
      exact ⟨_, _, w', hr, r1, hk, r2, r4⟩
    · exact ⟨_, _, w', hr, r1, hk, r2, r4⟩

theorem wp_app {P : Program} {w : World} {o : Oper} {a : Act} {K : Act → World → Prop} {Q : Exit → Act → World → Prop} {t e : TypeId} {size bytes : Nat} (E : El P t e size bytes) (s x : Operand)
    (ho : o.op = .call { callee := .builtin .append, args := #[s, x], argTypes := #[t, t] }) {base n m N : Nat} {v src : Value} {xs news : List Value} (hs : a.eval s = v) (hx : a.eval x = src)
    (hown : w.ownsRow base e size v n xs) (hsrc : SrcOK w src m size news) (hN : n + m = N) (h63 : N ≤ maxLen) (hbytes : N * bytes ≤ 140737488355328) (hbase : base ≤ w.heap.size)
    (h : ∀ A c w', w'.ownsRow base e size (.slice A N c) N (xs ++ news) → Keeps base [e] w w' → (w.grownBy w' v.ownBlock ∧ ((Value.slice A N c).ownBlock = v.ownBlock ∨ (Value.slice A N c).ownBlock = some w.heap.size)) → K (a.put o.dst (.slice A N c)) w') : o.wp P a w K Q := by
  obtain ⟨A, c, w', hr, r1, r2, r3⟩ := run_app (P := P) (ty := o.type) E hown hsrc hN h63 hbytes hbase
  unfold Oper.wp execOp
  simp only [ho, resolve, invoke, builtin, Sem.run_bind, Sem.run_pure, Result.andThen_ok, List.map_toArray, List.map_cons, List.map_nil, hs, hx, hr]
  exact h A c w' r1 r2 r3

/-- At the list of a plain region's operations. -/
theorem wpList_app {P : Program} {w : World} {ops : Array Oper} {rest : List Oper} {o : Oper} {a : Act} {Q : Exit → Act → World → Prop} {t e : TypeId} {size bytes : Nat} (E : El P t e size bytes) (s x : Operand) (hgd : o.guard = none)
    (ho : o.op = .call { callee := .builtin .append, args := #[s, x], argTypes := #[t, t] }) {base n m N : Nat} {v src : Value} {xs news : List Value} (hs : a.eval s = v) (hx : a.eval x = src)
    (hown : w.ownsRow base e size v n xs) (hsrc : SrcOK w src m size news) (hN : n + m = N) (h63 : N ≤ maxLen) (hbytes : N * bytes ≤ 140737488355328) (hbase : base ≤ w.heap.size)
    (h : ∀ A c w', w'.ownsRow base e size (.slice A N c) N (xs ++ news) → Keeps base [e] w w' → (w.grownBy w' v.ownBlock ∧ ((Value.slice A N c).ownBlock = v.ownBlock ∨ (Value.slice A N c).ownBlock = some w.heap.size)) → wpList P ops Q rest (a.put o.dst (.slice A N c)) w') : wpList P ops Q (o :: rest) a w :=
  wpList_plain hgd fun _ hK => wp_app E s x ho hs hx hown hsrc hN h63 hbytes hbase fun A c w' r1 r2 r3 => hK _ _ (h A c w' r1 r2 r3)

/-- At a step of a region that draws its order. -/
theorem step_app {P : Program} {w : World} {ops : Array Oper} {o : Oper} {a : Act} {K : Act → World → Prop} {Q : Exit → Act → World → Prop} {D : Prop} {t e : TypeId} {size bytes : Nat} (E : El P t e size bytes) (s x : Operand) (hgd : o.guard = none)
    (ho : o.op = .call { callee := .builtin .append, args := #[s, x], argTypes := #[t, t] }) {base n m N : Nat} {v src : Value} {xs news : List Value} (hs : a.eval s = v) (hx : a.eval x = src)
    (hown : w.ownsRow base e size v n xs) (hsrc : SrcOK w src m size news) (hN : n + m = N) (h63 : N ≤ maxLen) (hbytes : N * bytes ≤ 140737488355328) (hbase : base ≤ w.heap.size)
    (h : ∀ A c w', w'.ownsRow base e size (.slice A N c) N (xs ++ news) → Keeps base [e] w w' → (w.grownBy w' v.ownBlock ∧ ((Value.slice A N c).ownBlock = v.ownBlock ∨ (Value.slice A N c).ownBlock = some w.heap.size)) → K (a.put o.dst (.slice A N c)) w') :
    if Region.wanted o (yielded ops a.tmps) = true then Oper.wp P o a w K Q else D := by
  have hw : Region.wanted o (yielded ops a.tmps) = true := by simp [Region.wanted, hgd]
  rw [if_pos hw]
  exact wp_app E s x ho hs hx hown hsrc hN h63 hbytes hbase h
end Go.Proofs.Ytpjcmhlgdgadjaa

namespace Go.Proofs.Ytpjcmhlgdgadjaa
open Go.RowKit

/-- A world in which I holds. -/
structure Wd (I : World → Prop) where
  w : World
  ok : I w

/-- The callee's contract, at a world of the class. -/
theorem wd_call {P : Program} {f : FuncId} {args : Array Value} {I : World → Prop} {w : World} {v : Value} (h : Calls P f args w fun e w' => e = .returned v ∧ I w') :
    Calls P f args w fun e w' => e = .returned v ∧ ∃ y : Wd I, w' = y.w := h.mono fun _ _ ⟨he, hi⟩ => ⟨he, ⟨_, hi⟩, rfl⟩

theorem wp_region_wd (I : World → Prop) {P : Program} {id : Nat} {Q : Exit → Act → World → Prop} {a : Act} {w : World} {l : List Oper} (hm : P.follows .mixedOrders = true) (hB : Region.lexB .any l.toArray = true)
    (h0 : I w.drew) (h : wpQuiet P l.toArray (fun w' => ∃ y : Wd I, w' = y.w) (fun a' => ∀ w', (∃ y : Wd I, w' = y.w) → Q .normal a' w') l a) : (Code.region id l.toArray true).wp P Q a w :=
  wp_region_quiet (C := fun w' => ∃ y : Wd I, w' = y.w) hm hB ⟨⟨w.drew, h0⟩, rfl⟩ (by simpa using h)
end Go.Proofs.Ytpjcmhlgdgadjaa

namespace Go.Proofs.Ytpjcmhlgdgadjaa
open Go.ChangeShapes Go.WideShapes Go.ChangeAt Go.RowKit
set_option linter.unusedVariables false

section
variable {H : Type} {enc : TypeId × Value → H} {P : Program}

/-- Arguments read as they did. -/
theorem trodAll_stays (hl : laidOutB P = true) {W W' : World} (hb : Below W.heap.size W W') (sp : Nat → Bool) :
    ∀ (ts : List TypeId) (vs : List Value) (ds : List (DataW H)) (ps : List MemPlace), (∀ t ∈ ts, P.readableRec t = true ∧ t < P.types.size) →
      DataW.TrodAll enc P W 0 (fun _ => true) true ts vs ds ps → (∀ p ∈ ps, p.block < W.heap.size) → (∀ p ∈ ps, sp p.block = true) → DataW.TrodAll enc P W' 0 sp true ts vs ds ps
  | [], [], [], ps, _, h, _, _ => h
  | t :: ts, v :: vs, d :: ds, ps, hr, h, hlt, hs => by
    obtain ⟨p, q, h1, h2, rfl⟩ := h
    have hr0 := hr t (by simp)
    exact ⟨p, q, WideElems.Trod_stays hl hr0.1 hr0.2 h1 (fun x hx => hb.same (hlt x (by simp [hx]))) (fun x hx => hs x (by simp [hx])),
      trodAll_stays hl hb sp ts vs ds q (fun t ht => hr t (by simp [ht])) h2 (fun x hx => hlt x (by simp [hx])) (fun x hx => hs x (by simp [hx])), rfl⟩
  | [], [], _ :: _, _, _, h, _, _ => h.elim
  | [], _ :: _, _, _, _, h, _, _ => h.elim
  | _ :: _, [], _, _, _, h, _, _ => h.elim
  | _ :: _, _ :: _, [], _, _, h, _, _ => h.elim

theorem law_post {f : Func} {s : ChangeSpec} {apart fresh handsOn again : Bool} {W W' : World} {args : Array Value} {ds gs : List (DataW H)} {before : List MemPlace}
    (hW : DataW.Whole enc P f.params.toList s.vars apart W args.toList ds gs before) (hv : s.vars = [])
    (hsp : s.fn H (ds ++ gs) = { results := [.lit (.bool true)], args := ds }) {tb : TypeId} (hrt : f.resultTypes = #[tb]) (htb : P.underlying tb = some .bool)
    (hl : laidOutB P = true) (hr : ∀ t ∈ f.params.toList, P.readableRec t = true ∧ t < P.types.size) (hb : Below W.heap.size W W')
    (hok : ∀ (j : Nat) (t : TypeId) (r : Value), f.resultTypes[j]? = some t → ((Value.bool true).resultList f.resultTypes.size)[j]? = some r → Value.okWide P W' .any 0 t r) :
    s.post enc P f apart fresh handsOn again W args (.bool true) W' := by
  have hlt : ∀ p ∈ before, p.block < W.heap.size := fun p hp => hW.lt p hp
  have hres : ∀ (b : Nat) (sp : Nat → Bool) (hd : Bool), DataW.TrodAll enc P W' b sp hd f.resultTypes.toList ((Value.bool true).resultList f.resultTypes.size) (s.fn H (ds ++ gs)).results [] := by
    intro b sp hd
    rw [hsp, hrt]
    exact trodAll_mk1 (shut_bool htb true)
  have hW0 := hW
  obtain ⟨p, q, hA, hV, rfl, hz, hn⟩ := hW
  rw [hv] at hV
  obtain ⟨rfl, rfl⟩ := trodVars_none hV
  simp only [List.append_nil] at *
  have hargs : ∀ sp : Nat → Bool, (∀ x ∈ p, sp x.block = true) → DataW.TrodAll enc P W' 0 sp true f.params.toList args.toList (s.fn H ds).args p := by
    intro sp hs
    rw [hsp]
    exact trodAll_stays hl hb sp _ _ _ _ hr hA hlt hs
  have hvs : ∀ sp : Nat → Bool, DataW.TrodVars enc P W' sp s.vars (s.fn H ds).vars [] := by
    intro sp
    rw [hsp, hv]
    exact rfl
  refine ⟨ds, [], p, [], p, [], hW0, by simpa using hres _ _ _, by simpa using hargs _ (fun x hx => by simpa using hlt x hx), by simpa using hvs _, World.keptBut_mono (fun x hx => ⟨hx, ?_⟩) (hb.frame (· ∈ p)), fun _ => ?_⟩
  · exact Or.inr (by simpa using hx)
  · have hh := trodAll_append (hargs (fun _ => true) (fun _ _ => rfl)) (hres 0 (fun _ => true) true)
    refine ⟨hok, _, (s.fn H ds).vars, [] ++ p, ⟨[] ++ p, [], hh, hvs _, by simp, ?_, ?_⟩, ?_⟩
    · intro b off hp
      have hin : MemPlace.cell b off ∈ p := by simpa using hp
      rw [hb.frozen (hlt _ hin)]
      exact hz b off hin
    · intro ha
      simpa using hn ha
    · intro x hx _
      simpa using hx
end
end Go.Proofs.Ytpjcmhlgdgadjaa
