/- A range over a function: who owns which blocks. The law of the statement, alone and within a round. Commands as trees: what is in them. Plain. Commands as they lie in memory. Rows that are read, rows that are built. All commands in a word, on both sides. -/
import Derived.Test.YtpjcmhlgdgadjaaKa
import Derived.RangeFuncNested
import Derived.RangeFuncBound
import Derived.RangeFuncCalls
import Derived.RangeFuncLeaves
import Derived.WalkKit
import Derived.Test.YtpjcmhlgdgadjaaProg
import Derived.Lib.AppendZeros
import Derived.Deep.RegionLaw
import Derived.Shelf.Abstract
namespace Go.Proofs.Ytpjcmhlgdgadjaa
open Go.RowKit
set_option linter.unusedVariables false
/-- Nothing that was there has turned but what X lets turn. -/
structure Chg (X : Nat → Prop) (w w' : World) : Prop where
  os : w'.os = w.os
  tape : w'.tape = w.tape
  output : w'.output = w.output
  size : w.heap.size ≤ w'.heap.size
  block : ∀ k, k < w.heap.size → ¬ X k → w'.heap[k]? = w.heap[k]?
namespace Chg
variable {X Y : Nat → Prop} {a b c : World}
theorem refl (X : Nat → Prop) (w : World) : Chg X w w := ⟨rfl, rfl, rfl, Nat.le_refl _, fun _ _ _ => rfl⟩
theorem of_below (h : Below a.heap.size a b) : Chg X a b := ⟨h.os, h.tape, h.output, h.size, fun k hk _ => h.block k hk⟩
theorem trans (h : Chg X a b) (k : Chg Y b c) (hY : ∀ i, i < a.heap.size → Y i → X i) : Chg X a c :=
  ⟨k.os.trans h.os, k.tape.trans h.tape, k.output.trans h.output, Nat.le_trans h.size k.size, fun i hi hx => (k.block i (Nat.lt_of_lt_of_le hi h.size) (fun hy => hx (hY i hi hy))).trans (h.block i hi hx)⟩
theorem next (h : Chg X a b) (k : Chg X b c) : Chg X a c := h.trans k fun _ _ h => h
theorem mono (h : Chg X a b) (hX : ∀ i, X i → Y i) : Chg Y a b := ⟨h.os, h.tape, h.output, h.size, fun i hi hy => h.block i hi (fun hx => hy (hX i hx))⟩
theorem alloc (h : Chg X a b) (o : Obj) : Chg X a (b.alloc o) := h.next (of_below ⟨rfl, rfl, rfl, by simp, fun k hk => Below.heap_alloc _ _ _ hk⟩)
theorem drew (h : Chg X a b) : Chg X a b.drew := ⟨h.os, h.tape, h.output, h.size, h.block⟩
theorem set (h : Chg X a b) {p : Addr} (hp : a.heap.size ≤ p.block ∨ X p.block) (u : Value) : Chg X a (b.setCell p u) :=
  ⟨h.os, h.tape, h.output, by simpa [World.setCell] using h.size, fun k hk hx => (Below.heap_setCell _ _ _ _ (by rintro rfl; rcases hp with hp | hp; omega; exact hx hp)).trans (h.block k hk hx)⟩
theorem put (h : Chg X a b) {r : Nat} (hp : a.heap.size ≤ r ∨ X r) (o : Obj) : Chg X a (b.putObj r o) :=
  ⟨h.os, h.tape, h.output, by simpa using h.size, fun k hk hx => (World.putObj_heap_other (by rintro rfl; rcases hp with hp | hp; omega; exact hx hp)).trans (h.block k hk hx)⟩
theorem blk {g : Nat} {t : TypeId} {cs : Array Value} (h : Chg X a b) (hb : Blk a g t cs) (hx : ¬ X g) : Blk b g t cs := (h.block g hb.lt hx).trans hb
theorem own {base : Nat} {e : TypeId} {size n : Nat} {v : Value} {xs : List Value} (h : Chg X a b) (ho : a.ownsRow base e size v n xs) (hx : ∀ g, v.ownBlock = some g → ¬ X g) : b.ownsRow base e size v n xs := by
  refine ⟨ho.1, ?_⟩
  rcases ho.2 with hn | ⟨g, cap, cur, rfl, hb, hgg, rest⟩
  · exact .inl hn
  · refine .inr ⟨g, cap, cur, rfl, hb, ?_, rest⟩
    rw [h.block g (Array.getElem?_eq_some_iff.1 hgg).1 (hx g rfl), hgg]
theorem below (h : Chg X a b) {B : Nat} (hB : B ≤ a.heap.size) (hX : ∀ k, k < B → ¬ X k) : Below B a b := ⟨h.os, h.tape, h.output, h.size, fun k hk => h.block k (by omega) (hX k hk)⟩
end Chg
/-- What lies in A's blocks lies as it lay. -/
def Same (A : Nat → Prop) (w w' : World) : Prop := ∀ b, A b → w'.heap[b]? = w.heap[b]?
theorem Same.refl (A : Nat → Prop) (w : World) : Same A w w := fun _ _ => rfl
theorem Same.trans {A : Nat → Prop} {a b c : World} (h : Same A a b) (k : Same A b c) : Same A a c := fun i hi => (k i hi).trans (h i hi)
/-- What may be said between two rounds: it minds no step that turns blocks of A's alone, from B on, and new ones. -/
def Shy {β : Type} (B : Nat) (J : β → (Nat → Prop) → World → Prop) : Prop :=
  ∀ s A A' W W', J s A W → Chg (fun b => B ≤ b ∧ A b) W W' → (∀ b, A' b → A b ∨ W.heap.size ≤ b) → J s A' W'
/-- A function value hands on xs, one by one, to a loop's rounds; A₀: the blocks that it leans on. -/
def Seq {α : Type} (P : Program) (gf : Nat) (lb : Array Value) (encs : α → Array Value) (xs : List α) (A₀ : Nat → Prop) (w : World) : Prop :=
  ∀ (l : Nat) (J : List α → (Nat → Prop) → World → Prop) (Jx : Unit → (Nat → Prop) → World → Prop) (W : World), Chg (fun _ => False) w W → Shy W.heap.size J → Shy W.heap.size Jx →
    (∀ pre x A W1, J pre A W1 → pre ++ [x] <+: xs → (∀ b, A₀ b → A b) → (∀ b, A b → b < W1.heap.size) → YieldAt Fence.wide 0 P l (encs x) W1 fun e W' =>
      W1.heap.size ≤ W'.heap.size ∧ Same A W1 W' ∧ ((e = .returned (.bool true) ∧ J (pre ++ [x]) A W') ∨ (e = .returned (.bool false) ∧ Jx () A W'))) →
    J [] A₀ W →
    CallsIn Fence.wide 0 P gf (#[.func (.yield l) #[] #[]] ++ lb) W fun e W' => (∃ v, e = .returned v) ∧ ∃ A : Nat → Prop, (∀ b, A₀ b → A b) ∧ (∀ b, A b → b < W'.heap.size) ∧ (J xs A W' ∨ Jx () A W')
/-- How a round's body may be left. -/
def roundEnd {α : Type} (I : List α → (Nat → Prop) → World → Prop) (Ix : Code → (Nat → Prop) → World → Prop) (xs : List α) (A : Nat → Prop) (W : World) : Exit → Act → World → Prop
  | .normal, _, W' => W.heap.size ≤ W'.heap.size ∧ Same A W W' ∧ I xs A W'
  | .ret, _, W' => W.heap.size ≤ W'.heap.size ∧ Same A W W' ∧ Ix .ret A W'
  | .exit id, _, W' => W.heap.size ≤ W'.heap.size ∧ Same A W W' ∧ Ix (.exit id) A W'
  | .goto t, _, W' => W.heap.size ≤ W'.heap.size ∧ Same A W W' ∧ Ix (.goto t) A W'
  | .panic _, _, _ => False
  | .outgrown, _, _ => False
theorem Shy.step {β : Type} {B : Nat} {J : β → (Nat → Prop) → World → Prop} (h : Shy B J) {s : β} {A : Nat → Prop} {W W' : World} (hs : J s A W) (hc : Chg (fun b => B ≤ b ∧ A b) W W') : J s A W' := h s A A W W' hs hc (fun _ => .inl)
theorem Shy.less {β : Type} {B : Nat} {J : β → (Nat → Prop) → World → Prop} (h : Shy B J) {s : β} {A A' : Nat → Prop} {W : World} (hs : J s A W) (hA : ∀ b, A' b → A b) : J s A' W := h s A A' W W hs (Chg.refl _ _) (fun b hb => .inl (hA b hb))
/-- What is asked of one round. -/
def RoundOK {α : Type} (P : Program) (encs : α → Array Value) (ps : Array Tmp) (assign body : Code) (tmps : Array Value) (xs : List α) (A₀ : Nat → Prop) (B : Nat) (I : List α → (Nat → Prop) → World → Prop) (Ix : Code → (Nat → Prop) → World → Prop) : Prop :=
  ∀ (l : Nat) (pre : List α) (x : α) (A : Nat → Prop) (W : World), pre ++ [x] <+: xs → B ≤ l → l < W.heap.size → A l → (∀ b, A₀ b → A b) → (∀ b, A b → b < W.heap.size) → I pre A W →
    assign.wpIn (Fence.wide.inRound l) 0 P (Exit.then (fun a' Wa => W.heap.size ≤ Wa.heap.size ∧ Same A W Wa ∧ ∀ W2, Chg (· = l) Wa W2 → Wa.heap.size = W2.heap.size → (∃ r, W2.heap[l]? = some (.loop r)) →
      body.wpIn (Fence.wide.inRound l) 0 P (roundEnd I Ix (pre ++ [x]) A W2) a' W2) (fun _ _ _ => False))
      { tmps := (ps.zip (encs x)).foldl (fun t (p, v) => t.setIfInBounds p v) tmps, defers := [] } W
section
variable {P : Program}
/-- The rounds, told to the iterator: l: the record; X: the blocks of book-keeping (l among them). -/
theorem rounds {α : Type} {encs : α → Array Value} {ps : Array Tmp} {assign body : Code} {tmps : Array Value} {xs : List α} {A₀ : Nat → Prop} {B : Nat} {I : List α → (Nat → Prop) → World → Prop} {Ix : Code → (Nat → Prop) → World → Prop}
    (hI : Shy B I) (hIx : ∀ c, Shy B (fun (_ : Unit) => Ix c)) (hr : RoundOK P encs ps assign body tmps xs A₀ B I Ix) (hps : ∀ x, (encs x).size = ps.size) {fn : FuncId} {D l : Nat} (hl : B ≤ l) {X : Nat → Prop} (hX : X l)
    (rec : LoopState → Option Code → Loop) (hrec : rec = fun st pe => { state := st, pending := pe, fn, tmps, params := ps, assign, body, defers := D })
    {pre : List α} {x : α} {A : Nat → Prop} {W : World} (hi : I pre (fun b => A b ∨ X b) W) (hrl : W.heap[l]? = some (.loop (rec .ready none))) (hA : ¬ A l) (hp : pre ++ [x] <+: xs) (hsup : ∀ b, A₀ b → A b) (hltA : ∀ b, A b → b < W.heap.size) (hltX : ∀ b, X b → b < W.heap.size) :
    YieldAt Fence.wide 0 P l (encs x) W fun e W' => W.heap.size ≤ W'.heap.size ∧ Same A W W' ∧ (∀ b, X b → b ≠ l → W'.heap[b]? = W.heap[b]?) ∧
      ((e = .returned (.bool true) ∧ I (pre ++ [x]) (fun b => A b ∨ X b) W' ∧ W'.heap[l]? = some (.loop (rec .ready none))) ∨
       (e = .returned (.bool false) ∧ ∃ c, Ix c (fun b => A b ∨ X b) W' ∧ W'.heap[l]? = some (.loop (rec .done (some c))))) := by
  have hlt : l < W.heap.size := (Array.getElem?_eq_some_iff.1 hrl).1
  have hy := run_yield (P := P) (args := encs x) hrl (by rw [hrec]; exact hps x)
  rw [hrec] at hy
  refine ⟨fn, _, assign, body, hy, roundIn_of_wpIn trivial (wpIn_mono (hr l pre x _ W hp hl hlt (.inr hX) (fun b hb => .inl (hsup b hb)) (fun b hb => hb.elim (hltA b) (hltX b)) hi) ?_)⟩
  intro e a' Wa h
  cases e with
  | normal =>
    obtain ⟨hsz, hsame, hb⟩ := h
    have hla : Wa.heap[l]? = some (.loop (rec .ready none)) := (hsame l (.inr hX)).trans hrl
    have hlta : l < Wa.heap.size := (Array.getElem?_eq_some_iff.1 hla).1
    refine ⟨_, run_beginRound hla (by rw [hrec]), ?_⟩
    have hl2 : (Wa.putObj l (.loop { rec .ready none with state := .busy })).heap[l]? = some (.loop { rec .ready none with state := .busy }) := World.putObj_heap_same hlta
    have hc2 : Chg (· = l) Wa (Wa.putObj l (.loop { rec .ready none with state := .busy })) := (Chg.refl (· = l) Wa).put (r := l) (.inr rfl) _
    refine wpIn_mono (hb _ hc2 (by simp) ⟨_, hl2⟩) ?_
    have fin : ∀ (jump : Option Code) (W3 : World), (Wa.putObj l (.loop { rec .ready none with state := .busy })).heap.size ≤ W3.heap.size → Same (fun b => A b ∨ X b) (Wa.putObj l (.loop { rec .ready none with state := .busy })) W3 →
        (Instr.endRound l jump).run P W3 = .ok (.bool jump.isNone) (W3.putObj l (.loop (rec (if jump.isNone then .ready else .done) jump))) ∧
        W.heap.size ≤ (W3.putObj l (.loop (rec (if jump.isNone then .ready else .done) jump))).heap.size ∧
        Same A W (W3.putObj l (.loop (rec (if jump.isNone then .ready else .done) jump))) ∧
        (∀ b, X b → b ≠ l → (W3.putObj l (.loop (rec (if jump.isNone then .ready else .done) jump))).heap[b]? = W.heap[b]?) ∧
        (W3.putObj l (.loop (rec (if jump.isNone then .ready else .done) jump))).heap[l]? = some (.loop (rec (if jump.isNone then .ready else .done) jump)) ∧
        Chg (fun b => B ≤ b ∧ (A b ∨ X b)) W3 (W3.putObj l (.loop (rec (if jump.isNone then .ready else .done) jump))) := fun jump W3 hs3 hk3 => by
      have hl3 : W3.heap[l]? = some (.loop { rec .ready none with state := .busy }) := (hk3 l (.inr hX)).trans hl2
      have h1 := run_endRound (P := P) jump hl3
      have hx : ∀ b, (A b ∨ X b) → b ≠ l → (W3.putObj l (.loop (rec (if jump.isNone then .ready else .done) jump))).heap[b]? = W.heap[b]? := fun b hb hne =>
        (World.putObj_heap_other hne).trans ((hk3 b hb).trans ((World.putObj_heap_other hne).trans (hsame b hb)))
      refine ⟨?_, ?_, fun b hb => hx b (.inl hb) (fun e => hA (e ▸ hb)), fun b hb hne => hx b (.inr hb) hne, World.putObj_heap_same (Array.getElem?_eq_some_iff.1 hl3).1, (Chg.refl _ _).put (.inr ⟨hl, .inr hX⟩) _⟩
      · rw [hrec] at h1 ⊢; exact h1
      · rw [World.putObj_size] at hs3 ⊢; omega
    intro e a3 W3 hp3
    cases e with
    | normal =>
      obtain ⟨hs3, hk3, hi3⟩ := hp3
      obtain ⟨f1, f2, f3, f4, f5, f6⟩ := fin none W3 hs3 hk3
      exact ⟨_, _, f1, f2, f3, f4, .inl ⟨rfl, hI.step hi3 f6, f5⟩⟩
    | ret =>
      obtain ⟨hs3, hk3, hi3⟩ := hp3
      obtain ⟨f1, f2, f3, f4, f5, f6⟩ := fin (some .ret) W3 hs3 hk3
      exact ⟨_, _, f1, f2, f3, f4, .inr ⟨rfl, .ret, (hIx _).step (s := ()) hi3 f6, f5⟩⟩
    | exit id =>
      obtain ⟨hs3, hk3, hi3⟩ := hp3
      obtain ⟨f1, f2, f3, f4, f5, f6⟩ := fin (some (.exit id)) W3 hs3 hk3
      exact ⟨_, _, f1, f2, f3, f4, .inr ⟨rfl, .exit id, (hIx _).step (s := ()) hi3 f6, f5⟩⟩
    | goto t =>
      obtain ⟨hs3, hk3, hi3⟩ := hp3
      obtain ⟨f1, f2, f3, f4, f5, f6⟩ := fin (some (.goto t)) W3 hs3 hk3
      exact ⟨_, _, f1, f2, f3, f4, .inr ⟨rfl, .goto t, (hIx _).step (s := ()) hi3 f6, f5⟩⟩
    | panic ch => exact hp3.elim
    | outgrown => exact hp3.elim
  | ret => exact h.elim
  | exit id => exact h.elim
  | goto t => exact h.elim
  | panic ch => exact h.elim
  | outgrown => exact h.elim
/-- 'for x := range g { .. }', outermost. -/
theorem range_top {α : Type} {g : Operand} {ps : Array Tmp} {assign body : Code} {Q : Exit → Act → World → Prop} {a : Act} {w : World} {gf : Nat} {lb : Array Value} (hg : a.eval g = .func (.func gf) #[] lb)
    (eg : ∀ args w, (callFunc gf args).run P w = .ok (.enter gf args) w) {encs : α → Array Value} {xs : List α} {A₀ : Nat → Prop} (hseq : Seq P gf lb encs xs A₀ w) (hA₀ : ∀ b, A₀ b → b < w.heap.size) (hps : ∀ x, (encs x).size = ps.size)
    (I : List α → (Nat → Prop) → World → Prop) (Ix : Code → (Nat → Prop) → World → Prop) (hI : Shy w.heap.size I) (hIx : ∀ c, Shy w.heap.size (fun (_ : Unit) => Ix c)) (h0 : I [] A₀ w)
    (hround : RoundOK P encs ps assign body a.tmps xs A₀ w.heap.size I Ix)
    (hdone : ∀ (D : Nat) (A : Nat → Prop) (W : World), w.heap.size ≤ D → A D → (∀ b, A₀ b → A b) → (∀ b, A b → b < W.heap.size) → I xs A W → W.heap[D]? = some (.deferred (some [])) → Q .normal { a with defers := { target := .collected D, args := #[] } :: a.defers } W)
    (hstop : ∀ (D : Nat) (c : Code) (A : Nat → Prop) (W : World), w.heap.size ≤ D → A D → (∀ b, A₀ b → A b) → (∀ b, A b → b < W.heap.size) → Ix c A W → W.heap[D]? = some (.deferred (some [])) → c.wpIn Fence.wide 0 P Q { a with defers := { target := .collected D, args := #[] } :: a.defers } W) :
    (Code.rangeFunc g ps assign body).wpIn Fence.wide 0 P Q a w := by
  refine wpIn_rangeFunc ?_
  intro fn hfn
  rw [show Fence.wide.round = none from rfl]
  obtain ⟨rec, hrec⟩ : ∃ rec : LoopState → Option Code → Loop, rec = fun st pe => { state := st, pending := pe, fn, tmps := a.tmps, params := ps, assign, body, defers := w.heap.size } := ⟨_, rfl⟩
  obtain ⟨W1, hW1⟩ : ∃ W1, (w.alloc (.deferred (some []))).alloc (.loop (rec .ready none)) = W1 := ⟨_, rfl⟩
  have hL1 : W1.heap[w.heap.size + 1]? = some (.loop (rec .ready none)) := by
    rw [← hW1]; have := World.alloc_heap_new (w.alloc (.deferred (some []))) (.loop (rec .ready none)); rwa [World.size_alloc] at this
  have hK1 : W1.heap[w.heap.size]? = some (.deferred (some [])) := by
    rw [← hW1]; exact (Below.heap_alloc _ _ _ (by simp)).trans (World.alloc_heap_new w _)
  have hc1 : ∀ X, Chg X w W1 := fun X => by rw [← hW1]; exact ((Chg.refl X w).alloc _).alloc _
  have hs1 : W1.heap.size = w.heap.size + 2 := by rw [← hW1]; simp
  refine ⟨w.heap.size + 1, [{ target := .collected w.heap.size, args := #[] }], W1, { target := .fn (.func gf) lb, args := #[.func (.yield (w.heap.size + 1)) #[] #[]] }, W1, gf,
    #[.func (.yield (w.heap.size + 1)) #[] #[]] ++ lb, W1, ?_, ?_, ?_, ?_, (fun h => (by cases h)), ?_⟩
  · rw [← hW1, hrec]; exact run_enterLoop_outer _ _ _ _ _
  · simp only [resolve, hg]
    simp [go_sem]
  · intro f' hf'; trivial
  · simp [invoke, go_sem, eg]
  · have hX : ∀ b, (b = w.heap.size ∨ b = w.heap.size + 1) → w.heap.size ≤ b ∧ b < W1.heap.size := fun b hb => by omega
    refine (hseq (w.heap.size + 1)
      (fun pre A W => I pre (fun b => A b ∨ (b = w.heap.size ∨ b = w.heap.size + 1)) W ∧ W.heap[w.heap.size + 1]? = some (.loop (rec .ready none)) ∧ W.heap[w.heap.size]? = some (.deferred (some [])) ∧ ¬ A w.heap.size ∧ ¬ A (w.heap.size + 1))
      (fun _ A W => ∃ c, Ix c (fun b => A b ∨ (b = w.heap.size ∨ b = w.heap.size + 1)) W ∧ W.heap[w.heap.size + 1]? = some (.loop (rec .done (some c))) ∧ W.heap[w.heap.size]? = some (.deferred (some [])) ∧ ¬ A w.heap.size ∧ ¬ A (w.heap.size + 1))
      W1 (hc1 _) ?_ ?_ ?_ ?_).mono ?_
    · rintro s A A' U U' ⟨h1, h2, h3, h4, h5⟩ hc hA'
      have u1 := (Array.getElem?_eq_some_iff.1 h2).1
      have u2 := (Array.getElem?_eq_some_iff.1 h3).1
      refine ⟨hI s _ _ U U' h1 (hc.mono fun i hi => ⟨by omega, .inl hi.2⟩) (fun b hb => ?_), (hc.block _ u1 (fun h => h5 h.2)).trans h2, (hc.block _ u2 (fun h => h4 h.2)).trans h3, fun h => ?_, fun h => ?_⟩
      · rcases hb with hb | hb
        · exact (hA' b hb).elim (fun h => .inl (.inl h)) .inr
        · exact .inl (.inr hb)
      · exact (hA' _ h).elim h4 (by omega)
      · exact (hA' _ h).elim h5 (by omega)
    · rintro s A A' U U' ⟨c, h1, h2, h3, h4, h5⟩ hc hA'
      have u1 := (Array.getElem?_eq_some_iff.1 h2).1
      have u2 := (Array.getElem?_eq_some_iff.1 h3).1
      refine ⟨c, hIx c s _ _ U U' h1 (hc.mono fun i hi => ⟨by omega, .inl hi.2⟩) (fun b hb => ?_), (hc.block _ u1 (fun h => h5 h.2)).trans h2, (hc.block _ u2 (fun h => h4 h.2)).trans h3, fun h => ?_, fun h => ?_⟩
      · rcases hb with hb | hb
        · exact (hA' b hb).elim (fun h => .inl (.inl h)) .inr
        · exact .inl (.inr hb)
      · exact (hA' _ h).elim h4 (by omega)
      · exact (hA' _ h).elim h5 (by omega)
    · rintro pre x A U ⟨h1, h2, h3, h4, h5⟩ hpre hsub hltA
      have u1 := (Array.getElem?_eq_some_iff.1 h2).1
      have u2 := (Array.getElem?_eq_some_iff.1 h3).1
      obtain ⟨fn', tmps', assign', body', hy, hR⟩ := rounds (P := P) (D := w.heap.size) hI hIx hround hps (l := w.heap.size + 1) (by omega) (X := fun b => b = w.heap.size ∨ b = w.heap.size + 1) (.inr rfl) rec hrec h1 h2 h5 hpre hsub hltA (fun b hb => by rcases hb with rfl | rfl <;> assumption)
      refine ⟨fn', tmps', assign', body', hy, hR.mono ?_⟩
      rintro e U' ⟨g1, g2, g3, g4⟩
      refine ⟨g1, g2, ?_⟩
      rcases g4 with ⟨rfl, k1, k2⟩ | ⟨rfl, c, k1, k2⟩
      · exact .inl ⟨rfl, k1, k2, (g3 _ (.inl rfl) (by omega)).trans h3, h4, h5⟩
      · exact .inr ⟨rfl, c, k1, k2, (g3 _ (.inl rfl) (by omega)).trans h3, h4, h5⟩
    · refine ⟨hI [] A₀ _ w W1 h0 (hc1 _) (fun b hb => ?_), hL1, hK1, fun h => ?_, fun h => ?_⟩
      · rcases hb with hb | hb
        · exact .inl hb
        · exact .inr (hX b hb).1
      · have := hA₀ _ h; omega
      · have := hA₀ _ h; omega
    · rintro e W2 ⟨⟨v, rfl⟩, A, hsup, hltA, (⟨h1, h2, h3, h4, h5⟩ | ⟨c, h1, h2, h3, h4, h5⟩)⟩
      · refine ⟨none, _, by have := run_endLoop (P := P) h2 (by rw [hrec]; simp); rw [hrec] at this; exact this, hdone _ _ _ (Nat.le_refl _) (.inr (.inl rfl)) (fun b hb => .inl (hsup b hb)) (fun b hb => by
          have u1 := (Array.getElem?_eq_some_iff.1 h2).1
          have u2 := (Array.getElem?_eq_some_iff.1 h3).1
          rw [World.putObj_size]
          exact hb.elim (hltA b) (fun hb => by rcases hb with rfl | rfl <;> assumption)) (hI.step h1 ((Chg.refl _ _).put (.inr ⟨by omega, .inr (.inr rfl)⟩) _)) ((World.putObj_heap_other (by omega)).trans h3)⟩
      · refine ⟨some c, _, by have := run_endLoop (P := P) h2 (by rw [hrec]; simp); rw [hrec] at this; exact this, hstop _ c _ _ (Nat.le_refl _) (.inr (.inl rfl)) (fun b hb => .inl (hsup b hb)) (fun b hb => by
          have u1 := (Array.getElem?_eq_some_iff.1 h2).1
          have u2 := (Array.getElem?_eq_some_iff.1 h3).1
          rw [World.putObj_size]
          exact hb.elim (hltA b) (fun hb => by rcases hb with rfl | rfl <;> assumption)) ((hIx c).step (s := ()) h1 ((Chg.refl _ _).put (.inr ⟨by omega, .inr (.inr rfl)⟩) _)) ((World.putObj_heap_other (by omega)).trans h3)⟩
/-- The same within a round of another loop. -/
theorem range_in {α : Type} {g : Operand} {ps : Array Tmp} {assign body : Code} {Q : Exit → Act → World → Prop} {a : Act} {w : World} {l₀ : Nat} {r₀ : Loop} (hr₀ : w.heap[l₀]? = some (.loop r₀)) {gf : Nat} {lb : Array Value} (hg : a.eval g = .func (.func gf) #[] lb)
    (eg : ∀ args w, (callFunc gf args).run P w = .ok (.enter gf args) w) {encs : α → Array Value} {xs : List α} {A₀ : Nat → Prop} (hseq : Seq P gf lb encs xs A₀ w) (hA₀ : ∀ b, A₀ b → b < w.heap.size) (hps : ∀ x, (encs x).size = ps.size)
    (I : List α → (Nat → Prop) → World → Prop) (Ix : Code → (Nat → Prop) → World → Prop) (hI : Shy w.heap.size I) (hIx : ∀ c, Shy w.heap.size (fun (_ : Unit) => Ix c)) (h0 : I [] A₀ w)
    (hround : RoundOK P encs ps assign body a.tmps xs A₀ w.heap.size I Ix)
    (hdone : ∀ (A : Nat → Prop) (W : World), (∀ b, A₀ b → A b) → (∀ b, A b → b < W.heap.size) → I xs A W → Q .normal a W)
    (hstop : ∀ (c : Code) (A : Nat → Prop) (W : World), (∀ b, A₀ b → A b) → (∀ b, A b → b < W.heap.size) → Ix c A W → c.wpIn (Fence.wide.inRound l₀) 0 P Q a W) :
    (Code.rangeFunc g ps assign body).wpIn (Fence.wide.inRound l₀) 0 P Q a w := by
  refine wpIn_rangeFunc ?_
  intro fn hfn
  rw [show (Fence.wide.inRound l₀).round = some l₀ from rfl]
  obtain ⟨rec, hrec⟩ : ∃ rec : LoopState → Option Code → Loop, rec = fun st pe => { state := st, pending := pe, fn, tmps := a.tmps, params := ps, assign, body, defers := r₀.defers } := ⟨_, rfl⟩
  obtain ⟨W1, hW1⟩ : ∃ W1, w.alloc (.loop (rec .ready none)) = W1 := ⟨_, rfl⟩
  have hL1 : W1.heap[w.heap.size]? = some (.loop (rec .ready none)) := by rw [← hW1]; exact World.alloc_heap_new w _
  have hc1 : ∀ X, Chg X w W1 := fun X => by rw [← hW1]; exact (Chg.refl X w).alloc _
  have hs1 : W1.heap.size = w.heap.size + 1 := by rw [← hW1]; simp
  refine ⟨w.heap.size, [], W1, { target := .fn (.func gf) lb, args := #[.func (.yield w.heap.size) #[] #[]] }, W1, gf,
    #[.func (.yield w.heap.size) #[] #[]] ++ lb, W1, ?_, ?_, ?_, ?_, (fun h => (by cases h)), ?_⟩
  · rw [← hW1, hrec]; exact run_enterLoop_inner hr₀ _ _ _ _ _
  · simp only [resolve, hg]
    simp [go_sem]
  · intro f' hf'; trivial
  · simp [invoke, go_sem, eg]
  · refine CallsIn.inRound l₀ ((hseq w.heap.size
      (fun pre A W => I pre (fun b => A b ∨ b = w.heap.size) W ∧ W.heap[w.heap.size]? = some (.loop (rec .ready none)) ∧ ¬ A w.heap.size)
      (fun _ A W => ∃ c, Ix c (fun b => A b ∨ b = w.heap.size) W ∧ W.heap[w.heap.size]? = some (.loop (rec .done (some c))) ∧ ¬ A w.heap.size)
      W1 (hc1 _) ?_ ?_ ?_ ?_).mono ?_)
    · rintro s A A' U U' ⟨h1, h2, h5⟩ hc hA'
      have u1 := (Array.getElem?_eq_some_iff.1 h2).1
      refine ⟨hI s _ _ U U' h1 (hc.mono fun i hi => ⟨by omega, .inl hi.2⟩) (fun b hb => ?_), (hc.block _ u1 (fun h => h5 h.2)).trans h2, fun h => ?_⟩
      · rcases hb with hb | hb
        · exact (hA' b hb).elim (fun h => .inl (.inl h)) .inr
        · exact .inl (.inr hb)
      · exact (hA' _ h).elim h5 (by omega)
    · rintro s A A' U U' ⟨c, h1, h2, h5⟩ hc hA'
      have u1 := (Array.getElem?_eq_some_iff.1 h2).1
      refine ⟨c, hIx c s _ _ U U' h1 (hc.mono fun i hi => ⟨by omega, .inl hi.2⟩) (fun b hb => ?_), (hc.block _ u1 (fun h => h5 h.2)).trans h2, fun h => ?_⟩
      · rcases hb with hb | hb
        · exact (hA' b hb).elim (fun h => .inl (.inl h)) .inr
        · exact .inl (.inr hb)
      · exact (hA' _ h).elim h5 (by omega)
    · rintro pre x A U ⟨h1, h2, h5⟩ hpre hsub hltA
      have u1 := (Array.getElem?_eq_some_iff.1 h2).1
      obtain ⟨fn', tmps', assign', body', hy, hR⟩ := rounds (P := P) (D := r₀.defers) hI hIx hround hps (l := w.heap.size) (Nat.le_refl _) (X := fun b => b = w.heap.size) rfl rec hrec h1 h2 h5 hpre hsub hltA (fun b hb => by subst hb; exact u1)
      refine ⟨fn', tmps', assign', body', hy, hR.mono ?_⟩
      rintro e U' ⟨g1, g2, g3, g4⟩
      refine ⟨g1, g2, ?_⟩
      rcases g4 with ⟨rfl, k1, k2⟩ | ⟨rfl, c, k1, k2⟩
      · exact .inl ⟨rfl, k1, k2, h5⟩
      · exact .inr ⟨rfl, c, k1, k2, h5⟩
    · refine ⟨hI [] A₀ _ w W1 h0 (hc1 _) (fun b hb => ?_), hL1, fun h => ?_⟩
      · rcases hb with hb | hb
        · exact .inl hb
        · exact .inr (by omega)
      · have := hA₀ _ h; omega
    · rintro e W2 ⟨⟨v, rfl⟩, A, hsup, hltA, (⟨h1, h2, h5⟩ | ⟨c, h1, h2, h5⟩)⟩
      · exact ⟨none, _, by have := run_endLoop (P := P) h2 (by rw [hrec]; simp); rw [hrec] at this; exact this, hdone _ _ (fun b hb => .inl (hsup b hb)) (fun b hb => by
          have u1 := (Array.getElem?_eq_some_iff.1 h2).1
          rw [World.putObj_size]
          exact hb.elim (hltA b) (fun hb => by subst hb; exact u1)) (hI.step h1 ((Chg.refl _ _).put (.inr ⟨by omega, .inr rfl⟩) _))⟩
      · exact ⟨some c, _, by have := run_endLoop (P := P) h2 (by rw [hrec]; simp); rw [hrec] at this; exact this, hstop c _ _ (fun b hb => .inl (hsup b hb)) (fun b hb => by
          have u1 := (Array.getElem?_eq_some_iff.1 h2).1
          rw [World.putObj_size]
          exact hb.elim (hltA b) (fun hb => by subst hb; exact u1)) ((hIx c).step (s := ()) h1 ((Chg.refl _ _).put (.inr ⟨by omega, .inr rfl⟩) _))⟩
end
end Go.Proofs.Ytpjcmhlgdgadjaa

namespace Go.Proofs.Ytpjcmhlgdgadjaa
set_option linter.unusedVariables false
/-- An element of a row: its cells; of each cell, the row that it names. -/
inductive Tr where
  | mk (cs : List Value) (rows : List (List Tr))
def Tr.cs : Tr → List Value | .mk cs _ => cs
def Tr.rows : Tr → List (List Tr) | .mk _ rows => rows
def Tr.c (t : Tr) (i : Nat) : Value := t.cs.getD i undef
def Tr.r (t : Tr) (i : Nat) : List Tr := t.rows.getD i []
def Tr.k (t : Tr) (i : Nat) : Int := match t.c i with | .int _ k => k | _ => 0
def Tr.s (t : Tr) (i : Nat) : ByteArray := match t.c i with | .string s => s | _ => ByteArray.empty
mutual
def Tr.sz : Tr → Nat
  | .mk _ rows => 1 + szR rows
def szR : List (List Tr) → Nat
  | [] => 0
  | l :: r => szL l + szR r
def szL : List Tr → Nat
  | [] => 0
  | t :: r => t.sz + szL r
end
theorem Tr.sz_pos (t : Tr) : 1 ≤ t.sz := by cases t; simp [Tr.sz]
theorem szL_append (a b : List Tr) : szL (a ++ b) = szL a + szL b := by
  induction a with
  | nil => simp [szL]
  | cons t a ih => simp [szL, ih, Nat.add_assoc]
theorem szL_len (l : List Tr) : l.length ≤ szL l := by
  induction l with
  | nil => simp
  | cons t l ih => have := t.sz_pos; simp [szL]; omega
theorem szL_mem {t : Tr} {l : List Tr} (h : t ∈ l) : t.sz ≤ szL l := by
  induction l with
  | nil => cases h
  | cons a l ih =>
    simp only [szL]
    rcases List.mem_cons.1 h with rfl | h
    · omega
    · have := ih h; omega
theorem szR_get (rows : List (List Tr)) (i : Nat) : szL (rows.getD i []) ≤ szR rows := by
  induction rows generalizing i with
  | nil => simp [szL]
  | cons l r ih =>
    cases i with
    | zero => simp [szR]
    | succ i => have := ih i; simp only [List.getD_cons_succ, szR]; omega
theorem Tr.sz_r (t : Tr) (i : Nat) : szL (t.r i) < t.sz := by
  cases t with
  | mk cs rows => have := szR_get rows i; simp only [Tr.sz, Tr.r, Tr.rows]; omega
theorem szL_flat {f g : Tr → List Tr} (h : ∀ t, szL (f t) ≤ szL (g t)) (l : List Tr) : szL (l.flatMap f) ≤ szL (l.flatMap g) := by
  induction l with
  | nil => simp
  | cons t l ih => have := h t; simp only [List.flatMap_cons, szL_append]; omega
theorem szL_flat1 {f : Tr → List Tr} (h : ∀ t, szL (f t) ≤ t.sz) (l : List Tr) : szL (l.flatMap f) ≤ szL l := by
  induction l with
  | nil => simp
  | cons t l ih => have := h t; simp only [List.flatMap_cons, szL_append, szL]; omega
theorem szL_map1 {f : Tr → Tr} (h : ∀ t, (f t).sz ≤ t.sz) (l : List Tr) : szL (l.map f) ≤ szL l := by
  induction l with
  | nil => simp
  | cons t l ih => have := h t; simp only [List.map_cons, szL]; omega
/-- All commands in parts, in order: rows of nodes. -/
def cmdsL : List Tr → List Tr
  | [] => []
  | p :: r => (if p.k 0 = 6 then [.mk [p.c 4] [p.r 4]] else []) ++ (cmdsL (p.r 3) ++ cmdsL r)
termination_by l => szL l
decreasing_by
  · have := p.sz_r 3; simp only [szL]; omega
  · have := p.sz_pos; simp only [szL]; omega
theorem cmdsL_nil : cmdsL [] = [] := by rw [cmdsL]
theorem cmdsL_cons (p : Tr) (r : List Tr) : cmdsL (p :: r) = (if p.k 0 = 6 then [.mk [p.c 4] [p.r 4]] else []) ++ (cmdsL (p.r 3) ++ cmdsL r) := by rw [cmdsL]
theorem cmdsL_append (a b : List Tr) : cmdsL (a ++ b) = cmdsL a ++ cmdsL b := by
  induction a with
  | nil => rw [cmdsL_nil]; simp
  | cons p a ih => rw [List.cons_append, cmdsL_cons, cmdsL_cons, ih]; simp
/-- The nodes in parts. -/
def inParts (l : List Tr) : List Tr := (cmdsL l).flatMap (·.r 0)
theorem szR_two {rows : List (List Tr)} {i j : Nat} (h : i < j) : szL (rows.getD i []) + szL (rows.getD j []) ≤ szR rows := by
  induction rows generalizing i j with
  | nil => simp [szL]
  | cons l r ih =>
    cases j with
    | zero => omega
    | succ j =>
      cases i with
      | zero => have := szR_get r j; simp only [List.getD_cons_zero, List.getD_cons_succ, szR]; omega
      | succ i => have := ih (i := i) (j := j) (by omega); simp only [List.getD_cons_succ, szR]; omega
theorem sz_inParts (N : Nat) : ∀ l, szL l ≤ N → szL (inParts l) ≤ szL l := by
  induction N with
  | zero =>
    intro l h
    cases l with
    | nil => unfold inParts; rw [cmdsL_nil]; simp
    | cons p r => have := p.sz_pos; simp only [szL] at h; omega
  | succ N ih =>
    intro l
    induction l with
    | nil => intro _; unfold inParts; rw [cmdsL_nil]; simp
    | cons p r ihr =>
      intro h
      simp only [szL] at h ⊢
      have h3 := ih (p.r 3) (by have := p.sz_r 3; omega)
      have hr := ihr (by omega)
      have h34 : szL (p.r 3) + szL (p.r 4) < p.sz := by
        cases p with
        | mk cs rows => have := szR_two (rows := rows) (i := 3) (j := 4) (by omega); simp only [Tr.sz, Tr.r, Tr.rows]; omega
      unfold inParts at *
      rw [cmdsL_cons, List.flatMap_append, List.flatMap_append, szL_append, szL_append]
      have h0 : szL ((if p.k 0 = 6 then [Tr.mk [p.c 4] [p.r 4]] else []).flatMap (·.r 0)) ≤ szL (p.r 4) := by
        split
        · simp [Tr.r, Tr.rows]
        · simp [szL]
      omega
/-- A word with these parts. -/
def wordOf (v : Value) (l : List Tr) : Tr := .mk [v] [l]
/-- A node's own words. -/
def own (n : Tr) : List Tr := n.r 5 ++ n.r 6 ++ (n.r 7).map (fun r => wordOf (r.c 2) (r.r 2)) ++ (n.r 8).flatMap (·.r 0)
/-- What an arm does. -/
def Tr.body (a : Tr) : Tr := .mk (a.cs.drop 1) (a.rows.drop 1)
/-- The nodes just below a node. -/
def below (n : Tr) : List Tr := (own n).flatMap (fun w => inParts (w.r 0)) ++ (n.r 8).map Tr.body ++ n.r 9
theorem Tr.sz_body (a : Tr) : szL (a.r 0) + a.body.sz ≤ a.sz := by
  cases a with
  | mk cs rows => cases rows <;> simp [Tr.sz, Tr.body, Tr.r, Tr.rows, szR, szL] <;> omega
theorem sz_word (w : Tr) : szL (inParts (w.r 0)) ≤ w.sz := Nat.le_trans (sz_inParts _ _ (Nat.le_refl _)) (Nat.le_of_lt (w.sz_r 0))
theorem szR_five (rows : List (List Tr)) : szL (rows.getD 5 []) + szL (rows.getD 6 []) + szL (rows.getD 7 []) + szL (rows.getD 8 []) + szL (rows.getD 9 []) ≤ szR rows := by
  match rows with
  | [] => simp [szL]
  | [_] => simp [szL]
  | [_, _] => simp [szL]
  | [_, _, _] => simp [szL]
  | [_, _, _, _] => simp [szL]
  | [_, _, _, _, _] => simp [szL]
  | [_, _, _, _, _, _] => simp [szL, szR]; omega
  | [_, _, _, _, _, _, _] => simp [szL, szR]; omega
  | [_, _, _, _, _, _, _, _] => simp [szL, szR]; omega
  | [_, _, _, _, _, _, _, _, _] => simp [szL, szR]; omega
  | _ :: _ :: _ :: _ :: _ :: _ :: _ :: _ :: _ :: _ :: _ => simp [szR]; omega
theorem sz_arms (l : List Tr) : szL (l.flatMap (·.r 0)) + szL (l.map Tr.body) ≤ szL l := by
  induction l with
  | nil => simp [szL]
  | cons a l ih => have := a.sz_body; simp only [List.flatMap_cons, List.map_cons, szL_append, szL]; omega
theorem sz_redirs (l : List Tr) : szL (l.map (fun r => wordOf (r.c 2) (r.r 2))) ≤ szL l := szL_map1 (fun t => by
  have := t.sz_r 2
  simp only [wordOf, Tr.sz, szR]; omega) l
theorem sz_below (n : Tr) : szL (below n) < n.sz := by
  have h1 := szL_flat1 sz_word (own n)
  have h2 := sz_arms (n.r 8)
  have h3 := sz_redirs (n.r 7)
  have h4 : szL (n.r 5) + szL (n.r 6) + szL (n.r 7) + szL (n.r 8) + szL (n.r 9) < n.sz := by
    cases n with
    | mk cs rows => have := szR_five rows; simp only [Tr.sz, Tr.r, Tr.rows]; omega
  have h5 : szL (own n) = szL (n.r 5) + szL (n.r 6) + szL ((n.r 7).map (fun r => wordOf (r.c 2) (r.r 2))) + szL ((n.r 8).flatMap (·.r 0)) := by
    simp only [own, szL_append]
  unfold below
  simp only [szL_append]
  omega
theorem sz_own (n : Tr) : szL (own n) < n.sz := by
  have h2 := sz_arms (n.r 8)
  have h3 := sz_redirs (n.r 7)
  have h4 : szL (n.r 5) + szL (n.r 6) + szL (n.r 7) + szL (n.r 8) + szL (n.r 9) < n.sz := by
    cases n with
    | mk cs rows => have := szR_five rows; simp only [Tr.sz, Tr.r, Tr.rows]; omega
  have h5 : szL (own n) = szL (n.r 5) + szL (n.r 6) + szL ((n.r 7).map (fun r => wordOf (r.c 2) (r.r 2))) + szL ((n.r 8).flatMap (·.r 0)) := by
    simp only [own, szL_append]
  omega
/-- All nodes of nodes, each ahead of those below it. -/
def allL : List Tr → List Tr
  | [] => []
  | n :: r => n :: (allL (below n) ++ allL r)
termination_by l => szL l
decreasing_by
  · have := sz_below n; simp only [szL]; omega
  · have := n.sz_pos; simp only [szL]; omega
theorem allL_nil : allL [] = [] := by rw [allL]
theorem allL_cons (n : Tr) (r : List Tr) : allL (n :: r) = n :: (allL (below n) ++ allL r) := by rw [allL]
theorem allL_append (a b : List Tr) : allL (a ++ b) = allL a ++ allL b := by
  induction a with
  | nil => rw [allL_nil]; simp
  | cons n a ih => rw [List.cons_append, allL_cons, allL_cons, ih]; simp
/-- All nodes of a node. -/
def all (n : Tr) : List Tr := allL [n]
theorem all_eq (n : Tr) : all n = n :: allL (below n) := by unfold all; rw [allL_cons, allL_nil, List.append_nil]
theorem allL_flat (l : List Tr) : allL l = l.flatMap all := by
  induction l with
  | nil => rw [allL_nil]; rfl
  | cons n l ih => rw [allL_cons, List.flatMap_cons, all_eq, ih]; rfl
theorem allL_sz (N : Nat) : ∀ l, szL l ≤ N → (allL l).length ≤ szL l := by
  induction N with
  | zero =>
    intro l h
    cases l with
    | nil => rw [allL_nil]; simp
    | cons p r => have := p.sz_pos; simp only [szL] at h; omega
  | succ N ih =>
    intro l
    induction l with
    | nil => intro _; rw [allL_nil]; simp
    | cons n r ihr =>
      intro h
      simp only [szL] at h ⊢
      have h1 := sz_below n
      have h2 := ih (below n) (by omega)
      have h3 := ihr (by omega)
      rw [allL_cons, List.length_cons, List.length_append]
      omega
theorem all_sz (n : Tr) : (all n).length ≤ n.sz := by
  have := allL_sz _ [n] (Nat.le_refl _)
  simpa [szL, all] using this
/-- How deep nodes stand within each other. -/
def deepL : List Tr → Nat
  | [] => 0
  | n :: r => max (1 + deepL (below n)) (deepL r)
termination_by l => szL l
decreasing_by
  · have := sz_below n; simp only [szL]; omega
  · have := n.sz_pos; simp only [szL]; omega
theorem deepL_nil : deepL [] = 0 := by rw [deepL]
theorem deepL_cons (n : Tr) (r : List Tr) : deepL (n :: r) = max (1 + deepL (below n)) (deepL r) := by rw [deepL]
theorem deepL_append (a b : List Tr) : deepL (a ++ b) = max (deepL a) (deepL b) := by
  induction a with
  | nil => rw [deepL_nil]; simp
  | cons n a ih => rw [List.cons_append, deepL_cons, deepL_cons, ih, Nat.max_assoc]
def deep (n : Tr) : Nat := 1 + deepL (below n)
theorem deepL_one (n : Tr) : deepL [n] = deep n := by rw [deepL_cons, deepL_nil]; unfold deep; simp
theorem deepL_all (N : Nat) : ∀ l, szL l ≤ N → deepL l ≤ (allL l).length := by
  induction N with
  | zero =>
    intro l h
    cases l with
    | nil => rw [deepL_nil]; simp
    | cons p r => have := p.sz_pos; simp only [szL] at h; omega
  | succ N ih =>
    intro l
    induction l with
    | nil => intro _; rw [deepL_nil]; simp
    | cons n r ihr =>
      intro h
      simp only [szL] at h
      have h1 := sz_below n
      have h2 := ih (below n) (by omega)
      have h3 := ihr (by omega)
      rw [deepL_cons, allL_cons, List.length_cons, List.length_append]
      omega
theorem deep_all (n : Tr) : deep n ≤ (all n).length := by
  have := deepL_all _ [n] (Nat.le_refl _)
  rwa [deepL_one] at this
/-- What a simple command calls. -/
def plainOf (w : Tr) : Option ByteArray := match w.r 0 with
  | [p] => if p.k 0 = 1 then some (p.s 1) else none
  | _ => none
def callOf (n : Tr) : List ByteArray := if n.k 0 = 4 then (match n.r 6 with | w :: _ => (plainOf w).toList | [] => []) else []
def calls (n : Tr) : List ByteArray := (all n).flatMap callOf
theorem callOf_len (n : Tr) : (callOf n).length ≤ 1 := by
  unfold callOf
  split
  · split
    · cases plainOf _ <;> simp
    · simp
  · simp
theorem flat_len1 {α β : Type} {f : α → List β} (h : ∀ x, (f x).length ≤ 1) (l : List α) : (l.flatMap f).length ≤ l.length := by
  induction l with
  | nil => simp
  | cons x l ih => have := h x; simp only [List.flatMap_cons, List.length_append, List.length_cons]; omega
theorem calls_len (n : Tr) : (calls n).length ≤ (all n).length := flat_len1 callOf_len _
def wordsOf (n : Tr) : List Tr := (all n).flatMap own
end Go.Proofs.Ytpjcmhlgdgadjaa

namespace Go.Proofs.Ytpjcmhlgdgadjaa
open Go.RowKit
set_option linter.unusedVariables false
inductive Ty where
  | ints | part | word | redir | arm | node | lst
inductive Fd where
  | int | str | bool
  | row (t : Ty)
def nodeF : List Fd := [.int, .str, .bool, .bool, .row .ints, .row .word, .row .word, .row .redir, .row .arm, .row .node]
def Ty.flds : Ty → List Fd
  | .ints => [.int]
  | .part => [.int, .str, .str, .row .part, .row .node]
  | .word => [.row .part]
  | .redir => [.str, .int, .row .part, .str]
  | .arm => .row .word :: nodeF
  | .node => nodeF
  | .lst => [.row .node]
/-- The row that a slice names: elements of m cells, in a block of A's. -/
structure RowAt (A : Nat → Prop) (w : World) (m : Nat) (v : Value) (l : List Tr) : Prop where
  len : l.length ≤ 1048576
  lies : ∃ a c, v = .slice a l.length c ∧ (a = none → c = 0) ∧ l.length ≤ c ∧ c ≤ maxLen ∧ ∀ k x, l[k]? = some x → ∃ b off, a = some ⟨b, off, none⟩ ∧ A b ∧ b < w.heap.size ∧ ∀ j, j < m → w.cell? ⟨b, off + k * m + j, none⟩ = x.cs[j]?
theorem RowAt.keep {A A' : Nat → Prop} {w w' : World} {m : Nat} {v : Value} {l : List Tr} (h : RowAt A w m v l) (hA : ∀ b, A b → A' b) (hs : w.heap.size ≤ w'.heap.size) (hb : Same A w w') : RowAt A' w' m v l := by
  obtain ⟨a, c, rfl, h0, h1, h2, h3⟩ := h.lies
  refine ⟨h.len, a, c, rfl, h0, h1, h2, fun k x hx => ?_⟩
  obtain ⟨b, off, e, hAb, hlt, hc⟩ := h3 k x hx
  refine ⟨b, off, e, hA b hAb, Nat.lt_of_lt_of_le hlt hs, fun j hj => ?_⟩
  rw [← hc j hj]
  unfold World.cell?
  rw [hb b hAb]
def FieldAt (A : Nat → Prop) (w : World) : Fd → Value → List Tr → Prop
  | .int, v, l => l = [] ∧ ∃ k : Int, v = .int .i64 k ∧ -9223372036854775808 ≤ k ∧ k ≤ 9223372036854775807
  | .str, v, l => l = [] ∧ ∃ s : ByteArray, v = .string s ∧ s.size ≤ 1048576
  | .bool, v, l => l = [] ∧ ∃ b : Bool, v = .bool b
  | .row t, v, l => RowAt A w t.flds.length v l
theorem FieldAt.keep {A A' : Nat → Prop} {w w' : World} {f : Fd} {v : Value} {l : List Tr} (h : FieldAt A w f v l) (hA : ∀ b, A b → A' b) (hs : w.heap.size ≤ w'.heap.size) (hb : Same A w w') : FieldAt A' w' f v l := by
  cases f with
  | int => exact h
  | str => exact h
  | bool => exact h
  | row t => exact RowAt.keep h hA hs hb
inductive Lies (A : Nat → Prop) (w : World) : Ty → Tr → Prop where
  | mk (ty : Ty) (cs : List Value) (rows : List (List Tr)) (hc : cs.length = ty.flds.length) (hr : rows.length = ty.flds.length)
      (hf : ∀ i f, ty.flds[i]? = some f → FieldAt A w f (cs.getD i undef) (rows.getD i []))
      (hk : ∀ i t, ty.flds[i]? = some (.row t) → ∀ x ∈ rows.getD i [], Lies A w t x) : Lies A w ty (.mk cs rows)
theorem Lies.keep {A A' : Nat → Prop} {w w' : World} {ty : Ty} {t : Tr} (h : Lies A w ty t) (hA : ∀ b, A b → A' b) (hs : w.heap.size ≤ w'.heap.size) (hb : Same A w w') : Lies A' w' ty t := by
  induction h with
  | mk ty cs rows hc hr hf hk ih => exact .mk ty cs rows hc hr (fun i f e => (hf i f e).keep hA hs hb) (fun i t e x hx => ih i t e x hx)
section
variable {A : Nat → Prop} {w : World} {ty : Ty} {t : Tr}
theorem Lies.field (h : Lies A w ty t) {i : Nat} {f : Fd} (e : ty.flds[i]? = some f) : FieldAt A w f (t.c i) (t.r i) := by
  cases h with
  | mk ty cs rows hc hr hf hk => exact hf i f e
theorem Lies.kids (h : Lies A w ty t) {i : Nat} {u : Ty} (e : ty.flds[i]? = some (.row u)) : ∀ x ∈ t.r i, Lies A w u x := by
  cases h with
  | mk ty cs rows hc hr hf hk => exact hk i u e
theorem Lies.row (h : Lies A w ty t) {i : Nat} {u : Ty} (e : ty.flds[i]? = some (.row u)) : RowAt A w u.flds.length (t.c i) (t.r i) := h.field e
theorem Lies.len (h : Lies A w ty t) : t.cs.length = ty.flds.length := by
  cases h with
  | mk ty cs rows hc hr hf hk => exact hc
theorem Lies.rlen (h : Lies A w ty t) : t.rows.length = ty.flds.length := by
  cases h with
  | mk ty cs rows hc hr hf hk => exact hr
theorem RowAt.form {m : Nat} {v : Value} {l : List Tr} (h : RowAt A w m v l) : ∃ a c, v = .slice a l.length c := by
  obtain ⟨a, c, e, _⟩ := h.lies
  exact ⟨a, c, e⟩
/-- A part's five cells. -/
theorem Lies.part (h : Lies A w .part t) : ∃ (k : Int) (s o : ByteArray) (pa : Option Addr) (pc : Nat) (na : Option Addr) (nc : Nat) (ps ns : List Tr), t = .mk [.int .i64 k, .string s, .string o, .slice pa ps.length pc, .slice na ns.length nc] [[], [], [], ps, ns] ∧
    s.size ≤ 1048576 ∧ o.size ≤ 1048576 ∧ RowAt A w 5 (.slice pa ps.length pc) ps ∧ RowAt A w 10 (.slice na ns.length nc) ns ∧ (∀ x ∈ ps, Lies A w .part x) ∧ ∀ x ∈ ns, Lies A w .node x := by
  cases h with
  | mk ty cs rows hc hr hf hk =>
    match cs, hc, rows, hr with
    | [c0, c1, c2, c3, c4], _, [r0, r1, r2, r3, r4], _ =>
      obtain ⟨e0, k, e0', -⟩ := hf 0 .int rfl
      obtain ⟨e1, s, e1', q1⟩ := hf 1 .str rfl
      obtain ⟨e2, o, e2', q2⟩ := hf 2 .str rfl
      have h3 : RowAt A w 5 c3 r3 := hf 3 (.row .part) rfl
      have h4 : RowAt A w 10 c4 r4 := hf 4 (.row .node) rfl
      obtain ⟨a3, k3, e3⟩ := h3.form
      obtain ⟨a4, k4, e4⟩ := h4.form
      simp only [List.getD_cons_zero, List.getD_cons_succ] at e0 e1 e2 e0' e1' e2'
      subst e0 e1 e2 e0' e1' e2' e3 e4
      exact ⟨k, s, o, a3, k3, a4, k4, r3, r4, rfl, q1, q2, h3, h4, hk 3 .part rfl, hk 4 .node rfl⟩
theorem Lies.word (h : Lies A w .word t) : ∃ (pa : Option Addr) (pc : Nat) (ps : List Tr), t = .mk [.slice pa ps.length pc] [ps] ∧ RowAt A w 5 (.slice pa ps.length pc) ps ∧ ∀ x ∈ ps, Lies A w .part x := by
  cases h with
  | mk ty cs rows hc hr hf hk =>
    match cs, hc, rows, hr with
    | [c0], _, [r0], _ =>
      have h0 : RowAt A w 5 c0 r0 := hf 0 (.row .part) rfl
      obtain ⟨a0, k0, e0⟩ := h0.form
      subst e0
      exact ⟨a0, k0, r0, rfl, h0, hk 0 .part rfl⟩
theorem Lies.lst (h : Lies A w .lst t) : ∃ (pa : Option Addr) (pc : Nat) (ps : List Tr), t = .mk [.slice pa ps.length pc] [ps] ∧ RowAt A w 10 (.slice pa ps.length pc) ps ∧ ∀ x ∈ ps, Lies A w .node x := by
  cases h with
  | mk ty cs rows hc hr hf hk =>
    match cs, hc, rows, hr with
    | [c0], _, [r0], _ =>
      have h0 : RowAt A w 10 c0 r0 := hf 0 (.row .node) rfl
      obtain ⟨a0, k0, e0⟩ := h0.form
      subst e0
      exact ⟨a0, k0, r0, rfl, h0, hk 0 .node rfl⟩
theorem Lies.redir (h : Lies A w .redir t) : ∃ (n : ByteArray) (k : Int) (pa : Option Addr) (pc : Nat) (ps : List Tr) (s : ByteArray), t = .mk [.string n, .int .i64 k, .slice pa ps.length pc, .string s] [[], [], ps, []] ∧
    n.size ≤ 1048576 ∧ s.size ≤ 1048576 ∧ RowAt A w 5 (.slice pa ps.length pc) ps ∧ ∀ x ∈ ps, Lies A w .part x := by
  cases h with
  | mk ty cs rows hc hr hf hk =>
    match cs, hc, rows, hr with
    | [c0, c1, c2, c3], _, [r0, r1, r2, r3], _ =>
      obtain ⟨e0, n, e0', q0⟩ := hf 0 .str rfl
      obtain ⟨e1, k, e1', -⟩ := hf 1 .int rfl
      have h2 : RowAt A w 5 c2 r2 := hf 2 (.row .part) rfl
      obtain ⟨e3, s, e3', q3⟩ := hf 3 .str rfl
      obtain ⟨a2, k2, e2⟩ := h2.form
      simp only [List.getD_cons_zero, List.getD_cons_succ] at e0 e1 e3 e0' e1' e3'
      subst e0 e1 e3 e0' e1' e3' e2
      exact ⟨n, k, a2, k2, r2, s, rfl, q0, q3, h2, hk 2 .part rfl⟩
/-- A node's ten cells. -/
theorem Lies.node (h : Lies A w .node t) : ∃ (k : Int) (s : ByteArray) (b1 b2 : Bool) (oa : Option Addr) (oc : Nat) (aa : Option Addr) (ac : Nat) (wa : Option Addr) (wc : Nat) (ra : Option Addr) (rc : Nat) (ma : Option Addr) (mc : Nat) (ka : Option Addr) (kc : Nat) (os gs ws rs ms ks : List Tr),
    t = .mk [.int .i64 k, .string s, .bool b1, .bool b2, .slice oa os.length oc, .slice aa gs.length ac, .slice wa ws.length wc, .slice ra rs.length rc, .slice ma ms.length mc, .slice ka ks.length kc] [[], [], [], [], os, gs, ws, rs, ms, ks] ∧
    s.size ≤ 1048576 ∧ RowAt A w 1 (.slice oa os.length oc) os ∧ RowAt A w 1 (.slice aa gs.length ac) gs ∧ RowAt A w 1 (.slice wa ws.length wc) ws ∧ RowAt A w 4 (.slice ra rs.length rc) rs ∧ RowAt A w 11 (.slice ma ms.length mc) ms ∧ RowAt A w 10 (.slice ka ks.length kc) ks ∧
    (∀ x ∈ os, Lies A w .ints x) ∧ (∀ x ∈ gs, Lies A w .word x) ∧ (∀ x ∈ ws, Lies A w .word x) ∧ (∀ x ∈ rs, Lies A w .redir x) ∧ (∀ x ∈ ms, Lies A w .arm x) ∧ ∀ x ∈ ks, Lies A w .node x := by
  cases h with
  | mk ty cs rows hc hr hf hk =>
    match cs, hc, rows, hr with
    | [c0, c1, c2, c3, c4, c5, c6, c7, c8, c9], _, [r0, r1, r2, r3, r4, r5, r6, r7, r8, r9], _ =>
      obtain ⟨e0, k, e0', -⟩ := hf 0 .int rfl
      obtain ⟨e1, s, e1', q1⟩ := hf 1 .str rfl
      obtain ⟨e2, b1, e2'⟩ := hf 2 .bool rfl
      obtain ⟨e3, b2, e3'⟩ := hf 3 .bool rfl
      have h4 : RowAt A w 1 c4 r4 := hf 4 (.row .ints) rfl
      have h5 : RowAt A w 1 c5 r5 := hf 5 (.row .word) rfl
      have h6 : RowAt A w 1 c6 r6 := hf 6 (.row .word) rfl
      have h7 : RowAt A w 4 c7 r7 := hf 7 (.row .redir) rfl
      have h8 : RowAt A w 11 c8 r8 := hf 8 (.row .arm) rfl
      have h9 : RowAt A w 10 c9 r9 := hf 9 (.row .node) rfl
      obtain ⟨a4, k4, e4⟩ := h4.form
      obtain ⟨a5, k5, e5⟩ := h5.form
      obtain ⟨a6, k6, e6⟩ := h6.form
      obtain ⟨a7, k7, e7⟩ := h7.form
      obtain ⟨a8, k8, e8⟩ := h8.form
      obtain ⟨a9, k9, e9⟩ := h9.form
      simp only [List.getD_cons_zero, List.getD_cons_succ] at e0 e1 e2 e3 e0' e1' e2' e3'
      subst e0 e1 e2 e3 e0' e1' e2' e3' e4 e5 e6 e7 e8 e9
      exact ⟨k, s, b1, b2, a4, k4, a5, k5, a6, k6, a7, k7, a8, k8, a9, k9, r4, r5, r6, r7, r8, r9, rfl, q1, h4, h5, h6, h7, h8, h9, hk 4 .ints rfl, hk 5 .word rfl, hk 6 .word rfl, hk 7 .redir rfl, hk 8 .arm rfl, hk 9 .node rfl⟩
/-- An arm's body is a node. -/
theorem Lies.body (h : Lies A w .arm t) : Lies A w .node t.body := by
  cases h with
  | mk ty cs rows hc hr hf hk =>
    match cs, hc, rows, hr with
    | c0 :: cs, hc, r0 :: rows, hr =>
      refine .mk .node cs rows (by simpa [Ty.flds] using hc) (by simpa [Ty.flds] using hr) (fun i f e => ?_) (fun i u e => ?_)
      · have := hf (i + 1) f (by simpa [Ty.flds] using e)
        simpa using this
      · have := hk (i + 1) u (by simpa [Ty.flds] using e)
        simpa using this
theorem Lies.arm (h : Lies A w .arm t) : ∃ (pa : Option Addr) (pc : Nat) (ps : List Tr), t = .mk (.slice pa ps.length pc :: t.body.cs) (ps :: t.body.rows) ∧ RowAt A w 1 (.slice pa ps.length pc) ps ∧ ∀ x ∈ ps, Lies A w .word x := by
  cases h with
  | mk ty cs rows hc hr hf hk =>
    match cs, hc, rows, hr with
    | c0 :: cs, hc, r0 :: rows, hr =>
      have h0 : RowAt A w 1 c0 r0 := hf 0 (.row .word) rfl
      obtain ⟨a0, k0, e0⟩ := h0.form
      subst e0
      exact ⟨a0, k0, r0, rfl, h0, hk 0 .word rfl⟩
theorem Lies.wordOf {v : Value} {l : List Tr} (h : RowAt A w 5 v l) (hk : ∀ x ∈ l, Lies A w .part x) : Lies A w .word (wordOf v l) := by
  refine .mk .word [v] [l] rfl rfl (fun i f e => ?_) (fun i u e => ?_)
  · match i with
    | 0 => cases e; exact h
    | i + 1 => simp [Ty.flds] at e
  · match i with
    | 0 => cases e; exact hk
    | i + 1 => simp [Ty.flds] at e
theorem Lies.lstOf {v : Value} {l : List Tr} (h : RowAt A w 10 v l) (hk : ∀ x ∈ l, Lies A w .node x) : Lies A w .lst (.mk [v] [l]) := by
  refine .mk .lst [v] [l] rfl rfl (fun i f e => ?_) (fun i u e => ?_)
  · match i with
    | 0 => cases e; exact h
    | i + 1 => simp [Ty.flds] at e
  · match i with
    | 0 => cases e; exact hk
    | i + 1 => simp [Ty.flds] at e
theorem own_lies (h : Lies A w .node t) : ∀ x ∈ own t, Lies A w .word x := by
  intro x hx
  unfold own at hx
  simp only [List.mem_append, List.mem_map, List.mem_flatMap] at hx
  rcases hx with ((hx | hx) | ⟨r, hr, rfl⟩) | ⟨a, ha, hx⟩
  · exact h.kids (i := 5) rfl x hx
  · exact h.kids (i := 6) rfl x hx
  · have := h.kids (i := 7) rfl r hr
    exact .wordOf (this.row (i := 2) (u := .part) rfl) (this.kids (i := 2) (u := .part) rfl)
  · have := h.kids (i := 8) rfl a ha
    exact this.kids (i := 0) (u := .word) rfl x hx
theorem cmds_lies (N : Nat) : ∀ l : List Tr, szL l ≤ N → (∀ x ∈ l, Lies A w .part x) → ∀ x ∈ cmdsL l, Lies A w .lst x := by
  induction N with
  | zero =>
    intro l h
    cases l with
    | nil => intro _ x hx; rw [cmdsL_nil] at hx; cases hx
    | cons p r => have := p.sz_pos; simp only [szL] at h; omega
  | succ N ih =>
    intro l
    induction l with
    | nil => intro _ _ x hx; rw [cmdsL_nil] at hx; cases hx
    | cons p r ihr =>
      intro h hl x hx
      simp only [szL] at h
      have hp := hl p (by simp)
      rw [cmdsL_cons, List.mem_append, List.mem_append] at hx
      rcases hx with hx | hx | hx
      · split at hx
        · simp only [List.mem_singleton] at hx
          subst hx
          exact .lstOf (hp.row (i := 4) (u := .node) rfl) (hp.kids (i := 4) (u := .node) rfl)
        · cases hx
      · exact ih (p.r 3) (by have := p.sz_r 3; omega) (hp.kids (i := 3) (u := .part) rfl) x hx
      · exact ihr (by omega) (fun y hy => hl y (by simp [hy])) x hx
theorem below_lies (h : Lies A w .node t) : ∀ x ∈ below t, Lies A w .node x := by
  intro x hx
  unfold below inParts at hx
  simp only [List.mem_append, List.mem_map, List.mem_flatMap] at hx
  rcases hx with (⟨a, ha, c, hc, hx⟩ | ⟨a, ha, rfl⟩) | hx
  · have h1 := own_lies h a ha
    exact (cmds_lies _ (a.r 0) (Nat.le_refl _) (h1.kids (i := 0) (u := .part) rfl) c hc).kids (i := 0) (u := .node) rfl x hx
  · exact (h.kids (i := 8) (u := .arm) rfl a ha).body
  · exact h.kids (i := 9) (u := .node) rfl x hx
theorem all_lies (N : Nat) : ∀ l : List Tr, szL l ≤ N → (∀ x ∈ l, Lies A w .node x) → ∀ x ∈ allL l, Lies A w .node x := by
  induction N with
  | zero =>
    intro l h
    cases l with
    | nil => intro _ x hx; rw [allL_nil] at hx; cases hx
    | cons p r => have := p.sz_pos; simp only [szL] at h; omega
  | succ N ih =>
    intro l
    induction l with
    | nil => intro _ _ x hx; rw [allL_nil] at hx; cases hx
    | cons n r ihr =>
      intro h hl x hx
      simp only [szL] at h
      have hn := hl n (by simp)
      have h1 := sz_below n
      rw [allL_cons, List.mem_cons, List.mem_append] at hx
      rcases hx with rfl | hx | hx
      · exact hn
      · exact ih (below n) (by omega) (below_lies hn) x hx
      · exact ihr (by omega) (fun y hy => hl y (by simp [hy])) x hx
theorem flat_get {m : Nat} : ∀ (l : List Tr) (k j : Nat) (x : Tr), (∀ x ∈ l, x.cs.length = m) → l[k]? = some x → j < m → (l.flatMap Tr.cs)[k * m + j]? = x.cs[j]?
  | [], k, j, x, _, hx, _ => by simp at hx
  | a :: l, 0, j, x, hm, hx, hj => by
    have ha := hm a (by simp)
    simp only [List.getElem?_cons_zero, Option.some.injEq] at hx
    subst hx
    rw [List.flatMap_cons, Nat.zero_mul, Nat.zero_add, List.getElem?_append_left (by omega)]
  | a :: l, k + 1, j, x, hm, hx, hj => by
    have ha := hm a (by simp)
    rw [List.flatMap_cons, List.getElem?_append_right (by rw [ha, Nat.succ_mul]; omega), show (k + 1) * m + j - a.cs.length = k * m + j by rw [ha, Nat.succ_mul]; omega]
    exact flat_get l k j x (fun y hy => hm y (by simp [hy])) (by simpa using hx) hj
/-- A row of its own, as a row that lies. -/
theorem RowAt.own {B : Nat} {e : TypeId} {m : Nat} {v : Value} {l : List Tr} (h : w.ownsRow B e m v l.length (l.flatMap Tr.cs)) (hl : l.length ≤ 1048576) (hm : ∀ x ∈ l, x.cs.length = m) (hA : ∀ b, v.ownBlock = some b → A b) : RowAt A w m v l := by
  refine ⟨hl, ?_⟩
  rcases own_form h with ⟨rfl, h0⟩ | ⟨b, c, rfl, h1, h2, h3, h4, _⟩
  · have : l = [] := List.eq_nil_of_length_eq_zero h0
    subst this
    exact ⟨none, 0, rfl, fun _ => rfl, by simp, by simp, fun k x hx => by cases hx⟩
  · refine ⟨_, c, rfl, (fun e => (by cases e)), h3, h4, fun k x hx => ⟨b, 0, rfl, hA b rfl, h2, fun j hj => ?_⟩⟩
    obtain ⟨hk, rfl⟩ := List.getElem?_eq_some_iff.1 hx
    have hkm : k * m + j < l.length * m := by
      have := Nat.mul_le_mul_right m (show k + 1 ≤ l.length by omega)
      rw [Nat.succ_mul] at this
      omega
    have := own_cell h (k * m + j) hkm
    rw [Nat.zero_add, this]
    exact flat_get l k j _ hm hx hj
end
end Go.Proofs.Ytpjcmhlgdgadjaa

namespace Go.Proofs.Ytpjcmhlgdgadjaa
open Go.RowKit
set_option linter.unusedVariables false
theorem ElStr : El Try.prog 32 9 1 16 := El.of (z := .string ⟨#[]⟩) Try.underlying32 (by kernel_rfl) rfl (by decide)
theorem ElPart : El Try.prog 39 52 5 88 := El.of (z := .agg #[.int .i64 0, .string ⟨#[]⟩, .string ⟨#[]⟩, .slice none 0 0, .slice none 0 0]) Try.underlying39 (by kernel_rfl) rfl (by decide)
theorem ElWord : El Try.prog 23 41 1 24 := El.of (z := .agg #[.slice none 0 0]) Try.underlying23 (by kernel_rfl) rfl (by decide)
theorem ElNodes : El Try.prog 63 26 1 24 := El.of (z := .slice none 0 0) Try.underlying63 (by kernel_rfl) rfl (by decide)
theorem ElNode : El Try.prog 26 28 10 176 := El.of (z := .agg #[.int .i64 0, .string ⟨#[]⟩, .bool false, .bool false, .slice none 0 0, .slice none 0 0, .slice none 0 0, .slice none 0 0, .slice none 0 0, .slice none 0 0]) Try.underlying26 (by kernel_rfl) rfl (by decide)
section
variable {A : Nat → Prop} {w : World} {ty : Ty} {t : Tr}
theorem FieldAt.one {f : Fd} {v : Value} {l : List Tr} (h : FieldAt A w f v l) : v.oneCell' = true := by
  cases f with
  | int => obtain ⟨-, k, rfl, -⟩ := h; rfl
  | str => obtain ⟨-, k, rfl, -⟩ := h; rfl
  | bool => obtain ⟨-, k, rfl⟩ := h; rfl
  | row t => obtain ⟨a, c, rfl⟩ := RowAt.form h; rfl
theorem Lies.one (h : Lies A w ty t) : ∀ u ∈ t.cs, u.oneCell' = true := by
  intro u hu
  obtain ⟨i, hi, rfl⟩ := List.getElem_of_mem hu
  have hlt : i < ty.flds.length := by rw [← h.len]; exact hi
  have := (h.field (List.getElem?_eq_getElem hlt)).one
  unfold Tr.c at this
  rwa [List.getD_eq_getElem?_getD, List.getElem?_eq_getElem hi] at this
theorem flat_len {m : Nat} (l : List Tr) (h : ∀ x ∈ l, x.cs.length = m) : (l.flatMap Tr.cs).length = l.length * m := by
  induction l with
  | nil => simp
  | cons a l ih => rw [List.flatMap_cons, List.length_append, h a (by simp), ih (fun x hx => h x (by simp [hx])), List.length_cons, Nat.succ_mul]; omega
/-- A row that lies, as what is appended. -/
theorem RowAt.src {m : Nat} {v : Value} {l : List Tr} (h : RowAt A w m v l) (hk : ∀ x ∈ l, Lies A w ty x) (hm : ty.flds.length = m) : SrcOK w v l.length m (l.flatMap Tr.cs) := by
  have hlen : ∀ x ∈ l, x.cs.length = m := fun x hx => by rw [(hk x hx).len, hm]
  refine ⟨fun u hu => ?_, ?_⟩
  · obtain ⟨x, hx, hu⟩ := List.mem_flatMap.1 hu
    exact (hk x hx).one u hu
  · obtain ⟨a, c, rfl, h0, h1, h2, h3⟩ := h.lies
    cases a with
    | none =>
      have hc := h0 rfl
      subst hc
      have : l = [] := List.eq_nil_of_length_eq_zero (by omega)
      subst this
      exact .inl ⟨rfl, rfl, rfl⟩
    | some ad =>
      refine .inr ⟨ad, c, rfl, flat_len l hlen, fun j u hu => ?_⟩
      by_cases hm0 : m = 0
      · have := flat_len l hlen
        have h4 := (List.getElem?_eq_some_iff.1 hu).1
        rw [this, hm0] at h4
        omega
      have hjl := (List.getElem?_eq_some_iff.1 hu).1
      rw [flat_len l hlen] at hjl
      have hk' : j / m < l.length := Nat.div_lt_of_lt_mul (by rw [Nat.mul_comm]; exact hjl)
      have hjm : j % m < m := Nat.mod_lt _ (by omega)
      obtain ⟨b, off, e, hAb, hlt, hc⟩ := h3 (j / m) l[j / m] (List.getElem?_eq_getElem hk')
      have e1 : j / m * m + j % m = j := by rw [Nat.mul_comm]; exact Nat.div_add_mod j m
      have h5 := flat_get l (j / m) (j % m) _ hlen (List.getElem?_eq_getElem hk') hjm
      rw [e1, hu] at h5
      obtain rfl := Option.some.inj e
      have h6 := hc (j % m) hjm
      rw [Nat.add_assoc, e1, ← h5] at h6
      have hadd : (⟨b, off, none⟩ : Addr).add j = ⟨b, off + j, none⟩ := by unfold Addr.add; split <;> simp_all
      rw [hadd]
      exact h6
end
/-- A row of the call's own that is being built: n elements of m cells. -/
def OutAt (T m : Nat) (w : World) (n : Nat) (xs : List Value) (o : Value) (wr : World) : Prop := ∃ A c, o = .slice A n c ∧ wr.ownsRow w.heap.size T m (.slice A n c) n xs ∧ Below w.heap.size w wr
theorem OutAt.nil (T m : Nat) (w : World) : OutAt T m w 0 [] (.slice none 0 0) w := ⟨none, 0, rfl, ⟨by simp, .inl ⟨rfl, rfl⟩⟩, Below.refl _ _⟩
theorem below_alloc (w : World) (o : Obj) : Below w.heap.size w (w.alloc o) := (Below.refl _ w).alloc (Nat.le_refl _) o
theorem below_drew {B : Nat} {w w' : World} (h : Below B w w') : Below B w w'.drew := ⟨h.os, h.tape, h.output, h.size, h.block⟩
theorem below_more {w y : World} (h : Below w.heap.size w y) (o : Obj) : Below w.heap.size w (y.alloc o) := h.alloc h.size o
theorem own_below {w w' : World} {base : Nat} {e : TypeId} {size k : Nat} {v : Value} {xs : List Value} (h : w.ownsRow base e size v k xs) (hb : Below w.heap.size w w') : w'.ownsRow base e size v k xs := by
  refine ⟨h.1, ?_⟩
  rcases h.2 with hn | ⟨g, cap, cur, rfl, h1, h2, rest⟩
  · exact .inl hn
  · exact .inr ⟨g, cap, cur, rfl, h1, by rw [hb.block g (Array.getElem?_eq_some_iff.1 h2).1]; exact h2, rest⟩
theorem out_app {T m : Nat} {w wr w2 : World} {xs ys : List Value} {A : Option Addr} {N c : Nat} (hb : Below w.heap.size w wr) (r1 : w2.ownsRow w.heap.size T m (.slice A N c) N (xs ++ ys)) (r2 : Keeps w.heap.size [T] wr w2) : OutAt T m w N (xs ++ ys) (.slice A N c) w2 :=
  ⟨A, c, rfl, r1, hb.trans (r2.below hb.size)⟩
theorem OutAt.later {T m : Nat} {w wr w2 : World} {n : Nat} {xs : List Value} {o : Value} (h : OutAt T m w n xs o wr) (hb : Below wr.heap.size wr w2) : OutAt T m w n xs o w2 := by
  obtain ⟨A, c, ho, h1, h2⟩ := h
  exact ⟨A, c, ho, own_below h1 hb, h2.trans (hb.mono h2.size)⟩
theorem OutAt.row {T m : Nat} {w wr : World} {l : List Tr} {o : Value} (h : OutAt T m w l.length (l.flatMap Tr.cs) o wr) (hl : l.length ≤ 1048576) (hm : ∀ x ∈ l, x.cs.length = m) : RowAt (fun b => w.heap.size ≤ b ∧ b < wr.heap.size) wr m o l := by
  obtain ⟨A, c, rfl, h1, h2⟩ := h
  refine .own h1 hl hm (fun b hb => ?_)
  rcases own_form h1 with ⟨e, _⟩ | ⟨b', c', e, h3, h4, _⟩
  · rw [e] at hb; cases hb
  · rw [e] at hb
    simp only [Value.ownBlock, Option.some.injEq] at hb
    subst hb
    exact ⟨h3, h4⟩
theorem same_below {B : Nat} {w w' : World} (h : Below B w w') : Same (fun b => b < B) w w' := fun b hb => h.block b hb
theorem RowAt.later {A : Nat → Prop} {w w' : World} {m : Nat} {v : Value} {l : List Tr} (h : RowAt A w m v l) (hA : ∀ b, A b → b < w.heap.size) (hb : Below w.heap.size w w') : RowAt A w' m v l := h.keep (fun _ => id) hb.size (fun b hb' => hb.block b (hA b hb'))
theorem Lies.later {A : Nat → Prop} {w w' : World} {ty : Ty} {t : Tr} (h : Lies A w ty t) (hA : ∀ b, A b → b < w.heap.size) (hb : Below w.heap.size w w') : Lies A w' ty t := h.keep (fun _ => id) hb.size (fun b hb' => hb.block b (hA b hb'))
end Go.Proofs.Ytpjcmhlgdgadjaa

namespace Go.Proofs.Ytpjcmhlgdgadjaa
open Go.RowKit
set_option linter.unusedVariables false
/-- What a part has itself. -/
def cmdP (p : Tr) : List Tr := if p.k 0 = 6 then [.mk [p.c 4] [p.r 4]] else []
theorem cmdsL_snoc (l : List Tr) (k : Nat) (h : k < l.length) : cmdsL (l.take (k + 1)) = cmdsL (l.take k) ++ (cmdP l[k] ++ cmdsL (l[k].r 3)) := by
  rw [List.take_succ_eq_append_getElem h, cmdsL_append, cmdsL_cons, cmdsL_nil, List.append_nil]
  rfl
theorem sz_cmdsL (N : Nat) : ∀ l, szL l ≤ N → szL (cmdsL l) ≤ szL l := by
  induction N with
  | zero =>
    intro l h
    cases l with
    | nil => rw [cmdsL_nil]; simp
    | cons p r => have := p.sz_pos; simp only [szL] at h; omega
  | succ N ih =>
    intro l
    induction l with
    | nil => intro _; rw [cmdsL_nil]; simp
    | cons p r ihr =>
      intro h
      simp only [szL] at h ⊢
      have h3 := ih (p.r 3) (by have := p.sz_r 3; omega)
      have hr := ihr (by omega)
      have h34 : szL (p.r 3) + szL (p.r 4) < p.sz := by
        cases p with
        | mk cs rows => have := szR_two (rows := rows) (i := 3) (j := 4) (by omega); simp only [Tr.sz, Tr.r, Tr.rows]; omega
      rw [cmdsL_cons, szL_append, szL_append]
      have h0 : szL (if p.k 0 = 6 then [Tr.mk [p.c 4] [p.r 4]] else []) ≤ 1 + szL (p.r 4) := by
        split
        · simp [szL, Tr.sz, szR]
        · simp [szL]
      omega
theorem cmdsL_len (l : List Tr) : (cmdsL l).length ≤ szL l := Nat.le_trans (szL_len _) (sz_cmdsL _ l (Nat.le_refl _))
theorem szL_take (l : List Tr) (k : Nat) : szL (l.take k) ≤ szL l := by
  have h : szL l = szL (l.take k) + szL (l.drop k) := by rw [← szL_append, List.take_append_drop]
  omega
theorem flat_one (l : List Tr) (h : ∀ x ∈ l, x.cs.length = 1) : (l.flatMap Tr.cs).length = l.length := by rw [flat_len l h, Nat.mul_one]
theorem cmds_one {A : Nat → Prop} {w : World} {l : List Tr} (h : ∀ x ∈ l, Lies A w .part x) : ∀ x ∈ cmdsL l, x.cs.length = 1 := fun x hx => (cmds_lies _ l (Nat.le_refl _) h x hx).len
theorem cells_at {A : Nat → Prop} {w : World} {m n c : Nat} {a : Option Addr} {l : List Tr} (h : RowAt A w m (.slice a n c) l) {k : Nat} {x : Tr} (hx : l[k]? = some x) : ∃ b off, a = some ⟨b, off, none⟩ ∧ A b ∧ b < w.heap.size ∧ ∀ j, j < m → w.cell? ⟨b, off + k * m + j, none⟩ = x.cs[j]? := by
  obtain ⟨a', c', e, _, _, _, h3⟩ := h.lies
  cases e
  exact h3 k x hx
theorem one_src {w : World} {t e : TypeId} {u : Value} (h : u.oneCell' = true) : SrcOK (w.alloc (.cells #[u] t)) (.slice (some ⟨w.heap.size, 0, none⟩) 1 1) 1 1 [u] := SrcOK.blk (c := 1) (cs := [u]) (Blk.new w t _) rfl (fun x hx => by rw [List.mem_singleton.1 hx]; exact h)
theorem OutAt.src {T m : Nat} {w wr : World} {n : Nat} {xs : List Value} {o : Value} (h : OutAt T m w n xs o wr) (h1 : ∀ u ∈ xs, u.oneCell' = true) : SrcOK wr o n m xs := by
  obtain ⟨A, c, rfl, ho, _⟩ := h
  exact SrcOK.own ho h1
theorem flat_ones {A : Nat → Prop} {w : World} {ty : Ty} {l : List Tr} (h : ∀ x ∈ l, Lies A w ty x) : ∀ u ∈ l.flatMap Tr.cs, u.oneCell' = true := by
  intro u hu
  obtain ⟨x, hx, hu⟩ := List.mem_flatMap.1 hu
  exact (h x hx).one u hu
/-- All commands of parts, answered. -/
def CmdsEnd (w : World) (l : List Tr) (e : Ending) (w' : World) : Prop := ∃ o, e = .returned o ∧ OutAt 26 1 w (cmdsL l).length ((cmdsL l).flatMap Tr.cs) o w'
set_option maxRecDepth 100000 in
set_option maxHeartbeats 3200000 in
theorem rcmds_any (N : Nat) : ∀ (l : List Tr), szL l ≤ N → szL l ≤ 1048576 → ∀ (A : Nat → Prop) (w : World) (v : Value), (∀ b, A b → b < w.heap.size) → RowAt A w 5 v l → (∀ x ∈ l, Lies A w .part x) → Calls Try.prog 45 #[v] w (CmdsEnd w l) := by
  induction N with
  | zero =>
    intro l hl _ A w v _ hr _
    have hn : l = [] := by
      cases l with
      | nil => rfl
      | cons p r => have := p.sz_pos; simp only [szL] at hl; omega
    subst hn
    obtain ⟨a, c, rfl⟩ := hr.form
    clear hr
    go_enter Try.func45, Try.ntmps45
    go_wp2
    go_loop [3, 4] (fun o i => o = .slice none 0 0 ∧ i = .int .i64 0) (fun _ _ => 0)
    case atStart => exact ⟨rfl, rfl⟩
    case round =>
      obtain ⟨rfl, rfl⟩ := hrel
      go_wp2
      go_ret
      exact ⟨_, rfl, by rw [cmdsL_nil]; exact OutAt.nil _ _ _⟩
  | succ N ih =>
    intro l hN hsz A w v hA hr hk
    have hlen := hr.len
    obtain ⟨a, c, rfl⟩ := hr.form
    have HA := Lib.hid hA
    have HR := Lib.hid hr
    have HK := Lib.hid hk
    have HIH := Lib.hid ih
    have HSZ := Lib.hid hsz
    have HN := Lib.hid hN
    clear ih hsz hN hA hr hk
    go_enter Try.func45, Try.ntmps45
    go_wp2
    go_loopw [3, 4] (fun o i wr => ∃ k : Nat, k ≤ l.length ∧ i = .int .i64 k ∧ OutAt 26 1 w (cmdsL (l.take k)).length ((cmdsL (l.take k)).flatMap Tr.cs) o wr) (fun _ i _ => l.length - (intOf i).toNat)
    case atStart => exact ⟨0, Nat.zero_le _, rfl, by rw [List.take_zero, cmdsL_nil]; exact OutAt.nil _ _ _⟩
    case round =>
      obtain ⟨k, hk, rfl, Ao, oc, rfl, ho, hbw⟩ := hrel
      by_cases hlt : k < l.length
      · have hx := List.getElem?_eq_getElem hlt
        have hsn := cmdsL_snoc l k hlt
        have hle : (cmdsL (l.take (k + 1))).length ≤ 1048576 := Nat.le_trans (cmdsL_len _) (Nat.le_trans (szL_take _ _) HSZ.out)
        have hfl : ((cmdsL (l.take k)).flatMap Tr.cs).length = (cmdsL (l.take k)).length := flat_one _ (cmds_one (fun x hx => HK.out x (List.mem_of_mem_take hx)))
        have hszp : l[k].sz ≤ szL l := szL_mem (List.getElem_mem hlt)
        have hp := HK.out l[k] (List.getElem_mem hlt)
        obtain ⟨b, off, rfl, hAb, hb0, hcell⟩ := cells_at HR.out hx
        rw [hsn] at hle
        have HSN := Lib.hid hsn
        clear hsn hx
        generalize l[k] = p at *
        generalize cmdsL (l.take k) = L at *
        have hpk := hp.kids (i := 3) (u := .part) rfl
        have hkr := hp.row (i := 3) (u := .part) rfl
        have hone : ∀ u ∈ (cmdsL (p.r 3)).flatMap Tr.cs, u.oneCell' = true := flat_ones (cmds_lies _ _ (Nat.le_refl _) hpk)
        have hyl := flat_one _ (cmds_one hpk)
        have hsz3 := p.sz_r 3
        have hcall : ∀ y, Below w.heap.size w y → Calls Try.prog 45 #[p.c 3] y (CmdsEnd y (p.r 3)) := fun y hy =>
          HIH.out (p.r 3) (by have := HN.out; omega) (by have := HSZ.out; omega) A y _ (fun b hb => Nat.lt_of_lt_of_le (HA.out b hb) hy.size) (hkr.later HA.out hy) (fun x hx => (hpk x hx).later HA.out hy)
        obtain ⟨pk, ps, po, pa, pc, na, nc, kids, ns, rfl, q1, q2, h3, h4, h5, h6⟩ := hp.part
        have hyd : ∀ y, Below w.heap.size w y → (y.cell? ⟨b, off + k * 5, none⟩ = some (.int .i64 pk) ∧ y.cell? ⟨b, off + k * 5 + 3, none⟩ = some (.slice pa kids.length pc) ∧ y.cell? ⟨b, off + k * 5 + 4, none⟩ = some (.slice na ns.length nc)) := fun y hy =>
          ⟨(hy.cell (p := ⟨b, off + k * 5, none⟩) hb0).trans (hcell 0 (by omega)), (hy.cell (p := ⟨b, off + k * 5 + 3, none⟩) hb0).trans (hcell 3 (by omega)), (hy.cell (p := ⟨b, off + k * 5 + 4, none⟩) hb0).trans (hcell 4 (by omega))⟩
        obtain ⟨e0, e3, e4⟩ := hyd wr hbw
        have HY := Lib.hid hyd
        have HCALL := Lib.hid hcall
        have HO := Lib.hid ho
        have HB := Lib.hid hbw
        have HONE := Lib.hid hone
        have hbs := hbw.size
        have hNk := ElNodes
        clear hcell hcall h3 h4 h5 h6 hp hkr hpk hone ho hbw hyd HR HIH HK HA q1 q2 hszp hsz3 HSZ HN
        have hcp : cmdP (.mk [.int .i64 pk, .string ps, .string po, .slice pa kids.length pc, .slice na ns.length nc] [[], [], [], kids, ns]) = if pk = 6 then [.mk [.slice na ns.length nc] [ns]] else [] := rfl
        have hr3 : (Tr.mk [.int .i64 pk, .string ps, .string po, .slice pa kids.length pc, .slice na ns.length nc] [[], [], [], kids, ns]).r 3 = kids := rfl
        have hc3 : (Tr.mk [.int .i64 pk, .string ps, .string po, .slice pa kids.length pc, .slice na ns.length nc] [[], [], [], kids, ns]).c 3 = .slice pa kids.length pc := rfl
        simp only [hcp, hr3] at hle HSN hyl HONE
        rw [hr3, hc3] at HCALL
        clear hcp hr3 hc3
        generalize hys : (cmdsL kids).flatMap Tr.cs = ys at *
        generalize hxs : L.flatMap Tr.cs = xs at *
        have HYS := Lib.hid hys
        have HXS := Lib.hid hxs
        clear hys hxs
        by_cases h6 : pk = 6
        · subst h6
          have hle3 : xs.length + 1 ≤ 1048576 ∧ xs.length + 1 + ys.length ≤ 1048576 := by simp at hle; omega
          go_wp2_with (first
            | (at_builtin; refine wpList_app ElNodes (.tmp 17) (.tmp 23) rfl rfl (base := w.heap.size) (n := L.length) (m := 1) (N := L.length + 1) (xs := xs) (news := [.slice na ns.length nc]) rfl rfl (HO.out.alloc _) (one_src (e := 0) rfl) rfl (by unfold maxLen; omega) (by omega) (by simp; omega) ?_; intro A2 c2 w2 r1 r2 r3
               have HR1 := Lib.hid r1
               have hk2 := (Keeps.refl w.heap.size [26] wr).alloc (.cells #[.slice na ns.length nc] 26) |>.trans r2
               have hw3 := HB.out.trans (hk2.below hbs)
               have e3b := (HY.out _ hw3).2.1
               have HR2 := Lib.hid hk2
               have HW3 := Lib.hid hw3
               clear r1 r2 r3 hk2 hw3)
            | (go_at_call 45; refine (HCALL.out _ HW3.out).mono ?_; rintro e w3 ⟨o, rfl, A3, c3, rfl, ho3, hb3⟩
               have hkk : Keeps w.heap.size [26] wr w3 := HR2.out.trans (Keeps.of_below hb3)
               have hbs2 : w.heap.size ≤ w3.heap.size := Nat.le_trans hbs hkk.size
               have HKK := Lib.hid hkk
               have HR3 := Lib.hid (own_below HR1.out hb3)
               have HS3 := Lib.hid (SrcOK.own ho3 (by rw [HYS.out]; exact HONE.out))
               clear hkk ho3 hb3)
            | (at_builtin; refine wpList_app ElNodes (.tmp 25) (.tmp 31) rfl rfl (base := w.heap.size) (n := (L.length + 1)) (v := .slice A2 (L.length + 1) c2) (m := (cmdsL kids).length) (N := (L.length + 1) + (cmdsL kids).length) rfl rfl HR3.out HS3.out rfl (by unfold maxLen; omega) (by omega) hbs2 ?_; intro A4 c4 w4 r1 r2 r3
               have HF := Lib.hid (out_app HB.out r1 (HKK.out.trans r2))
               clear r1 r2 r3))
          go_roundw
          case rel => exact ⟨k + 1, by omega, by go_num, by
            rw [HSN.out]
            have := HF.out
            rw [← HXS.out] at this
            simpa [List.flatMap_append, Tr.cs, Nat.add_assoc, Nat.add_comm 1] using this⟩
          case measure => simp [intOf]; omega
        · have h6b : (pk == 6) = false := by simpa using h6
          rw [if_neg h6] at hle HSN
          have hle3 : xs.length + ys.length ≤ 1048576 := by simp at hle; omega
          have HW3 := HB
          have HR1 := HO
          have HR2 := Lib.hid (Keeps.refl w.heap.size [26] wr)
          clear h6 HO
          go_wp2_with (first
            | (go_at_call 45; refine (HCALL.out _ HW3.out).mono ?_; rintro e w3 ⟨o, rfl, A3, c3, rfl, ho3, hb3⟩
               have hkk : Keeps w.heap.size [26] wr w3 := HR2.out.trans (Keeps.of_below hb3)
               have hbs2 : w.heap.size ≤ w3.heap.size := Nat.le_trans hbs hkk.size
               have HKK := Lib.hid hkk
               have HR3 := Lib.hid (own_below HR1.out hb3)
               have HS3 := Lib.hid (SrcOK.own ho3 (by rw [HYS.out]; exact HONE.out))
               clear hkk ho3 hb3)
            | (at_builtin; refine wpList_app ElNodes (.tmp 25) (.tmp 31) rfl rfl (base := w.heap.size) (n := L.length) (v := .slice Ao L.length oc) (m := (cmdsL kids).length) (N := L.length + (cmdsL kids).length) rfl rfl HR3.out HS3.out rfl (by unfold maxLen; omega) (by omega) hbs2 ?_; intro A4 c4 w4 r1 r2 r3
               have HF := Lib.hid (out_app HB.out r1 (HKK.out.trans r2))
               clear r1 r2 r3))
          go_roundw
          case rel => exact ⟨k + 1, by omega, by go_num, by
            rw [HSN.out]
            have := HF.out
            rw [← HXS.out] at this
            simpa [List.flatMap_append] using this⟩
          case measure => simp [intOf]; omega
      · obtain rfl : k = l.length := by omega
        rw [List.take_length] at ho
        rw [List.take_length]
        have HO := Lib.hid ho
        have HB := Lib.hid hbw
        clear ho hbw
        go_wp2
        go_ret
        exact ⟨_, rfl, Ao, oc, rfl, HO.out, HB.out⟩
/-- A row that is being built in a box. -/
def BxAt (T m tb : Nat) (w : World) (bx n : Nat) (xs : List Value) (wr : World) : Prop := w.heap.size ≤ bx ∧ ∃ o, Blk wr bx tb #[o] ∧ OutAt T m w n xs o wr
theorem OutAt.keeps {T m : Nat} {w wr w2 : World} {n : Nat} {xs : List Value} {o : Value} {U : List TypeId} (h : OutAt T m w n xs o wr) (hk : Keeps w.heap.size U wr w2) (hU : T ∉ U) : OutAt T m w n xs o w2 := by
  obtain ⟨A, c, ho, h1, h2⟩ := h
  exact ⟨A, c, ho, hk.own h1 (.inr hU), h2.trans (hk.below h2.size)⟩
set_option maxRecDepth 100000 in
theorem cmds1_any {w W : World} {bx n : Nat} {xs : List Value} {pk : Int} {ps po : ByteArray} {kv : Value} {na : Option Addr} {nn nc : Nat} (hb : BxAt 26 1 63 w bx n xs W) (hn : n + 1 ≤ 1048576) :
    Calls Try.prog 60 #[.agg #[.int .i64 pk, .string ps, .string po, kv, .slice na nn nc], .pointer (some ⟨bx, 0, none⟩)] W fun e W' => (∃ v, e = .returned v) ∧ BxAt 26 1 63 w bx (if pk = 6 then n + 1 else n) (xs ++ (if pk = 6 then [.slice na nn nc] else [])) W' ∧ Keeps w.heap.size [26, 63] W W' := by
  obtain ⟨hbx, o, hblk, hO⟩ := hb
  obtain ⟨Ao, oc, rfl, ho, hbw⟩ := hO
  have e0 := hblk.cell 0
  have hlt := hblk.lt
  have HO := Lib.hid ho
  have HB := Lib.hid hbw
  have HBLK := Lib.hid hblk
  have hws := hbw.size
  clear ho hbw hblk
  by_cases h6 : pk = 6
  · subst h6
    go_enter Try.func60, Try.ntmps60
    go_wp2_with (at_builtin; refine wpList_app ElNodes (.tmp 6) (.tmp 9) rfl rfl (base := w.heap.size) (n := n) (m := 1) (N := n + 1) (v := .slice Ao n oc) (src := .slice (some ⟨W.heap.size + 1, 0, none⟩) 1 1) (xs := xs) (news := [.slice na nn nc]) rfl rfl ?_ ?_ rfl (by unfold maxLen; omega) (by omega) ?_ ?_
                 · exact (HO.out.alloc _).alloc _
                 · have := one_src (w := W.alloc (.cells #[.int .i64 6, .string ps, .string po, kv, .slice na nn nc] 52)) (t := 26) (e := 0) (u := .slice na nn nc) rfl; rwa [World.size_alloc] at this
                 · simp; omega
                 intro A2 c2 w2 q1 q2 q3
                 have HQ1 := Lib.hid q1
                 have hk2 : Keeps w.heap.size [26] W w2 := ((Keeps.refl w.heap.size [26] W).alloc _).alloc _ |>.trans q2
                 have hb2 := hk2.blk HBLK.out (.inr (by decide))
                 have zf := hb2.frozen 0
                 have z0 := hb2.cell 0
                 simp at z0
                 have HK2 := Lib.hid hk2
                 have HBL := Lib.hid hb2
                 clear q1 q2 q3 hk2 hb2)
    have hk3 := (HK2.out.mono (T' := [26, 63]) (Nat.le_refl _) (by simp)).setBlk HBL.out hbx (by simp) 0 (.slice A2 (n + 1) c2)
    have hb3 := HBL.out.set_ 0 (.slice A2 (n + 1) c2)
    have ho3 := own_far HQ1.out (p := ⟨bx, 0, none⟩) (own_blk_ne HQ1.out HBL.out (by decide)) (.slice A2 (n + 1) c2)
    have HF := Lib.hid hk3
    have HB3 := Lib.hid hb3
    have HO3 := Lib.hid ho3
    clear hk3 hb3 ho3
    go_end0
    refine ⟨⟨_, rfl⟩, ⟨hbx, .slice A2 (n + 1) c2, HB3.out, A2, c2, ?_, ?_, HB.out.trans (HF.out.below hws)⟩, HF.out⟩
    · simp
    · simpa using HO3.out
  · have h6b : (pk == 6) = false := by simpa using h6
    rw [if_neg h6, if_neg h6, List.append_nil]
    clear h6
    go_enter Try.func60, Try.ntmps60
    go_wp2
    go_end0
    have hk : Keeps w.heap.size [26, 63] W (W.alloc (.cells #[.int .i64 pk, .string ps, .string po, kv, .slice na nn nc] 52)) := (Keeps.refl _ _ W).alloc _
    exact ⟨⟨_, rfl⟩, ⟨hbx, _, HBLK.out.alloc _, Ao, oc, rfl, HO.out.alloc _, HB.out.trans (hk.below hws)⟩, hk⟩
theorem cmdP_one (pk : Int) (ps po : ByteArray) (a b : Value) (kids ns : List Tr) : (cmdP (.mk [.int .i64 pk, .string ps, .string po, a, b] [[], [], [], kids, ns])).flatMap Tr.cs = if pk = 6 then [b] else [] := by
  unfold cmdP Tr.k Tr.c
  simp only [Tr.cs, List.getD_cons_zero]
  split <;> simp [Tr.cs]
theorem cmdP_len (pk : Int) (ps po : ByteArray) (a b : Value) (kids ns : List Tr) (n : Nat) : n + (cmdP (.mk [.int .i64 pk, .string ps, .string po, a, b] [[], [], [], kids, ns])).length = if pk = 6 then n + 1 else n := by
  unfold cmdP Tr.k Tr.c
  simp only [Tr.cs, List.getD_cons_zero]
  split <;> rfl
theorem BxAt.alloc {T m tb bx n : Nat} {w wr : World} {xs : List Value} (h : BxAt T m tb w bx n xs wr) (o : Obj) : BxAt T m tb w bx n xs (wr.alloc o) := by
  obtain ⟨h1, v, h2, h3⟩ := h
  exact ⟨h1, v, h2.alloc o, h3.later (below_alloc wr o)⟩
theorem BxAt.below {T m tb bx n : Nat} {w wr : World} {xs : List Value} (h : BxAt T m tb w bx n xs wr) : Below w.heap.size w wr := by
  obtain ⟨h1, v, h2, A, c, h3, h4, h5⟩ := h
  exact h5
set_option maxRecDepth 100000 in
set_option maxHeartbeats 3200000 in
theorem eachF_any {F : Nat} (hF : F = 60) (eg : ∀ args y, (callFunc F args).run Try.prog y = .ok (.enter F args) y) (N : Nat) : ∀ (l : List Tr), szL l ≤ N → ∀ (A : Nat → Prop) (w W : World) (bx n : Nat) (xs : List Value) (v : Value), n + szL l ≤ 1048576 → (∀ b, A b → b < w.heap.size) → RowAt A w 5 v l → (∀ x ∈ l, Lies A w .part x) →
    BxAt 26 1 63 w bx n xs W → Calls Try.prog 59 #[v, .func (.func F) #[] #[.pointer (some ⟨bx, 0, none⟩)]] W fun e W' => (∃ v, e = .returned v) ∧ BxAt 26 1 63 w bx (n + (cmdsL l).length) (xs ++ (cmdsL l).flatMap Tr.cs) W' ∧ Keeps w.heap.size [26, 63] W W' := by
  induction N with
  | zero =>
    intro l hl A w W bx n xs v _ hA hr _ hB
    have hn : l = [] := by
      cases l with
      | nil => rfl
      | cons p r => have := p.sz_pos; simp only [szL] at hl; omega
    subst hn
    obtain ⟨a, c, rfl⟩ := hr.form
    clear hr
    have HB := Lib.hid hB
    clear hB
    go_enter Try.func59, Try.ntmps59
    go_wp2
    go_loop [8] (fun i => i = .int .i64 0) (fun _ => 0)
    case atStart => rfl
    case round =>
      subst hrel
      go_wp2
      go_end0
      refine ⟨⟨_, rfl⟩, ?_, Keeps.refl _ _ _⟩
      rw [cmdsL_nil]
      simpa using HB.out
  | succ N ih =>
    intro l hN A w W bx n xs v hsz hA hr hk hB
    have hlen := hr.len
    obtain ⟨a, c, rfl⟩ := hr.form
    have HA := Lib.hid hA
    have HR := Lib.hid hr
    have HK := Lib.hid hk
    have HIH := Lib.hid ih
    have HSZ := Lib.hid hsz
    have HN := Lib.hid hN
    have HB := Lib.hid hB
    clear ih hsz hN hA hr hk hB
    go_enter Try.func59, Try.ntmps59
    go_wp2
    go_loopw [8] (fun i wr => ∃ k : Nat, k ≤ l.length ∧ i = .int .i64 k ∧ Hid (BxAt 26 1 63 w bx (n + (cmdsL (l.take k)).length) (xs ++ (cmdsL (l.take k)).flatMap Tr.cs) wr) ∧ Hid (Keeps w.heap.size [26, 63] W wr)) (fun i _ => l.length - (intOf i).toNat)
    case atStart => exact ⟨0, Nat.zero_le _, rfl, Lib.hid (by rw [List.take_zero, cmdsL_nil]; simpa using HB.out), Lib.hid (Keeps.refl _ _ _)⟩
    case round =>
      obtain ⟨k, hk, rfl, hB, hK⟩ := hrel
      by_cases hlt : k < l.length
      · have hx := List.getElem?_eq_getElem hlt
        have hsn := cmdsL_snoc l k hlt
        have hle : (cmdsL (l.take k)).length + l[k].sz ≤ szL l := by
          have h1 := cmdsL_len (l.take k)
          have h2 : szL (l.take (k + 1)) = szL (l.take k) + l[k].sz := by rw [List.take_succ_eq_append_getElem hlt, szL_append]; simp [szL]
          have h3 := szL_take l (k + 1)
          omega
        have hp := HK.out l[k] (List.getElem_mem hlt)
        obtain ⟨b, off, rfl, hAb, hb0, hcell⟩ := cells_at HR.out hx
        have HSN := Lib.hid hsn
        clear hsn hx
        generalize l[k] = p at *
        generalize cmdsL (l.take k) = L at *
        have hpk := hp.kids (i := 3) (u := .part) rfl
        have hkr := hp.row (i := 3) (u := .part) rfl
        have hsz3 := p.sz_r 3
        have hcl := cmdsL_len (p.r 3)
        obtain ⟨pk, ps, po, pa, pc, na, nc, kids, ns, rfl, q1, q2, h3, h4, h5, h6⟩ := hp.part
        have hcw := cmdP_one pk ps po (.slice pa kids.length pc) (.slice na ns.length nc) kids ns
        have hcn := cmdP_len pk ps po (.slice pa kids.length pc) (.slice na ns.length nc) kids ns
        have hr3 : (Tr.mk [.int .i64 pk, .string ps, .string po, .slice pa kids.length pc, .slice na ns.length nc] [[], [], [], kids, ns]).r 3 = kids := rfl
        have hc3 : (Tr.mk [.int .i64 pk, .string ps, .string po, .slice pa kids.length pc, .slice na ns.length nc] [[], [], [], kids, ns]).c 3 = .slice pa kids.length pc := rfl
        rw [hr3] at hpk hkr hsz3 hcl HSN
        rw [hc3] at hkr
        have hwb : Below w.heap.size w wr := hB.out.below
        have e0 := (hwb.cell (p := ⟨b, off + k * 5, none⟩) hb0).trans (hcell 0 (by omega))
        have e1 := (hwb.cell (p := ⟨b, off + k * 5 + 1, none⟩) hb0).trans (hcell 1 (by omega))
        have e2 := (hwb.cell (p := ⟨b, off + k * 5 + 2, none⟩) hb0).trans (hcell 2 (by omega))
        have e3 := (hwb.cell (p := ⟨b, off + k * 5 + 3, none⟩) hb0).trans (hcell 3 (by omega))
        have e4 := (hwb.cell (p := ⟨b, off + k * 5 + 4, none⟩) hb0).trans (hcell 4 (by omega))
        simp only [Tr.cs, List.getElem?_cons_zero, List.getElem?_cons_succ] at e0 e1 e2 e3 e4
        have hPl : n + L.length + (cmdP (.mk [.int .i64 pk, .string ps, .string po, .slice pa kids.length pc, .slice na ns.length nc] [[], [], [], kids, ns])).length + szL kids ≤ 1048576 ∧ n + L.length + 1 ≤ 1048576 := by
          rw [hcn]
          have h7 := HSZ.out
          have h8 : szL kids + 1 + szL ns ≤ (Tr.mk [.int .i64 pk, .string ps, .string po, .slice pa kids.length pc, .slice na ns.length nc] [[], [], [], kids, ns]).sz := by simp [Tr.sz, szR, szL]; omega
          split <;> omega
        have hC1 : ∀ y, BxAt 26 1 63 w bx (n + L.length) (xs ++ L.flatMap Tr.cs) y → Calls Try.prog F #[.agg #[.int .i64 pk, .string ps, .string po, .slice pa kids.length pc, .slice na ns.length nc], .pointer (some ⟨bx, 0, none⟩)] y fun e W' => (∃ v, e = .returned v) ∧ BxAt 26 1 63 w bx (n + L.length + (cmdP (.mk [.int .i64 pk, .string ps, .string po, .slice pa kids.length pc, .slice na ns.length nc] [[], [], [], kids, ns])).length) (xs ++ L.flatMap Tr.cs ++ (cmdP (.mk [.int .i64 pk, .string ps, .string po, .slice pa kids.length pc, .slice na ns.length nc] [[], [], [], kids, ns])).flatMap Tr.cs) W' ∧ Keeps w.heap.size [26, 63] y W' := fun y hy => by
          rw [hF, hcw, hcn]
          exact cmds1_any hy hPl.2
        have hC2 : ∀ y m ys, m + szL kids ≤ 1048576 → BxAt 26 1 63 w bx m ys y → Calls Try.prog 59 #[.slice pa kids.length pc, .func (.func F) #[] #[.pointer (some ⟨bx, 0, none⟩)]] y _ := fun y m ys hm hy => HIH.out kids (by have := HN.out; omega) A w y bx m ys _ hm HA.out hkr hpk hy
        have HC1 := Lib.hid hC1
        have HC2 := Lib.hid hC2
        clear hF
        clear hcell hp hpk hkr h3 h4 h5 h6 hC1 hC2 hcw hcn hr3 hc3 HIH HR HK q1 q2 hle hcl hsz3
        generalize cmdP (.mk [.int .i64 pk, .string ps, .string po, .slice pa kids.length pc, .slice na ns.length nc] [[], [], [], kids, ns]) = P at *
        go_wp2_with (first
          | (go_at_fn F; refine (HC1.out _ (hB.out.alloc _)).mono ?_; rintro e w1 ⟨⟨v1, rfl⟩, hB1, hK1⟩
             have HB1 := Lib.hid hB1
             have HK1 := Lib.hid ((hK.out.alloc _).trans hK1)
             have hx5 := hK1.blk (Blk.new wr 52 #[.int .i64 pk, .string ps, .string po, .slice pa kids.length pc, .slice na ns.length nc]) (.inr (by decide))
             have z3 := hx5.cell 3
             simp at z3
             clear hB1 hK1 hx5)
          | (go_at_call 59; refine (HC2.out _ _ _ hPl.1 HB1.out).mono ?_; rintro e w2 ⟨⟨v2, rfl⟩, hB2, hK2⟩
             have HB2 := Lib.hid hB2
             have HK2 := Lib.hid (HK1.out.trans hK2)
             clear hB2 hK2))
        go_roundw
        case rel => exact ⟨k + 1, by omega, by go_num, Lib.hid (by rw [HSN.out]; simpa [List.flatMap_append, Nat.add_assoc] using HB2.out), HK2⟩
        case measure => simp [intOf]; omega
      · obtain rfl : k = l.length := by omega
        rw [List.take_length] at hB
        go_wp2
        go_end0
        exact ⟨⟨_, rfl⟩, hB.out, hK.out⟩
set_option maxRecDepth 100000 in
theorem cmds_any {A : Nat → Prop} {w : World} {v : Value} {l : List Tr} (hsz : szL l ≤ 1048576) (hA : ∀ b, A b → b < w.heap.size) (hr : RowAt A w 5 v l) (hk : ∀ x ∈ l, Lies A w .part x) : Calls Try.prog 48 #[.agg #[v]] w (CmdsEnd w l) := by
  obtain ⟨a, c, rfl⟩ := hr.form
  have HE : Hid (∀ y, BxAt 26 1 63 w (w.heap.size + 1) 0 [] y → Calls Try.prog 59 #[.slice a l.length c, .func (.func 60) #[] #[.pointer (some ⟨w.heap.size + 1, 0, none⟩)]] y _) := Lib.hid (fun y hy => eachF_any rfl (fun _ _ => by kernel_rfl) _ l (Nat.le_refl _) A w y (w.heap.size + 1) 0 [] _ (by omega) hA hr hk hy)
  have H0 : Hid (BxAt 26 1 63 w (w.heap.size + 1) 0 [] ((w.alloc (.cells #[.slice a l.length c] 41)).alloc (.cells #[.slice none 0 0] 63))) := Lib.hid ⟨by omega, .slice none 0 0, by have := Blk.new (w.alloc (.cells #[.slice a l.length c] 41)) 63 #[.slice none 0 0]; rwa [World.size_alloc] at this, none, 0, rfl, ⟨by simp, .inl ⟨rfl, rfl⟩⟩, below_more (below_alloc _ _) _⟩
  clear hr hk hA
  go_enter Try.func48, Try.ntmps48
  go_wp2_with (go_at_call 59; refine (HE.out _ H0.out).mono ?_; rintro e w1 ⟨⟨v1, rfl⟩, ⟨hbx, o, hb, hO⟩, -⟩
               have e0 := hb.cell 0
               have HO := Lib.hid hO
               simp at e0
               clear hb hO)
  go_ret
  refine ⟨_, rfl, ?_⟩
  have := HO.out
  simpa using this
end Go.Proofs.Ytpjcmhlgdgadjaa
