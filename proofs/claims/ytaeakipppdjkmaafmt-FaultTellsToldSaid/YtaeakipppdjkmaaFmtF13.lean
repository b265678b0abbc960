/- conchlaw02.made, walked. -/
import Derived.Test.YtaeakipppdjkmaaFmtF12
import Derived.Test.YtaeakipppdjkmaaFmtApp
import Derived.Deep.RegionHeld3
import Derived.BigRegion
import Derived.Deep.RegionLaw
namespace Go.Proofs.YtaeakipppdjkmaaFmt
open Go.RowKit Go.Extern.Stop Go.Stop Go.Extern
set_option linter.unusedVariables false
/-- What lies in the first two cells of each block lies there still. -/
def Lat (w w' : World) : Prop := ∀ b i u, i < 2 → w.cell? ⟨b, i, none⟩ = some u → w'.cell? ⟨b, i, none⟩ = some u
theorem Lat.refl (w : World) : Lat w w := fun _ _ _ _ h => h
theorem Lat.trans {a b c : World} (h : Lat a b) (k : Lat b c) : Lat a c := fun x i u hi hu => k x i u hi (h x i u hi hu)
theorem Lat.below {w w' : World} (hb : Below w.heap.size w w') : Lat w w' := fun b i u _ hc => (hb.cell (p := ⟨b, i, none⟩) (World.block_lt_of_cell? w _ hc)).trans hc
theorem Lat.set (w : World) (b i : Nat) (hi : 2 ≤ i) (u : Value) : Lat w (w.setCell ⟨b, i, none⟩ u) := fun b' i' u' hi' hc => (World.cell?_setCell_other _ _ _ _ (by intro e; injection e with e1 e2; omega)).trans hc
theorem Ch.lat {w w' : World} {v : Value} {d : Nat} {r : Option Nat} (h : Ch w v d r) (hl : Lat w w') : Ch w' v d r := by
  induction h with
  | place b e p h0 h1 => exact .place b e p (hl _ _ _ (by omega) h0) (hl _ _ _ (by omega) h1)
  | estr b m h0 => exact .estr b m (hl _ _ _ (by omega) h0)
  | named b m x d r h0 h1 hx ih => exact .named b m x d r (hl _ _ _ (by omega) h0) (hl _ _ _ (by omega) h1) ih
  | wrap b m x d r h0 h1 hx ih => exact .wrap b m x d r (hl _ _ _ (by omega) h0) (hl _ _ _ (by omega) h1) ih
theorem Nm.lat {w w' : World} {v : Value} {d : Nat} {r : Option Nat} (h : Nm w v d r) (hl : Lat w w') : Nm w' v d r := by
  induction h with
  | place b e p h0 h1 => exact .place b e p (hl _ _ _ (by omega) h0) (hl _ _ _ (by omega) h1)
  | estr b m h0 => exact .estr b m (hl _ _ _ (by omega) h0)
  | named b m h0 => exact .named b m (hl _ _ _ (by omega) h0)
  | wrap b m x d r h0 h1 hx ih => exact .wrap b m x d r (hl _ _ _ (by omega) h0) (hl _ _ _ (by omega) h1) ih
theorem Tx.lat {w w' : World} {v : Value} {L : ByteArray} (h : Tx w v L) (hl : Lat w w') : Tx w' v L := by
  induction h with
  | place b e p h0 h1 => exact .place b e p (hl _ _ _ (by omega) h0) (hl _ _ _ (by omega) h1)
  | estr b m h0 => exact .estr b m (hl _ _ _ (by omega) h0)
  | wrap b m h0 => exact .wrap b m (hl _ _ _ (by omega) h0)
  | named b m x L h0 h1 hL hx ih => exact .named b m x L (hl _ _ _ (by omega) h0) (hl _ _ _ (by omega) h1) hL ih
theorem E3.lat {w w' : World} {v : Value} {r : Option (Int × Int)} {n : Option ByteArray} {L : Nat} (h : E3 w v r n L) (hl : Lat w w') : E3 w' v r n L := by
  obtain ⟨m, hm, hs⟩ := h.tx
  obtain ⟨d, p, hc, hr⟩ := h.err.ch
  obtain ⟨d', p', hc', hr'⟩ := h.nam.ch
  refine ⟨⟨d, p, hc.lat hl, ?_⟩, ⟨d', p', hc'.lat hl, ?_⟩, m, hm.lat hl, hs⟩
  · cases r with
    | none => exact hr
    | some q => obtain ⟨b, rfl, h0, h1⟩ := hr; exact ⟨b, rfl, hl _ _ _ (by omega) h0, hl _ _ _ (by omega) h1⟩
  · cases n with
    | none => exact hr'
    | some q => obtain ⟨b, rfl, h0⟩ := hr'; exact ⟨b, rfl, hl _ _ _ (by omega) h0⟩
/-- The same, but for blocks that begin with the number nought. -/
def LatX (w w' : World) : Prop := ∀ b i u, i < 2 → w.cell? ⟨b, 0, none⟩ ≠ some (.int .i64 0) → w.cell? ⟨b, i, none⟩ = some u → w'.cell? ⟨b, i, none⟩ = some u
inductive Nz (w : World) : Value → Prop where
  | place (b : Nat) (e p : Int) (he : e ≠ 0) (h0 : w.cell? ⟨b, 0, none⟩ = some (.int .i64 e)) : Nz w (.iface 45 (.pointer (some ⟨b, 0, none⟩)))
  | estr (b : Nat) (m : ByteArray) (h0 : w.cell? ⟨b, 0, none⟩ = some (.string m)) : Nz w (.iface 62 (.pointer (some ⟨b, 0, none⟩)))
  | named (b : Nat) (m : ByteArray) (x : Value) (h0 : w.cell? ⟨b, 0, none⟩ = some (.string m)) (h1 : w.cell? ⟨b, 1, none⟩ = some x) (hx : Nz w x) : Nz w (.iface 48 (.pointer (some ⟨b, 0, none⟩)))
  | wrap (b : Nat) (m : ByteArray) (x : Value) (h0 : w.cell? ⟨b, 0, none⟩ = some (.string m)) (h1 : w.cell? ⟨b, 1, none⟩ = some x) (hx : Nz w x) : Nz w (.iface 53 (.pointer (some ⟨b, 0, none⟩)))
theorem Ch.nz {w : World} {v : Value} {d : Nat} {r : Option Nat} (h : Ch w v d r) (hr : ∀ b, r = some b → ∃ e : Int, w.cell? ⟨b, 0, none⟩ = some (.int .i64 e) ∧ e ≠ 0) : Nz w v := by
  induction h with
  | place b e p h0 h1 => obtain ⟨e', h, he⟩ := hr b rfl; exact .place b e' p he h
  | estr b m h0 => exact .estr b m h0
  | named b m x d r h0 h1 hx ih => exact .named b m x h0 h1 (ih hr)
  | wrap b m x d r h0 h1 hx ih => exact .wrap b m x h0 h1 (ih hr)
theorem LatX.str {w w' : World} (hl : LatX w w') {b i : Nat} {m : ByteArray} {u : Value} (h0 : w.cell? ⟨b, 0, none⟩ = some (.string m)) (hi : i < 2) (hu : w.cell? ⟨b, i, none⟩ = some u) : w'.cell? ⟨b, i, none⟩ = some u :=
  hl b i u hi (by rw [h0]; simp) hu
theorem LatX.int {w w' : World} (hl : LatX w w') {b i : Nat} {e : Int} {u : Value} (h0 : w.cell? ⟨b, 0, none⟩ = some (.int .i64 e)) (he : e ≠ 0) (hi : i < 2) (hu : w.cell? ⟨b, i, none⟩ = some u) : w'.cell? ⟨b, i, none⟩ = some u :=
  hl b i u hi (by rw [h0]; simpa using he) hu
theorem same_cell {w : World} {a : Addr} {x y : Value} (h : w.cell? a = some x) (k : w.cell? a = some y) : x = y := Option.some.inj (h.symm.trans k)
theorem Nz.ch {w w' : World} {v : Value} (h : Nz w v) (hl : LatX w w') : ∀ {d : Nat} {r : Option Nat}, Ch w v d r → Ch w' v d r := by
  induction h with
  | place b e p he h0 => intro d r hc; cases hc with | place _ e' p' k0 k1 => exact .place b e' p' (hl.int h0 he (by omega) k0) (hl.int h0 he (by omega) k1)
  | estr b m h0 => intro d r hc; cases hc with | estr _ m' k0 => exact .estr b m' (hl.str h0 (by omega) k0)
  | named b m x h0 h1 hx ih => intro d r hc; cases hc with | named _ m' x' d' r' k0 k1 hx' => exact .named b m' x' d' r (hl.str h0 (by omega) k0) (hl.str h0 (by omega) k1) (ih (same_cell k1 h1 ▸ hx') |> fun z => same_cell h1 k1 ▸ z)
  | wrap b m x h0 h1 hx ih => intro d r hc; cases hc with | wrap _ m' x' d' r' k0 k1 hx' => exact .wrap b m' x' d' r (hl.str h0 (by omega) k0) (hl.str h0 (by omega) k1) (ih (same_cell k1 h1 ▸ hx') |> fun z => same_cell h1 k1 ▸ z)
theorem Nz.nm {w w' : World} {v : Value} (h : Nz w v) (hl : LatX w w') : ∀ {d : Nat} {r : Option Nat}, Nm w v d r → Nm w' v d r := by
  induction h with
  | place b e p he h0 => intro d r hc; cases hc with | place _ e' p' k0 k1 => exact .place b e' p' (hl.int h0 he (by omega) k0) (hl.int h0 he (by omega) k1)
  | estr b m h0 => intro d r hc; cases hc with | estr _ m' k0 => exact .estr b m' (hl.str h0 (by omega) k0)
  | named b m x h0 h1 hx ih => intro d r hc; cases hc with | named _ m' k0 => exact .named b m' (hl.str h0 (by omega) k0)
  | wrap b m x h0 h1 hx ih => intro d r hc; cases hc with | wrap _ m' x' d' r' k0 k1 hx' => exact .wrap b m' x' d' r (hl.str h0 (by omega) k0) (hl.str h0 (by omega) k1) (ih (same_cell k1 h1 ▸ hx') |> fun z => same_cell h1 k1 ▸ z)
theorem Nz.tx {w w' : World} {v : Value} (h : Nz w v) (hl : LatX w w') : ∀ {L : ByteArray}, Tx w v L → Tx w' v L := by
  induction h with
  | place b e p he h0 => intro L hc; cases hc with | place _ e' p' k0 k1 => exact .place b e' p' (hl.int h0 he (by omega) k0) (hl.int h0 he (by omega) k1)
  | estr b m h0 => intro L hc; cases hc with | estr _ _ k0 => exact .estr b _ (hl.str h0 (by omega) k0)
  | named b m x h0 h1 hx ih => intro L hc; cases hc with | named _ m' x' L' k0 k1 hL hx' => exact .named b m' x' L' (hl.str h0 (by omega) k0) (hl.str h0 (by omega) k1) hL (ih (same_cell k1 h1 ▸ hx') |> fun z => same_cell h1 k1 ▸ z)
  | wrap b m x h0 h1 hx ih => intro L hc; cases hc with | wrap _ _ k0 => exact .wrap b _ (hl.str h0 (by omega) k0)
theorem E3.latX {w w' : World} {v : Value} {r : Option (Int × Int)} {n : Option ByteArray} {L : Nat} (h : E3 w v r n L) (hr : ∀ e a, r = some (e, a) → e ≠ 0) (hl : LatX w w') : E3 w' v r n L := by
  obtain ⟨m, hm, hs⟩ := h.tx
  obtain ⟨d, p, hc, hr1⟩ := h.err.ch
  obtain ⟨d', p', hc', hr2⟩ := h.nam.ch
  have hz : Nz w v := hc.nz fun b hb => by
    cases r with
    | none => subst hr1; cases hb
    | some q => obtain ⟨b', rfl, h0, h1⟩ := hr1; cases hb; exact ⟨q.1, h0, hr _ _ rfl⟩
  refine ⟨⟨d, p, hz.ch hl hc, ?_⟩, ⟨d', p', hz.nm hl hc', ?_⟩, m, hz.tx hl hm, hs⟩
  · cases r with
    | none => exact hr1
    | some q => obtain ⟨b, rfl, h0, h1⟩ := hr1; exact ⟨b, rfl, hl.int h0 (hr _ _ rfl) (by omega) h0, hl.int h0 (hr _ _ rfl) (by omega) h1⟩
  · cases n with
    | none => exact hr2
    | some q => obtain ⟨b, rfl, h0⟩ := hr2; exact ⟨b, rfl, hl.str h0 (by omega) h0⟩
theorem HasType.lat {w w' : World} (h : HasType w) (hl : Lat w w') : HasType w' := hl _ _ _ (by omega) h
/-- Names that came in. -/
def NArg (w : World) (A : Option Addr) (n : Nat) : Prop := ∀ k, k < n → ∃ b off s, A = some ⟨b, off, none⟩ ∧ w.cell? ⟨b, off + k, none⟩ = some (.string s) ∧ s.size ≤ 140737488351232
/-- The last of some names. -/
def LastOf (ns : List Value) (nm : Option ByteArray) : Prop := (ns = [] ∧ nm = none) ∨ ∃ l m, ns = l ++ [.string m] ∧ nm = some m
theorem ElStr : El Tryf.prog 35 9 1 16 := El.of (z := .string ⟨#[]⟩) Tryf.underlying35 (by kernel_rfl) rfl (by decide)
theorem below_more {w w' : World} (h : Below w.heap.size w w') (o : Obj) : Below w.heap.size w (w'.alloc o) := h.alloc h.size o
theorem blk_at {g : Nat} (w : World) (t : TypeId) (cs : Array Value) (hg : w.heap.size = g) : Blk (w.alloc (.cells cs t)) g t cs := by subst hg; exact Blk.new w t cs
theorem own_base {w : World} {base base' : Nat} {e : TypeId} {size n : Nat} {v : Value} {xs : List Value} (h : w.ownsRow base e size v n xs) (hb : base' ≤ base) : w.ownsRow base' e size v n xs := by
  refine ⟨h.1, ?_⟩
  rcases h.2 with hn | ⟨g, cap, cur, rfl, hg, rest⟩
  · exact .inl hn
  · exact .inr ⟨g, cap, cur, rfl, Nat.le_trans hb hg, rest⟩
theorem made_rel {w wr w4 : World} {fb : Nat} {e at_ : Int} {nv v0 : Value} {other : Bool} {s : ByteArray} {r : Option (Int × Int)} {L j c2 : Nat} {A2 : Option Addr} {ns : List Value} (hfb : w.heap.size + 1 = fb)
    (h1 : Blk wr fb 37 #[.int .i64 e, .int .i64 at_, nv, .bool other]) (h2 : Blk wr w.heap.size 37 #[.int .i64 0, .int .i64 0, .slice none 0 0, .bool false]) (h3 : Below w.heap.size w wr)
    (h4 : E3 (wr.alloc (.cells #[.string s, v0] 50)) (.iface 48 (.pointer (some ⟨wr.heap.size, 0, none⟩))) r (some s) L)
    (h5 : w4.ownsRow (wr.heap.size + 1) 9 1 (.slice A2 (ns.length + 1) c2) (ns.length + 1) (ns ++ [.string s]))
    (h6 : Keeps (wr.heap.size + 1) [9] (wr.alloc (.cells #[.string s, v0] 50)) w4) (h7 : ns.length ≤ j) (h8 : ∀ u ∈ ns, u.oneCell' = true) :
    (E3 (w4.setCell ⟨fb, 2, none⟩ (.slice A2 (ns.length + 1) c2)) (.iface 48 (.pointer (some ⟨wr.heap.size, 0, none⟩))) r (some s) L ∧
     (w4.setCell ⟨fb, 2, none⟩ (.slice A2 (ns.length + 1) c2)).ownsRow (w.heap.size + 2) 9 1 (.slice A2 (ns.length + 1) c2) (ns ++ [Value.string s]).length (ns ++ [Value.string s]) ∧
     LastOf (ns ++ [Value.string s]) (some s) ∧ (ns ++ [Value.string s]).length ≤ j + 1 ∧ ∀ u ∈ ns ++ [Value.string s], u.oneCell' = true) ∧
    Blk (w4.setCell ⟨fb, 2, none⟩ (.slice A2 (ns.length + 1) c2)) fb 37 #[.int .i64 e, .int .i64 at_, .slice A2 (ns.length + 1) c2, .bool other] ∧
    Blk (w4.setCell ⟨fb, 2, none⟩ (.slice A2 (ns.length + 1) c2)) w.heap.size 37 #[.int .i64 0, .int .i64 0, .slice none 0 0, .bool false] ∧
    Below w.heap.size w (w4.setCell ⟨fb, 2, none⟩ (.slice A2 (ns.length + 1) c2)) := by
  have hz : (wr.alloc (.cells #[.string s, v0] 50)).heap.size = wr.heap.size + 1 := by simp
  have b4 : Below (wr.alloc (.cells #[.string s, v0] 50)).heap.size (wr.alloc (.cells #[.string s, v0] 50)) w4 := hz ▸ h6.below (Nat.le_of_eq hz.symm)
  have b5 := (below_alloc wr (.cells #[.string s, v0] 50)).trans (b4.mono (by omega))
  have hf := h1.lt
  have hr := h2.lt
  refine ⟨⟨h4.lat ((Lat.below b4).trans (Lat.set _ _ _ (Nat.le_refl _) _)), ?_, .inr ⟨ns, s, rfl, rfl⟩, by simp; omega, ?_⟩, ?_, ?_, ?_⟩
  · have : (ns ++ [Value.string s]).length = ns.length + 1 := by simp
    rw [this]
    refine own_far (own_base h5 (by omega)) ?_ _
    intro he
    have := (h5.lt _ he).1
    simp at this
    omega
  · intro u hu
    rcases List.mem_append.1 hu with h | h
    · exact h8 u h
    · simp at h; subst h; rfl
  · have := (h1.below b5 hf).set_ 2 (.slice A2 (ns.length + 1) c2)
    simpa using this
  · exact (h2.below b5 hr).far (by simp; omega) _
  · exact (h3.trans (b5.mono (by omega))).setCell (by simp; omega) _
theorem made_end {w wr : World} {v nv : Value} {r : Option (Int × Int)} {nm : Option ByteArray} {L L' : Nat} {e at_ : Int} {other : Bool} {ns : List Value} (hr : ∀ e a, r = some (e, a) → e ≠ 0) (h1 : E3 wr v r nm L) (hL : L ≤ L')
    (h2 : wr.ownsRow (w.heap.size + 2) 9 1 nv ns.length ns) (h3 : LastOf ns nm) (h4 : Blk wr w.heap.size 37 #[.int .i64 0, .int .i64 0, .slice none 0 0, .bool false]) (h5 : Below w.heap.size w wr) :
    E3 ((((wr.setCell ⟨w.heap.size, 0, none⟩ (.int .i64 e)).setCell ⟨w.heap.size, 1, none⟩ (.int .i64 at_)).setCell ⟨w.heap.size, 2, none⟩ nv).setCell ⟨w.heap.size, 3, none⟩ (.bool other)).drew v r nm L' ∧
    ((((wr.setCell ⟨w.heap.size, 0, none⟩ (.int .i64 e)).setCell ⟨w.heap.size, 1, none⟩ (.int .i64 at_)).setCell ⟨w.heap.size, 2, none⟩ nv).setCell ⟨w.heap.size, 3, none⟩ (.bool other)).drew.ownsRow w.heap.size 9 1 nv ns.length ns ∧
    LastOf ns nm ∧ Below w.heap.size w ((((wr.setCell ⟨w.heap.size, 0, none⟩ (.int .i64 e)).setCell ⟨w.heap.size, 1, none⟩ (.int .i64 at_)).setCell ⟨w.heap.size, 2, none⟩ nv).setCell ⟨w.heap.size, 3, none⟩ (.bool other)).drew := by
  have hne : ∀ (y : World) (i : Nat) (u : Value) (b j : Nat), b ≠ w.heap.size → (y.setCell ⟨w.heap.size, i, none⟩ u).cell? ⟨b, j, none⟩ = y.cell? ⟨b, j, none⟩ := fun y i u b j hb => World.cell?_setCell_far _ _ _ _ (Ne.symm hb)
  have hob : nv.ownBlock ≠ some w.heap.size := by
    intro he
    have := (h2.lt _ he).1
    omega
  refine ⟨(h1.latX hr ?_).more hL, ?_, h3, ((((h5.setCell (by simp) _).setCell (by simp) _).setCell (by simp) _).setCell (by simp) _).drew⟩
  · intro b i u hi h0 hu
    by_cases hb : b = w.heap.size
    · subst hb
      exact absurd (h4.cell 0) h0
    · show ((((wr.setCell _ _).setCell _ _).setCell _ _).setCell _ _).cell? _ = _
      rw [hne _ _ _ _ _ hb, hne _ _ _ _ _ hb, hne _ _ _ _ _ hb, hne _ _ _ _ _ hb]; exact hu
  · have a1 := own_far (own_base h2 (base' := w.heap.size) (by omega)) (p := ⟨w.heap.size, 0, none⟩) hob (.int .i64 e)
    have a2 := own_far a1 (p := ⟨w.heap.size, 1, none⟩) hob (.int .i64 at_)
    have a3 := own_far a2 (p := ⟨w.heap.size, 2, none⟩) hob nv
    exact (own_far a3 (p := ⟨w.heap.size, 3, none⟩) hob (.bool other)).drew
theorem enew_any (m : ByteArray) (w : World) : Calls Tryf.prog 20 #[.string m] w fun en w' => en = .returned (.iface 62 (.pointer (some ⟨w.heap.size, 0, none⟩))) ∧ w' = w.alloc (.cells #[.string m] 64) := by
  go_enter Tryf.func20, Tryf.ntmps20
  go_wp2
  go_ret
  exact ⟨rfl, rfl⟩

set_option maxRecDepth 100000 in
set_option maxHeartbeats 4000000 in
theorem made_nil {w : World} (at_ : Int) (A : Option Addr) (n c : Nat) (hn : n ≤ 30) : Calls Tryf.prog 14 #[.int .i64 0, .int .i64 at_, .bool false, .slice A n c] w
    (RetB w (.tuple #[.nilIface, .agg #[.int .i64 0, .int .i64 at_, .slice none 0 0, .bool false]])) := by
  go_enter Tryf.func14, Tryf.ntmps14
  go_wp2_with (go_at_call 5; refine (new_zero _ _).mono ?_; rintro en w' ⟨rfl, rfl⟩)
  refine wp_loop_rounds 1 ?_
  rw [rounds_succ]
  by_cases h0 : (0 : Int) < n
  all_goals
    go_wp2
    go_region
    go_wp2
    refine bodyPost_ret (v := .tuple #[.nilIface, .agg #[.int .i64 0, .int .i64 at_, .slice none 0 0, .bool false]]) (by simp [results, Tryf.results14, go_sem]) rfl ⟨rfl, ?_⟩
    exact below_drewN (((Below.refl _ w).alloc (Nat.le_refl _) _).alloc (by simp) _) 1
/-- What made hands back, of an error that is none of nil. -/
def MadeEnd (w : World) (r : Option (Int × Int)) (e0 at_ : Int) (other : Bool) (en : Ending) (w' : World) : Prop :=
  ∃ T b nv ns nm, en = .returned (.tuple #[.iface T (.pointer (some ⟨b, 0, none⟩)), .agg #[.int .i64 e0, .int .i64 at_, nv, .bool other]]) ∧ ns.length ≤ 30 ∧
    E3 w' (.iface T (.pointer (some ⟨b, 0, none⟩))) r nm 4361686018427387904 ∧ w'.ownsRow w.heap.size 9 1 nv ns.length ns ∧ LastOf ns nm ∧ Below w.heap.size w w'


set_option maxRecDepth 100000 in
set_option maxHeartbeats 4000000 in
theorem made_place (F : Interp) {w : World} (hF : F.told.answers w.tape) (e at_ : Int) (he : (e == 0) = false) (A : Option Addr) (n c : Nat) (hn : n ≤ 30) (hN : NArg w A n) :
    Calls Tryf.prog 14 #[.int .i64 e, .int .i64 at_, .bool false, .slice A n c] w (MadeEnd w (some (e, at_)) e at_ false) := by
  have hb2 : Below w.heap.size w ((w.alloc (.cells #[.int .i64 0, .int .i64 0, .slice none 0 0, .bool false] 37)).alloc (.cells #[.int .i64 e, .int .i64 at_, .slice none 0 0, .bool false] 37)) := ((Below.refl _ w).alloc (Nat.le_refl _) _).alloc (by simp) _
  have hb0 := hb2.alloc (by simp; omega) (.cells #[.int .i64 e, .int .i64 at_] 47)
  have he0 := E3.new ((w.alloc (.cells #[.int .i64 0, .int .i64 0, .slice none 0 0, .bool false] 37)).alloc (.cells #[.int .i64 e, .int .i64 at_, .slice none 0 0, .bool false] 37)) e at_
  have hz2 : ((w.alloc (.cells #[.int .i64 0, .int .i64 0, .slice none 0 0, .bool false] 37)).alloc (.cells #[.int .i64 e, .int .i64 at_, .slice none 0 0, .bool false] 37)).heap.size = w.heap.size + 1 + 1 := by simp
  rw [hz2] at he0
  have HE0 := Lib.hid (he0.more (L' := 20) (by omega))
  have HRB := Lib.hid (((Blk.new w 37 #[.int .i64 0, .int .i64 0, .slice none 0 0, .bool false]).alloc (.cells #[.int .i64 e, .int .i64 at_, .slice none 0 0, .bool false] 37)).alloc (.cells #[.int .i64 e, .int .i64 at_] 47))
  have hfb := (Blk.new (w.alloc (.cells #[.int .i64 0, .int .i64 0, .slice none 0 0, .bool false] 37)) 37 #[.int .i64 e, .int .i64 at_, .slice none 0 0, .bool false]).alloc (.cells #[.int .i64 e, .int .i64 at_] 47)
  rw [World.size_alloc] at hfb
  have HFB := Lib.hid hfb
  have HB0 := Lib.hid hb0
  have HN := Lib.hid hN
  have HNZ : Hid (∀ e' a, some (e, at_) = some (e', a) → e' ≠ 0) := Lib.hid (by intro e' a h; cases h; simpa using he)
  have HE := Lib.hid he
  have HF := Lib.hid hF
  clear hN he hF hfb hb0 hb2 he0 hz2
  go_enter Tryf.func14, Tryf.ntmps14
  go_wp2_with (go_at_call 5; refine (new_some _ _ _ HE.out).mono ?_; rintro en w' ⟨rfl, rfl⟩)
  go_loopw [11, 12] (fun v i wr => ∃ (j : Nat) (T : TypeId) (b : Nat) (nv : Value), j ≤ n ∧ i = .int .i64 j ∧ v = .iface T (.pointer (some ⟨b, 0, none⟩)) ∧ Hid (∃ ns nm, E3 wr v (some (e, at_)) nm (20 + j * 140737488351240) ∧ wr.ownsRow (w.heap.size + 2) 9 1 nv ns.length ns ∧ LastOf ns nm ∧ ns.length ≤ j ∧ ∀ u ∈ ns, u.oneCell' = true) ∧
        Hid (Blk wr (w.heap.size + 1) 37 #[.int .i64 e, .int .i64 at_, nv, .bool false]) ∧ Hid (Blk wr w.heap.size 37 #[.int .i64 0, .int .i64 0, .slice none 0 0, .bool false]) ∧ Hid (Below w.heap.size w wr)) (fun _ i _ => 30 - (intOf i).toNat)
  case atStart => exact ⟨0, _, _, _, Nat.zero_le _, rfl, rfl, Lib.hid ⟨[], none, HE0.out, World.ownsRow_nil _ _ _ _, .inl ⟨rfl, rfl⟩, Nat.zero_le _, by simp⟩, HFB, HRB, HB0⟩
  case round =>
    obtain ⟨j, T, b, nv, hj, rfl, rfl, HI, HFB1, HRB1, HB1⟩ := hrel
    generalize hfb : w.heap.size + 1 = fb at *
    have hfb2 : fb < w.heap.size + 2 := by omega
    have hfb3 : w.heap.size < fb := by omega
    have HFBE := Lib.hid hfb
    clear hfb
    have fb0 := HFB1.out.cell 0
    have fb1 := HFB1.out.cell 1
    have fb2 := HFB1.out.cell 2
    have fb3 := HFB1.out.cell 3
    have ff2 := HFB1.out.frozen 2
    simp at fb0 fb1 fb2 fb3
    by_cases hlt : (j : Int) < n
    · obtain ⟨nb, off, s, rfl, hs, hsz⟩ := HN.out j (by omega)
      have hnb : nb < w.heap.size := World.block_lt_of_cell? w _ hs
      have hs1 := (HB1.out.cell (p := ⟨nb, off + j, none⟩) hnb).trans hs
      cases hsp : (s.toList == [32]) with
      | true =>
        have hB2 := below_alloc wr (.cells #[.iface T (.pointer (some ⟨b, 0, none⟩))] 20)
        have HB2 := Lib.hid hB2
        obtain ⟨ns, nm, he3, hown, hlast, hnl, hone⟩ := HI.out
        have HOWN := Lib.hid hown
        have HREST := Lib.hid (And.intro hlast (And.intro hnl hone))
        have hF2 : F.told.answers (wr.alloc (.cells #[.iface T (.pointer (some ⟨b, 0, none⟩))] 20)).tape := by rw [hB2.tape, HB1.out.tape]; exact HF.out
        have HW2 := Lib.hid (wrap_any F (fb := ⟨#[109, 111, 114, 101, 58, 32, 37, 119]⟩) rfl parseM (by decide) fmt1 fmt1r (he3.later hB2) (by omega) hF2 wr.heap.size (by simp))
        clear hB2 he3 hown hlast hnl hone hF2
        go_wp2_with (first
          | (go_at_call 8; refine (HW2.out).mono ?_; intro en w1 hx; obtain ⟨rfl, hb, h5, hz⟩ := hx; rw [World.size_alloc] at h5; have HB3 := Lib.hid (HB2.out.trans (hb.mono HB2.out.size)); have H5 := Lib.hid h5; clear hb h5))
        go_roundw
        case rel => exact ⟨j + 1, _, _, _, by omega, by go_num, rfl, Lib.hid ⟨ns, nm, H5.out.more (by omega), (Keeps.of_below (B := 0) (T := []) HB3.out).own HOWN.out (.inr (by simp)), HREST.out.1, by have := HREST.out.2.1; omega, HREST.out.2.2⟩, Lib.hid (HFBE.out ▸ HFB1.out.below HB3.out HFB1.out.lt), Lib.hid (HRB1.out.below HB3.out HRB1.out.lt), Lib.hid (HB1.out.trans (HB3.out.mono HB1.out.size))⟩
        case measure => simp [intOf]; omega
      | false =>
        have hB2 := below_alloc wr (.cells #[.string s, .iface T (.pointer (some ⟨b, 0, none⟩))] 50)
        have HB2 := Lib.hid hB2
        obtain ⟨ns, nm, he3, hown, hlast, hnl, hone⟩ := HI.out
        have HSRC := Lib.hid (SrcOK.own hown hone)
        have HOWN := Lib.hid hown
        have HREST := Lib.hid (And.intro hlast (And.intro hnl hone))
        have HE3 := Lib.hid (he3.in s hsz (by omega))
        clear he3 hown hlast hone
        have fc2 := (HFB1.out.alloc (.cells #[.string s, .iface T (.pointer (some ⟨b, 0, none⟩))] 50)).cell 2
        have fc3 := (HFB1.out.alloc (.cells #[.string s, .iface T (.pointer (some ⟨b, 0, none⟩))] 50)).frozen 2
        have hs2 := (hB2.cell (p := ⟨nb, off + j, none⟩) (by have := HB1.out.size; show nb < _; omega)).trans hs1
        simp at fc2
        go_wp2_with (first
          | (go_at_call 6; refine (in_some _ _ _ _).mono ?_; rintro en w2 ⟨rfl, rfl⟩))
        have hz1 : fb < wr.heap.size := HFB1.out.lt
        have hz2 : nb < wr.heap.size := by have := HB1.out.size; omega
        have hz3 : fb < wr.heap.size + 1 := by omega
        have hz4 : fb < wr.heap.size + 1 + 1 := by omega
        have hz5 : fb < wr.heap.size + 1 + 1 + 1 := by omega
        have hz6 : nb < wr.heap.size + 1 := by omega
        have hz7 : nb < wr.heap.size + 1 + 1 := by omega
        have hz8 : nb < wr.heap.size + 1 + 1 + 1 := by omega
        have HK : Hid (∀ y, Keeps (wr.heap.size + 1) [9] (wr.alloc (.cells #[.string s, .iface T (.pointer (some ⟨b, 0, none⟩))] 50)) y → (y.cell? ⟨fb, 2, none⟩ = some nv ∧ y.cell? ⟨nb, off + j, none⟩ = some (.string s)) ∧ y.frozen? ⟨fb, 2, none⟩ = false) := Lib.hid (fun y hy => by
          have h1 := hy.blk (HFB1.out.alloc (.cells #[.string s, .iface T (.pointer (some ⟨b, 0, none⟩))] 50)) (.inl (by omega))
          have h2 := h1.cell 2
          simp at h2
          exact ⟨⟨h2, (World.cell?_of_block (hy.block nb (by simp; omega) (.inl (by omega)))).trans hs2⟩, h1.frozen 2⟩)
        have HSK : Hid (∀ y, Below wr.heap.size wr y → SrcOK y nv ns.length 1 ns) := Lib.hid (fun y hy => HSRC.out.keep fun a ha => hy.block a (HOWN.out.lt a ha).2)
        have K0 : Keeps (wr.heap.size + 1) [9] (wr.alloc (.cells #[.string s, .iface T (.pointer (some ⟨b, 0, none⟩))] 50)) (wr.alloc (.cells #[.string s, .iface T (.pointer (some ⟨b, 0, none⟩))] 50)) := Keeps.refl _ _ _
        have KK0 := Lib.hid K0
        clear K0
        go_region_law (first
            | (refine step_app ElStr (.tmp 46) (.tmp 48) ?_ ?_ (base := wr.heap.size + 1) (n := 0) (m := ns.length) (N := ns.length) (v := .slice (some ⟨wr.heap.size + 1, 0, none⟩) 0 0) (src := nv) (xs := []) (news := ns) ?_ ?_ ?_ ?_ ?_ ?_ ?_ ?_ ?_
               · rfl
               · rfl
               · rfl
               · rfl
               · exact own_made (by simp) (by omega) (by decide) rfl
               · exact HSK.out _ (below_more (below_alloc wr _).drew _)
               · omega
               · unfold maxLen; omega
               · omega
               · first | (simp; done) | (simp; omega)
               intro A1 c1 w3 r1 r2 r3
               have R1 := Lib.hid r1
               have KK3 := Lib.hid ((KK0.out.drew.alloc _).trans r2)
               obtain ⟨⟨k3a, k3b⟩, k3c⟩ := HK.out _ KK3.out
               clear r1 r2 r3)
            | (refine step_app ElStr (.tmp 46) (.tmp 48) ?_ ?_ (base := wr.heap.size + 1) (n := 0) (m := ns.length) (N := ns.length) (v := .slice (some ⟨wr.heap.size + 1, 0, none⟩) 0 0) (src := nv) (xs := []) (news := ns) ?_ ?_ ?_ ?_ ?_ ?_ ?_ ?_ ?_
               · rfl
               · rfl
               · rfl
               · rfl
               · exact (own_made (by simp) (by omega) (by decide) rfl).alloc _
               · exact HSK.out _ (below_more (below_more (below_alloc wr _).drew _) _)
               · omega
               · unfold maxLen; omega
               · omega
               · first | (simp; done) | (simp; omega)
               intro A1 c1 w3 r1 r2 r3
               have R1 := Lib.hid r1
               have KK3 := Lib.hid (((KK0.out.drew.alloc _).alloc _).trans r2)
               obtain ⟨⟨k3a, k3b⟩, k3c⟩ := HK.out _ KK3.out
               have hbk := (blk_at (g := wr.heap.size + 1 + 1) ((wr.alloc (.cells #[.string s, .iface T (.pointer (some ⟨b, 0, none⟩))] 50)).drew.alloc (.cells #[] 9)) 9 #[.string s] (by simp)).grown r3.1 (by simp [Value.ownBlock])
               have HBK := Lib.hid hbk
               clear hbk
               clear r1 r2 r3)
            | (refine step_app ElStr (.tmp 46) (.tmp 48) ?_ ?_ (base := wr.heap.size + 1) (n := 0) (m := ns.length) (N := ns.length) (v := .slice (some ⟨wr.heap.size + 1 + 1, 0, none⟩) 0 0) (src := nv) (xs := []) (news := ns) ?_ ?_ ?_ ?_ ?_ ?_ ?_ ?_ ?_
               · rfl
               · rfl
               · rfl
               · rfl
               · exact own_made (by simp) (by omega) (by decide) rfl
               · exact HSK.out _ (below_more (below_more (below_alloc wr _).drew _) _)
               · omega
               · unfold maxLen; omega
               · omega
               · first | (simp; done) | (simp; omega)
               intro A1 c1 w3 r1 r2 r3
               have R1 := Lib.hid r1
               have KK3 := Lib.hid (((KK0.out.drew.alloc _).alloc _).trans r2)
               obtain ⟨⟨k3a, k3b⟩, k3c⟩ := HK.out _ KK3.out
               have hbk := ((blk_at (g := wr.heap.size + 1) ((wr.alloc (.cells #[.string s, .iface T (.pointer (some ⟨b, 0, none⟩))] 50)).drew) 9 #[.string s] (by simp)).alloc (.cells #[] 9)).grown r3.1 (by simp [Value.ownBlock])
               have HBK := Lib.hid hbk
               clear hbk
               clear r1 r2 r3)
            | (refine step_app ElStr (.tmp 49) (.tmp 54) ?_ ?_ (base := wr.heap.size + 1) (n := ns.length) (m := 1) (N := ns.length + 1) (v := .slice A1 ns.length c1) (src := .slice (some ⟨w3.heap.size, 0, none⟩) 1 1) (xs := [] ++ ns) (news := [.string s]) ?_ ?_ ?_ ?_ ?_ ?_ ?_ ?_ ?_
               · rfl
               · rfl
               · rfl
               · rfl
               · exact R1.out.alloc _
               · exact SrcOK.blk (c := 1) (Blk.new _ _ _) rfl (by simp [Value.oneCell'])
               · rfl
               · unfold maxLen; omega
               · omega
               · have h1 := KK3.out.size; simp at h1; first | omega | (simp; omega)
               intro A2 c2 w4 q1 q2 q3
               rw [List.nil_append] at q1
               have Q1 := Lib.hid q1
               have KK4 := Lib.hid ((KK3.out.alloc _).trans q2)
               obtain ⟨⟨k4a, k4b⟩, k4c⟩ := HK.out _ KK4.out
               clear q1 q2 q3)
            | (refine step_app ElStr (.tmp 49) (.tmp 54) ?_ ?_ (base := wr.heap.size + 1) (n := ns.length) (m := 1) (N := ns.length + 1) (v := .slice A1 ns.length c1) (src := .slice (some ⟨wr.heap.size + 1 + 1, 0, none⟩) 1 1) (xs := [] ++ ns) (news := [.string s]) ?_ ?_ ?_ ?_ ?_ ?_ ?_ ?_ ?_
               · rfl
               · rfl
               · rfl
               · rfl
               · exact R1.out
               · exact SrcOK.blk (c := 1) HBK.out rfl (by simp [Value.oneCell'])
               · rfl
               · unfold maxLen; omega
               · omega
               · have h1 := KK3.out.size; simp at h1; first | omega | (simp; omega)
               intro A2 c2 w4 q1 q2 q3
               rw [List.nil_append] at q1
               have Q1 := Lib.hid q1
               have KK4 := Lib.hid (KK3.out.trans q2)
               obtain ⟨⟨k4a, k4b⟩, k4c⟩ := HK.out _ KK4.out
               clear q1 q2 q3)
            | (refine step_app ElStr (.tmp 49) (.tmp 54) ?_ ?_ (base := wr.heap.size + 1) (n := ns.length) (m := 1) (N := ns.length + 1) (v := .slice A1 ns.length c1) (src := .slice (some ⟨wr.heap.size + 1, 0, none⟩) 1 1) (xs := [] ++ ns) (news := [.string s]) ?_ ?_ ?_ ?_ ?_ ?_ ?_ ?_ ?_
               · rfl
               · rfl
               · rfl
               · rfl
               · exact R1.out
               · exact SrcOK.blk (c := 1) HBK.out rfl (by simp [Value.oneCell'])
               · rfl
               · unfold maxLen; omega
               · omega
               · have h1 := KK3.out.size; simp at h1; first | omega | (simp; omega)
               intro A2 c2 w4 q1 q2 q3
               rw [List.nil_append] at q1
               have Q1 := Lib.hid q1
               have KK4 := Lib.hid (KK3.out.trans q2)
               obtain ⟨⟨k4a, k4b⟩, k4c⟩ := HK.out _ KK4.out
               clear q1 q2 q3))
        all_goals go_wp2
        all_goals go_roundw
        all_goals first | (simp [intOf]; omega) | skip
        all_goals
          obtain ⟨⟨x1, x2, x3, x4, x5⟩, x6, x7, x8⟩ := made_rel HFBE.out HFB1.out HRB1.out HB1.out HE3.out Q1.out KK4.out HREST.out.2.1 HREST.out.2.2
          exact ⟨j + 1, _, _, _, by omega, by go_num, rfl, Lib.hid ⟨_, _, x1.more (by omega), x2, x3, x4, x5⟩, Lib.hid x6, Lib.hid x7, Lib.hid x8⟩
    · have gb0 := HRB1.out.cell 0
      have gb1 := HRB1.out.cell 1
      have gb2 := HRB1.out.cell 2
      have gb3 := HRB1.out.cell 3
      have gf0 := HRB1.out.frozen 0
      have gf1 := HRB1.out.frozen 1
      have gf2 := HRB1.out.frozen 2
      have gf3 := HRB1.out.frozen 3
      simp at gb0 gb1 gb2 gb3
      obtain ⟨ns, nm, he3, hown, hlast, hnl, hone⟩ := HI.out
      obtain ⟨NA, Nc, hnv⟩ : ∃ NA Nc, nv = .slice NA ns.length Nc := by
        rcases own_form hown with ⟨h1, h2⟩ | ⟨b', c', h1, _⟩
        · exact ⟨none, 0, by rw [h1, h2]⟩
        · exact ⟨_, _, h1⟩
      subst hnv
      have HE3 := Lib.hid he3
      have HOWN := Lib.hid hown
      have HLAST := Lib.hid hlast
      clear he3 hown hlast hone
      go_wp2_with fail
      go_region
      go_wp2
      refine bodyPost_ret (v := .tuple #[.iface T (.pointer (some ⟨b, 0, none⟩)),   .agg #[.int .i64 e, .int .i64 at_, .slice NA ns.length Nc, .bool false]]) (by simp [results, Tryf.results14, go_sem, gb0, gb1, gb2, gb3]) rfl ⟨T, b, .slice NA ns.length Nc, ns, nm, rfl, by omega, ?_⟩
      exact made_end HNZ.out HE3.out (by omega) HOWN.out HLAST.out HRB1.out HB1.out
end Go.Proofs.YtaeakipppdjkmaaFmt
