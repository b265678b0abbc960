/- SourceDoes: the walk. -/
import Derived.Test.YtmjgleopmnplbaaX5
import Derived.Test.YtmjgleopmnplbaaWd
import Derived.Deep.RegionHeld3
namespace Go.Proofs.Ytmjgleopmnplbaa
open Go.RowKit
set_option linter.unusedVariables false

/-- What is read of the list of calls. -/
structure OpArg (w : World) (A : Option Addr) (len : Nat) : Prop where
  most : len ≤ 9223372036854775807
  each : ∀ k, k < len → ∃ b off K nm tx, A = some ⟨b, off, none⟩ ∧ b < w.heap.size ∧ w.cell? ⟨b, off + k * 3, none⟩ = some (.int .i64 K) ∧ w.cell? ⟨b, off + k * 3 + 1, none⟩ = some (.string nm) ∧ w.cell? ⟨b, off + k * 3 + 2, none⟩ = some (.string tx)

abbrev TT : List TypeId := [45, 47, 35, 50]

/-- What is true at a round's head. -/
structure Both (w0 w : World) (g h : Nat) (vs : List SV) (n : Nat) : Prop where
  keep : Keeps w0.heap.size TT w0 w
  src : ∃ sl, Src w w0.heap.size g sl vs n
  ref : ∃ sl, Ref w w0.heap.size h sl (vs.map SV.toRV) n
  inv : Inv vs

theorem Both.below {w0 w w' : World} {g h n : Nat} {vs : List SV} (b : Both w0 w g h vs n) (k : Below w.heap.size w w') : Both w0 w' g h vs n := by
  obtain ⟨k1, ⟨sl, k2⟩, ⟨sl', k3⟩, k4⟩ := b
  have kk : Keeps 0 [] w w' := Keeps.of_below k
  exact ⟨k1.trans (Keeps.of_below k), ⟨sl, k2.keeps kk (by simp) (by simp)⟩, ⟨sl', k3.keeps kk (by simp) (by simp)⟩, k4⟩
theorem Both.drewN {w0 w : World} {g h n : Nat} {vs : List SV} (b : Both w0 w g h vs n) (m : Nat) : Both w0 (w.drewN m) g h vs n := b.below ⟨rfl, rfl, rfl, Nat.le_refl _, fun _ _ => rfl⟩
theorem Both.drew {w0 w : World} {g h n : Nat} {vs : List SV} (b : Both w0 w g h vs n) : Both w0 w.drew g h vs n := b.below ⟨rfl, rfl, rfl, Nat.le_refl _, fun _ _ => rfl⟩
theorem Both.cell {w0 w : World} {g h n : Nat} {vs : List SV} (b : Both w0 w g h vs n) {p : Addr} (hp : p.block < w0.heap.size) : w.cell? p = w0.cell? p := (b.keep.below (Nat.le_refl _)).cell hp

theorem Both.enter {w0 w : World} {g h n : Nat} {vs : List SV} (b : Both w0 w g h vs n) (s t : ByteArray) (ht : t.size ≤ maxLen) :
    Calls Try.prog 8 #[.pointer (some ⟨g, 0, none⟩), .string s, .string t] w fun e w' => e = .returned (.bool (mayEnter vs s t)) ∧
      (Keeps w0.heap.size TT w0 w' ∧ (∃ sl, Src w' w0.heap.size g sl (afterEnter vs s t) n) ∧ (∃ sl, Ref w' w0.heap.size h sl (vs.map SV.toRV) n)) := by
  obtain ⟨k1, ⟨sl, k2⟩, ⟨sl', k3⟩, k4⟩ := b
  exact (enter_any k2 s t ht).mono fun e w' ⟨h1, h2, h3⟩ => ⟨h1, k1.trans (h2.mono (Nat.le_refl _) (by simp)), h3, sl', k3.keeps h2 (by simp) (by simp)⟩
theorem Both.renter {w0 w : World} {g h n : Nat} {vs : List SV} (s t : ByteArray) (ht : t.size ≤ maxLen) (hi : Inv vs)
    (b : Keeps w0.heap.size TT w0 w ∧ (∃ sl, Src w w0.heap.size g sl (afterEnter vs s t) n) ∧ (∃ sl, Ref w w0.heap.size h sl (vs.map SV.toRV) n)) :
    Calls Try.prog 13 #[.pointer (some ⟨h, 0, none⟩), .string s, .string t] w fun e w' => e = .returned (.bool (mayEnter vs s t)) ∧ Both w0 w' g h (afterEnter vs s t) n := by
  obtain ⟨k1, ⟨sl, k2⟩, ⟨sl', k3⟩⟩ := b
  exact (renter_any k3 s t ht).mono fun e w' ⟨h1, h2, h3⟩ => ⟨h1, k1.trans (h2.mono (Nat.le_refl _) (by simp)), ⟨sl, k2.keeps h2 (by simp) (by simp)⟩, h3, afterEnter_inv hi s t⟩
theorem Both.step {w0 w : World} {g h n : Nat} {vs : List SV} (b : Both w0 w g h vs n) (hn : n ≤ 1000000) :
    Calls Try.prog 10 #[.pointer (some ⟨g, 0, none⟩)] w fun e w' => e = .returned (.bool (stepRes vs)) ∧
      (Keeps w0.heap.size TT w0 w' ∧ (∃ sl, Src w' w0.heap.size g sl (stepTo vs) (countTo vs n)) ∧ (∃ sl, Ref w' w0.heap.size h sl (vs.map SV.toRV) n)) := by
  obtain ⟨k1, ⟨sl, k2⟩, ⟨sl', k3⟩, k4⟩ := b
  exact (step_all k2 k4 hn).mono fun e w' ⟨h1, h2, h3⟩ => ⟨h1, k1.trans (h2.mono (Nat.le_refl _) (by simp)), h3, sl', k3.keeps h2 (by simp) (by simp)⟩
theorem Both.rstep {w0 w : World} {g h n : Nat} {vs : List SV} (hi : Inv vs) (hn : n ≤ 1000000)
    (b : Keeps w0.heap.size TT w0 w ∧ (∃ sl, Src w w0.heap.size g sl (stepTo vs) (countTo vs n)) ∧ (∃ sl, Ref w w0.heap.size h sl (vs.map SV.toRV) n)) :
    Calls Try.prog 14 #[.pointer (some ⟨h, 0, none⟩)] w fun e w' => e = .returned (.bool (stepRes vs)) ∧ Both w0 w' g h (stepTo vs) (countTo vs n) := by
  obtain ⟨k1, ⟨sl, k2⟩, ⟨sl', k3⟩⟩ := b
  exact (rstep_all k3 hi hn).mono fun e w' ⟨h1, h2, h3⟩ => ⟨h1, k1.trans (h2.mono (Nat.le_refl _) (by simp)), ⟨sl, k2.keeps h2 (by simp) (by simp)⟩, h3, stepTo_inv hi⟩
theorem countTo_le (vs : List SV) (n : Nat) : countTo vs n ≤ n + 1 := by unfold countTo; split <;> omega
theorem Both.peek {w0 w : World} {g h n : Nat} {vs : List SV} (b : Both w0 w g h vs n) :
    Calls Try.prog 9 #[.pointer (some ⟨g, 0, none⟩)] w fun e w' => e = .returned (.tuple #[.int .u8 (peekOf vs).1.toNat, .bool (peekOf vs).2]) ∧ Both w0 w' g h vs n := by
  obtain ⟨sl, k2⟩ := b.src
  exact (peek_all k2 b.inv).mono fun e w' ⟨h1, m, h2⟩ => ⟨h1, h2 ▸ b.drewN m⟩
theorem Both.rpeek {w0 w : World} {g h n : Nat} {vs : List SV} (b : Both w0 w g h vs n) :
    Calls Try.prog 15 #[.pointer (some ⟨h, 0, none⟩)] w fun e w' => e = .returned (.tuple #[.int .u8 (peekOf vs).1.toNat, .bool (peekOf vs).2]) ∧ Both w0 w' g h vs n := by
  obtain ⟨sl, k2⟩ := b.ref
  exact (rpeek_all k2 b.inv).mono fun e w' ⟨h1, m, h2⟩ => ⟨h1, h2 ▸ b.drewN m⟩

theorem Both.names {w0 w : World} {g h n : Nat} {vs : List SV} (b : Both w0 w g h vs n) :
    Calls Try.prog 21 #[.pointer (some ⟨g, 0, none⟩)] w fun e w' => ∃ A c, e = .returned (.slice A vs.length c) ∧ w'.ownsRow w.heap.size 9 1 (.slice A vs.length c) vs.length (strs (vs.map SV.name)) ∧ Both w0 w' g h vs n := by
  obtain ⟨sl, k2⟩ := b.src
  exact (names_any k2 (by have := b.inv.len; omega)).mono fun e w' ⟨A, c, h1, h2, h3⟩ => ⟨A, c, h1, h2, b.below h3⟩
theorem Both.rnames {w0 w : World} {g h n m : Nat} {vs : List SV} (b : Both w0 w g h vs n) {B : Nat} {v : Value} {xs : List Value} (ho : w.ownsRow B 9 1 v m xs) :
    Calls Try.prog 22 #[.pointer (some ⟨h, 0, none⟩)] w fun e w' => ∃ A c, e = .returned (.slice A vs.length c) ∧ w'.ownsRow w.heap.size 9 1 (.slice A vs.length c) vs.length (strs (vs.map SV.name)) ∧ Both w0 w' g h vs n ∧ w'.ownsRow B 9 1 v m xs := by
  obtain ⟨sl, k2⟩ := b.ref
  refine (Go.Proofs.Ytmjgleopmnplbaa.rnames k2 (by rw [List.length_map]; have := b.inv.len; omega)).mono fun e w' ⟨A, c, h1, h2, h3⟩ => ⟨A, c, ?_, ?_, b.below h3, (Keeps.of_below h3 (B := w.heap.size) (T := [])).own ho (.inr (by simp))⟩
  · rw [List.length_map] at h1; exact h1
  · rw [names_same, List.length_map] at h2; exact h2
theorem same_names {w : World} {B B' : Nat} {A A' : Option Addr} {c c' : Nat} {vs : List SV} (h : w.ownsRow B 9 1 (.slice A vs.length c) vs.length (strs (vs.map SV.name))) (h' : w.ownsRow B' 9 1 (.slice A' vs.length c') vs.length (strs (vs.map SV.name))) (hl : vs.length ≤ 1000) :
    Calls Try.prog 20 #[.slice A vs.length c, .slice A' vs.length c'] w fun e w' => e = .returned (.bool true) ∧ ∃ m, w' = w.drewN m := by
  generalize hm : vs.map SV.name = l at *
  have e : vs.length = l.length := by rw [← hm, List.length_map]
  clear hm
  generalize vs.length = m at *
  subst e
  exact same_yes h h' hl

/-- One world in which both are known, their slices named. -/
structure Fix (w0 w : World) (g h : Nat) (sl : Value) (a : Option Addr) (c : Nat) (vs : List SV) (n : Nat) : Prop where
  keep : Keeps w0.heap.size TT w0 w
  src : Src w w0.heap.size g sl vs n
  ref : Ref w w0.heap.size h (.slice a vs.length c) (vs.map SV.toRV) n
theorem Fix.below {w0 w w' : World} {g h n c : Nat} {sl : Value} {a : Option Addr} {vs : List SV} (b : Fix w0 w g h sl a c vs n) (k : Below w.heap.size w w') : Fix w0 w' g h sl a c vs n :=
  ⟨b.keep.trans (Keeps.of_below k), b.src.keeps (Keeps.of_below k (B := 0) (T := [])) (by simp) (by simp), b.ref.keeps (Keeps.of_below k (B := 0) (T := [])) (by simp) (by simp)⟩
theorem Fix.drew {w0 w : World} {g h n c : Nat} {sl : Value} {a : Option Addr} {vs : List SV} (b : Fix w0 w g h sl a c vs n) : Fix w0 w.drew g h sl a c vs n := b.below ⟨rfl, rfl, rfl, Nat.le_refl _, fun _ _ => rfl⟩
theorem Both.fix {w0 w : World} {g h n : Nat} {vs : List SV} (b : Both w0 w g h vs n) : ∃ sl a c, Fix w0 w g h sl a c vs n := by
  obtain ⟨k1, ⟨sl, k2⟩, ⟨sl', k3⟩, k4⟩ := b
  obtain ⟨a, c, rfl⟩ := k3.slice
  rw [List.length_map] at k3
  exact ⟨sl, a, c, k1, k2, k3⟩

set_option maxRecDepth 100000 in
set_option maxHeartbeats 2000000 in
theorem does_walk (A : Option Addr) (len c : Nat) (w : World) (h : OpArg w A len) :
    Calls Try.prog 4 #[.slice A len c] w fun e w' => e = .returned (.bool true) ∧ Below w.heap.size w w' := by
  have hlen := h.most
  have HA := hide h
  clear h
  go_enter Try.func4, Try.ntmps4
  go_wp2_with fail
  refine (new_ok _).mono ?_
  rintro e w1 ⟨g, rfl, hS1, hb1⟩
  have HK1 : Hid (Keeps w.heap.size TT w w1) := Keeps.of_below hb1
  have HS1 := hide hS1
  clear hS1 hb1
  go_wp2_with fail
  have hB0 : Both w (w1.alloc (.cells #[.slice none 0 0, .int .i64 0] 35)) g w1.heap.size [] 0 :=
    ⟨HK1.out.alloc _, ⟨_, HS1.out.keeps ((Keeps.refl 0 [] w1).alloc _) (by simp) (by simp)⟩, ⟨_, Blk.new _ _ _, HK1.out.size, World.ownsRow_nil _ _ _ _⟩, ⟨by simp, by simp⟩⟩
  have HB0 := hide hB0
  clear hB0 HK1 HS1
  generalize (w1.alloc (.cells #[.slice none 0 0, .int .i64 0] 35)) = w2 at *
  generalize w1.heap.size = h at *
  go_loopw [5] (fun i wr => ∃ k : Nat, k ≤ len ∧ k ≤ 120 ∧ i = .int .i64 k ∧ ∃ vs n, n ≤ k ∧ Both w wr g h vs n) (fun i _ => len - (intOf i).toNat)
  case atStart => exact ⟨0, Nat.zero_le _, by omega, rfl, [], 0, Nat.le_refl _, HB0.out⟩
  case round =>
    obtain ⟨k, hk, hk2, rfl, vs, n, hn, hB⟩ := hrel
    have HB := hide hB
    clear hB HB0
    by_cases hlt : k < len
    · by_cases h120 : k < 120
      · obtain ⟨b, off, K, nm, tx, rfl, hb, c0, c1, c2⟩ := HA.out.each k hlt
        have e0 := (HB.out.cell (p := ⟨b, off + k * 3, none⟩) hb).trans c0
        have e1 := (HB.out.cell (p := ⟨b, off + k * 3 + 1, none⟩) hb).trans c1
        have e2 := (HB.out.cell (p := ⟨b, off + k * 3 + 2, none⟩) hb).trans c2
        have hltI : (k : Int) < (len : Int) := by omega
        have h120I : (k : Int) < 120 := by omega
        by_cases hs1 : 1000 < nm.size
        · go_wp2_with (go_at_call 6; refine (awake_any _).mono ?_; rintro e w' ⟨rfl, hb⟩; have HX := hide hb; clear hb)
          all_goals go_ret
          all_goals exact ⟨rfl, ((HB.out.below HX.out).keep.below (Nat.le_refl _))⟩
        · by_cases hs2 : 1000 < tx.size
          · go_wp2_with (go_at_call 6; refine (awake_any _).mono ?_; rintro e w' ⟨rfl, hb⟩; have HX := hide hb; clear hb)
            all_goals go_ret
            all_goals exact ⟨rfl, ((HB.out.below HX.out).keep.below (Nat.le_refl _))⟩
          · by_cases hK : K = 0
            · have hKb : (K == 0) = true := by simp [hK]
              clear hK
              have htx : Hid (tx.size ≤ maxLen) := by unfold Hid maxLen; omega
              have HBd := hide HB.out.drew
              go_wp2_with fail
              go_region_held3 (fun w' => w'.cell? ⟨b, off + k * 3 + 1, none⟩ = some (.string nm) ∧ w'.cell? ⟨b, off + k * 3 + 2, none⟩ = some (.string tx)) (first | exact ⟨e1, e2⟩ | exact ⟨d1, d2⟩ | exact ⟨d3, d4⟩) (first
                | (go_at_call 8
                   refine (Both.enter HBd.out nm tx htx.out).mono ?_
                   rintro e w3 ⟨rfl, hx3⟩
                   have d1 := ((hx3.1.below (Nat.le_refl _)).cell (p := ⟨b, off + k * 3 + 1, none⟩) hb).trans c1
                   have d2 := ((hx3.1.below (Nat.le_refl _)).cell (p := ⟨b, off + k * 3 + 2, none⟩) hb).trans c2
                   have HX3 := hide hx3
                   clear hx3)
                | (go_at_call 13
                   refine (Both.renter nm tx htx.out HB.out.inv HX3.out).mono ?_
                   rintro e w4 ⟨rfl, hB4⟩
                   have d3 := (hB4.cell (p := ⟨b, off + k * 3 + 1, none⟩) hb).trans c1
                   have d4 := (hB4.cell (p := ⟨b, off + k * 3 + 2, none⟩) hb).trans c2
                   have HB4 := hide hB4
                   clear hB4))
              have hn4 : n ≤ k + 1 := by omega
              clear HX3 HB HBd
              generalize afterEnter vs nm tx = vs4 at *
              generalize mayEnter vs nm tx = r4 at *
              obtain ⟨n4, hn45⟩ : ∃ n4, n4 = n := ⟨_, rfl⟩
              rw [← hn45] at HB4 hn4
              clear hn45
              clear e0 e1 e2 d1 d2 d3 d4
              go_wp2_with fail
              refine (HB4.out.peek).mono ?_
              rintro e w5 ⟨rfl, hB5⟩
              have HB5 := hide hB5
              clear hB5
              go_wp2_with fail
              refine (HB5.out.rpeek).mono ?_
              rintro e w6 ⟨rfl, hB6⟩
              have HB6 := hide hB6
              clear hB6 HB5 HB4
              generalize peekOf vs4 = pk at *
              obtain ⟨p1, p2⟩ := pk
              dsimp only
              obtain ⟨sl, a, cc, hF⟩ := HB6.out.fix
              obtain ⟨I, hI1, hI2⟩ : ∃ I : World → Prop, (∀ w', I w' → Fix w w' g h sl a cc vs4 n4) ∧ (∀ w', Fix w w' g h sl a cc vs4 n4 → I w') := ⟨_, fun _ h => h, fun _ h => h⟩
              have hI : I w6.drew := hI2 _ hF.drew
              have hne : Nonempty (Wd I) := ⟨⟨_, hI⟩⟩
              have XI := hide (fun x : Wd I => hI1 _ x.ok)
              have XJ := hide hI2
              have HV := hide HB6.out.inv
              clear hI1 hI2 hF
              have g0 : ∀ y : Wd I, y.w.cell? ⟨h, 0, none⟩ = some (.slice a vs4.length cc) := fun y => (XI.out y).ref.blk.cell 0
              have g1 : ∀ y : Wd I, y.w.cell? ⟨h, 1, none⟩ = some (.int .i64 n4) := fun y => (XI.out y).ref.blk.cell 1
              have g2 : ∀ y : Wd I, y.w.cell? ⟨b, off + k * 3 + 1, none⟩ = some (.string nm) := fun y => (((XI.out y).keep.below (Nat.le_refl _)).cell (p := ⟨b, off + k * 3 + 1, none⟩) hb).trans c1
              have C16 := hide (fun y : Wd I => wd_call (I := I) ((deep_any (XI.out y).src).mono fun e w' hh => ⟨hh.1, hh.2 ▸ y.ok⟩))
              have C12 := hide (fun y : Wd I => wd_call (I := I) ((count_any (XI.out y).src).mono fun e w' hh => ⟨hh.1, hh.2 ▸ y.ok⟩))
              have C11 := hide (fun y : Wd I => wd_call (I := I) ((left_any (XI.out y).src (fun v hv => by have := HV.out.each v hv; omega) (by have := HV.out.len; omega)).mono fun e w' hh => ⟨hh.1, by obtain ⟨m, rfl⟩ := hh.2; exact XJ.out _ ((XI.out y).below ⟨rfl, rfl, rfl, Nat.le_refl _, fun _ _ => rfl⟩)⟩))
              have C17 := hide (fun y : Wd I => wd_call (I := I) (v := .int .i64 (leftOf vs4 : Nat)) ((rleft (XI.out y).ref (fun v hv => by obtain ⟨u, hu, rfl⟩ := List.mem_map.1 hv; have := HV.out.each u hu; rw [show u.toRV.left.size = _ from extract_size' _ _]; omega) (by rw [List.length_map]; have := HV.out.len; omega)).mono fun e w' hh => ⟨by rw [← left_same]; exact hh.1, hh.2 ▸ y.ok⟩))
              have C18 := hide (fun y : Wd I => wd_call (I := I) ((active_any (XI.out y).src nm).mono fun e w' hh => ⟨hh.1, XJ.out _ ((XI.out y).below hh.2)⟩))
              have C19 := hide (fun y : Wd I => wd_call (I := I) (v := .bool (vs4.any (named nm))) ((ractive (XI.out y).ref nm).mono fun e w' hh => ⟨by rw [← active_same]; exact hh.1, hh.2 ▸ y.ok⟩))
              go_wp2_with fail
              refine wp_region_wd I (by kernel_rfl) (by kernel_rfl) hI ?_
              repeat (go_big_quiet_step ((first | (go_at_call 16; exact C16.out _) | (go_at_call 12; exact C12.out _) | (go_at_call 11; exact C11.out _) | (go_at_call 17; exact C17.out _) | (go_at_call 18; exact C18.out _) | (go_at_call 19; exact C19.out _))))
              refine wpQuiet_nil ?_
              intro _ hw'
              obtain ⟨x, rfl⟩ := hw'
              have HXI := hide (XI.out x)
              clear g0 g1 g2
              go_wp2
              go_roundw
              case rel => exact ⟨k + 1, by omega, by omega, by go_num, vs4, n4, by omega, HXI.out.keep, ⟨_, HXI.out.src⟩, ⟨_, HXI.out.ref⟩, HV.out⟩
              case measure => simp [intOf]; omega
            · have hKb : (K == 0) = false := by simp [hK]
              clear hK
              go_wp2_with fail
              refine (HB.out.step (by omega)).mono ?_
              rintro e w3 ⟨rfl, hx3⟩
              have HX3 := hide hx3
              clear hx3
              go_wp2_with fail
              refine (Both.rstep HB.out.inv (by omega) HX3.out).mono ?_
              rintro e w4 ⟨rfl, hB4⟩
              have hn4 : countTo vs n ≤ k + 1 := by have := countTo_le vs n; omega
              have HB4 := hide hB4
              clear hB4 HX3 HB
              generalize stepTo vs = vs4 at *
              generalize countTo vs n = n4 at *
              generalize stepRes vs = r4 at *
              clear e0 e1 e2
              go_wp2_with fail
              refine (HB4.out.peek).mono ?_
              rintro e w5 ⟨rfl, hB5⟩
              have HB5 := hide hB5
              clear hB5
              go_wp2_with fail
              refine (HB5.out.rpeek).mono ?_
              rintro e w6 ⟨rfl, hB6⟩
              have HB6 := hide hB6
              clear hB6 HB5 HB4
              generalize peekOf vs4 = pk at *
              obtain ⟨p1, p2⟩ := pk
              dsimp only
              obtain ⟨sl, a, cc, hF⟩ := HB6.out.fix
              obtain ⟨I, hI1, hI2⟩ : ∃ I : World → Prop, (∀ w', I w' → Fix w w' g h sl a cc vs4 n4) ∧ (∀ w', Fix w w' g h sl a cc vs4 n4 → I w') := ⟨_, fun _ h => h, fun _ h => h⟩
              have hI : I w6.drew := hI2 _ hF.drew
              have hne : Nonempty (Wd I) := ⟨⟨_, hI⟩⟩
              have XI := hide (fun x : Wd I => hI1 _ x.ok)
              have XJ := hide hI2
              have HV := hide HB6.out.inv
              clear hI1 hI2 hF
              have g0 : ∀ y : Wd I, y.w.cell? ⟨h, 0, none⟩ = some (.slice a vs4.length cc) := fun y => (XI.out y).ref.blk.cell 0
              have g1 : ∀ y : Wd I, y.w.cell? ⟨h, 1, none⟩ = some (.int .i64 n4) := fun y => (XI.out y).ref.blk.cell 1
              have g2 : ∀ y : Wd I, y.w.cell? ⟨b, off + k * 3 + 1, none⟩ = some (.string nm) := fun y => (((XI.out y).keep.below (Nat.le_refl _)).cell (p := ⟨b, off + k * 3 + 1, none⟩) hb).trans c1
              have C16 := hide (fun y : Wd I => wd_call (I := I) ((deep_any (XI.out y).src).mono fun e w' hh => ⟨hh.1, hh.2 ▸ y.ok⟩))
              have C12 := hide (fun y : Wd I => wd_call (I := I) ((count_any (XI.out y).src).mono fun e w' hh => ⟨hh.1, hh.2 ▸ y.ok⟩))
              have C11 := hide (fun y : Wd I => wd_call (I := I) ((left_any (XI.out y).src (fun v hv => by have := HV.out.each v hv; omega) (by have := HV.out.len; omega)).mono fun e w' hh => ⟨hh.1, by obtain ⟨m, rfl⟩ := hh.2; exact XJ.out _ ((XI.out y).below ⟨rfl, rfl, rfl, Nat.le_refl _, fun _ _ => rfl⟩)⟩))
              have C17 := hide (fun y : Wd I => wd_call (I := I) (v := .int .i64 (leftOf vs4 : Nat)) ((rleft (XI.out y).ref (fun v hv => by obtain ⟨u, hu, rfl⟩ := List.mem_map.1 hv; have := HV.out.each u hu; rw [show u.toRV.left.size = _ from extract_size' _ _]; omega) (by rw [List.length_map]; have := HV.out.len; omega)).mono fun e w' hh => ⟨by rw [← left_same]; exact hh.1, hh.2 ▸ y.ok⟩))
              have C18 := hide (fun y : Wd I => wd_call (I := I) ((active_any (XI.out y).src nm).mono fun e w' hh => ⟨hh.1, XJ.out _ ((XI.out y).below hh.2)⟩))
              have C19 := hide (fun y : Wd I => wd_call (I := I) (v := .bool (vs4.any (named nm))) ((ractive (XI.out y).ref nm).mono fun e w' hh => ⟨by rw [← active_same]; exact hh.1, hh.2 ▸ y.ok⟩))
              go_wp2_with fail
              refine wp_region_wd I (by kernel_rfl) (by kernel_rfl) hI ?_
              repeat (go_big_quiet_step ((first | (go_at_call 16; exact C16.out _) | (go_at_call 12; exact C12.out _) | (go_at_call 11; exact C11.out _) | (go_at_call 17; exact C17.out _) | (go_at_call 18; exact C18.out _) | (go_at_call 19; exact C19.out _))))
              refine wpQuiet_nil ?_
              intro _ hw'
              obtain ⟨x, rfl⟩ := hw'
              have HXI := hide (XI.out x)
              clear g0 g1 g2
              go_wp2
              go_roundw
              case rel => exact ⟨k + 1, by omega, by omega, by go_num, vs4, n4, by omega, HXI.out.keep, ⟨_, HXI.out.src⟩, ⟨_, HXI.out.ref⟩, HV.out⟩
              case measure => simp [intOf]; omega
      · have hltI : (k : Int) < (len : Int) := by omega
        have h120I : ¬ (k : Int) < 120 := by omega
        go_wp2_with fail
        refine (HB.out.names).mono ?_
        rintro e w3 ⟨A3, c3, rfl, ho3, hB3⟩
        have HO3 := hide ho3
        have HB3 := hide hB3
        clear ho3 hB3 HB
        go_wp2_with fail
        refine (HB3.out.rnames HO3.out).mono ?_
        rintro e w4 ⟨A4, c4, rfl, ho4, hB4, ho3⟩
        have HO4 := hide ho4
        have HP3 := hide ho3
        have HB4 := hide hB4
        clear ho3 hB4 ho4 HB3 HO3
        go_wp2_with fail
        refine (same_names HP3.out HO4.out (by have := HB4.out.inv.len; omega)).mono ?_
        rintro e w5 ⟨rfl, m, rfl⟩
        have HB5 := hide (HB4.out.drewN m)
        clear HB4 HP3 HO4
        generalize w4.drewN m = w5 at *
        go_wp2_with fail
        refine (awake_any _).mono ?_
        rintro e w6 ⟨rfl, hb6⟩
        have HB6 := hide (HB5.out.below hb6)
        clear hb6 HB5
        go_wp2
        go_ret
        exact ⟨rfl, HB6.out.keep.below (Nat.le_refl _)⟩
    · have hltI : ¬ (k : Int) < (len : Int) := by omega
      go_wp2_with fail
      refine (HB.out.names).mono ?_
      rintro e w3 ⟨A3, c3, rfl, ho3, hB3⟩
      have HO3 := hide ho3
      have HB3 := hide hB3
      clear ho3 hB3 HB
      go_wp2_with fail
      refine (HB3.out.rnames HO3.out).mono ?_
      rintro e w4 ⟨A4, c4, rfl, ho4, hB4, ho3⟩
      have HO4 := hide ho4
      have HP3 := hide ho3
      have HB4 := hide hB4
      clear ho3 hB4 ho4 HB3 HO3
      go_wp2_with fail
      refine (same_names HP3.out HO4.out (by have := HB4.out.inv.len; omega)).mono ?_
      rintro e w5 ⟨rfl, m, rfl⟩
      have HB5 := hide (HB4.out.drewN m)
      clear HB4 HP3 HO4
      generalize w4.drewN m = w5 at *
      go_wp2_with fail
      refine (awake_any _).mono ?_
      rintro e w6 ⟨rfl, hb6⟩
      have HB6 := hide (HB5.out.below hb6)
      clear hb6 HB5
      go_wp2
      go_ret
      exact ⟨rfl, HB6.out.keep.below (Nat.le_refl _)⟩
end Go.Proofs.Ytmjgleopmnplbaa
