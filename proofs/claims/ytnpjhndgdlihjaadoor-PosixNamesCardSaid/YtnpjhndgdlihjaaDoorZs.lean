/- A grammar of the program's, and one of names: plainly. Whether two grammars are the same, where they are: the document's. The grammar that has been read, as the program's; it is shown, and read again. -/
import Derived.Test.YtnpjhndgdlihjaaDoorZc
import Derived.Test.YtnpjhndgdlihjaaDoorZb
import Derived.Test.YtnpjhndgdlihjaaDoorZl
import Derived.Deep.RegionLaw
import Derived.BigRegion
import Derived.Test.YtnpjhndgdlihjaaDoorZk
namespace Go.Proofs.YtnpjhndgdlihjaaDoor
open Go.RowKit
set_option linter.unusedVariables false
def PG.of (g : Gm) : PG := ⟨g.T.map (·.data.toList), g.N.map (·.data.toList), g.s.toNat, g.R.map fun r => (r.left.toNat, r.right.map Int.toNat)⟩
def okNm (s : ByteArray) : Bool := okName s.data.toList
theorem check_all {g : Gm} (h : g.check = 0) : g.few = true ∧ g.form = true ∧ g.once = true ∧ g.known = true ∧ g.unlike = true ∧ g.each = true := by
  unfold Gm.check at h
  by_cases h1 : g.few = true
  · by_cases h2 : g.form = true
    · by_cases h3 : g.once = true
      · by_cases h4 : g.known = true
        · by_cases h5 : g.unlike = true
          · by_cases h6 : g.each = true
            · exact ⟨h1, h2, h3, h4, h5, h6⟩
            · rw [if_pos h1, if_pos h2, if_pos h3, if_pos h4, if_pos h5, if_neg h6] at h; omega
          · rw [if_pos h1, if_pos h2, if_pos h3, if_pos h4, if_neg h5] at h; omega
        · rw [if_pos h1, if_pos h2, if_pos h3, if_neg h4] at h; omega
      · rw [if_pos h1, if_pos h2, if_neg h3] at h; omega
    · rw [if_pos h1, if_neg h2] at h; omega
  · rw [if_neg h1] at h; omega
theorem check_of {g : Gm} (h1 : g.few = true) (h2 : g.form = true) (h3 : g.once = true) (h4 : g.known = true) (h5 : g.unlike = true) (h6 : g.each = true) : g.check = 0 := by
  unfold Gm.check
  rw [if_pos h1, if_pos h2, if_pos h3, if_pos h4, if_pos h5, if_pos h6]
theorem data_inj {a b : ByteArray} (h : a.data.toList = b.data.toList) : a = b := ByteArray.ext (Array.ext' h)
theorem findIdx_map {α β : Type} (f : α → β) (p : β → Bool) : ∀ l : List α, (l.map f).findIdx p = l.findIdx (fun x => p (f x))
  | [] => rfl
  | a :: l => by rw [List.map_cons, List.findIdx_cons, List.findIdx_cons, findIdx_map f p l]
theorem known_left {g : Gm} (h : g.known = true) {r : Ru} (hr : r ∈ g.R) : ((g.T.length : Int) < r.left ∧ r.left ≤ (g.T.length : Int) + (g.N.length : Int)) ∧ ∀ s ∈ r.right, 1 ≤ s ∧ s ≤ (g.T.length : Int) + (g.N.length : Int) := by
  unfold Gm.known at h
  rw [Bool.and_eq_true] at h
  have h2 := List.all_eq_true.1 h.2 r hr
  unfold Gm.knownR at h2
  rw [Bool.and_eq_true] at h2
  obtain ⟨h3, h4⟩ := h2
  unfold Gm.non at h3
  rw [Bool.and_eq_true, decide_eq_true_eq, decide_eq_true_eq] at h3
  refine ⟨h3, fun s hs => ?_⟩
  have h5 := List.all_eq_true.1 h4 s hs
  unfold Gm.sym Gm.term Gm.non at h5
  simp only [Bool.or_eq_true, Bool.and_eq_true, decide_eq_true_eq] at h5
  omega
theorem known_start {g : Gm} (h : g.known = true) : (g.T.length : Int) < g.s ∧ g.s ≤ (g.T.length : Int) + (g.N.length : Int) := by
  unfold Gm.known at h
  rw [Bool.and_eq_true] at h
  have h3 := h.1
  unfold Gm.non at h3
  rw [Bool.and_eq_true, decide_eq_true_eq, decide_eq_true_eq] at h3
  exact h3
theorem first_of {g : Gm} (h : g.known = true) (i : Nat) : (PG.of g).R.findIdx (fun r => r.1 == (PG.of g).T.length + 1 + i) = g.first i := by
  unfold PG.of Gm.first
  simp only [List.length_map]
  rw [findIdx_map]
  refine findIdx_same fun r hr => ?_
  have := (known_left h hr).1.1
  unfold Gm.left
  rw [Bool.eq_iff_iff, beq_iff_eq, beq_iff_eq]
  omega
open Classical in
/-- A grammar that may be, in order, is one of names. -/
theorem PG.good_of {g : Gm} (hc : g.check = 0) (ho : g.ordered = true) : (PG.of g).Good := by
  obtain ⟨h1, h2, h3, h4, h5, h6⟩ := check_all hc
  unfold Gm.few at h1
  simp only [Bool.and_eq_true, decide_eq_true_eq] at h1
  obtain ⟨⟨a1, a2⟩, a3, a4⟩ := h1
  unfold Gm.form at h2
  rw [Bool.and_eq_true] at h2
  have hleft : ∀ r ∈ g.R, 0 ≤ r.left := fun r hr => by have := (known_left h4 hr).1; omega
  have hs := known_start h4
  have hex : ∀ i, i < g.N.length → ∃ r ∈ g.R, r.left = (g.T.length : Int) + 1 + i := by
    intro i hi
    have := List.all_eq_true.1 h6 i (List.mem_range.2 hi)
    obtain ⟨r, hr, he⟩ := List.any_eq_true.1 this
    exact ⟨r, hr, by unfold Gm.left at he; exact beq_iff_eq.1 he⟩
  have hfl : ∀ i, i < g.N.length → g.first i < g.R.length ∧ ∀ r, g.R[g.first i]? = some r → r.left = (g.T.length : Int) + 1 + i := by
    intro i hi
    obtain ⟨r, hr, he⟩ := hex i hi
    have hlt : g.first i < g.R.length := List.findIdx_lt_length_of_exists ⟨r, hr, by unfold Gm.left; simp [he]⟩
    refine ⟨hlt, fun r' hr' => ?_⟩
    obtain ⟨hj, e⟩ := List.getElem?_eq_some_iff.1 hr'
    have := List.findIdx_getElem (p := Gm.left ((g.T.length : Int) + 1 + i)) (w := hlt)
    have e2 : g.R[g.first i] = r' := e
    unfold Gm.first at e2
    rw [e2] at this
    unfold Gm.left at this
    exact beq_iff_eq.1 this
  refine ⟨by simpa [PG.of] using a1, by simpa [PG.of] using a2, by simpa [PG.of] using a3, ?_, ?_, ?_, ?_, ?_, ?_, ?_, ?_, ?_⟩
  · intro r hr
    obtain ⟨q, hq, rfl⟩ := List.mem_map.1 hr
    have := List.all_eq_true.1 a4 q hq
    unfold shortR at this
    simpa using this
  · intro s hs'
    obtain ⟨t, ht, rfl⟩ := List.mem_map.1 hs'
    exact List.all_eq_true.1 h2.1 t ht
  · intro s hs'
    obtain ⟨t, ht, rfl⟩ := List.mem_map.1 hs'
    exact List.all_eq_true.1 h2.2 t ht
  · unfold Gm.once at h3
    rw [decide_eq_true_eq] at h3
    show (g.T.map (·.data.toList) ++ g.N.map (·.data.toList)).Nodup
    rw [← List.map_append]
    refine List.pairwise_map.2 (List.Pairwise.imp ?_ h3)
    intro a b hne e
    exact hne (data_inj e)
  · show (g.T.map _).length < g.s.toNat ∧ g.s.toNat ≤ (g.T.map _).length + (g.N.map _).length
    simp only [List.length_map]
    omega
  · intro r hr
    obtain ⟨q, hq, rfl⟩ := List.mem_map.1 hr
    obtain ⟨⟨k1, k2⟩, k3⟩ := known_left h4 hq
    show ((g.T.map _).length < q.left.toNat ∧ q.left.toNat ≤ (g.T.map _).length + (g.N.map _).length) ∧ ∀ a ∈ q.right.map Int.toNat, 1 ≤ a ∧ a ≤ (g.T.map _).length + (g.N.map _).length
    simp only [List.length_map]
    refine ⟨by omega, fun a ha => ?_⟩
    obtain ⟨b, hb, rfl⟩ := List.mem_map.1 ha
    have := k3 b hb
    omega
  · unfold Gm.unlike at h5
    have hu : Un g.R := of_decide_eq_true h5
    show (g.R.map _).Nodup
    refine List.pairwise_iff_getElem.2 ?_
    intro i j hi hj hij e
    simp only [List.length_map] at hi hj
    rw [List.getElem_map, List.getElem_map] at e
    obtain ⟨e1, e2⟩ := Prod.mk.inj e
    have hx := List.getElem?_eq_getElem hi
    have hy := List.getElem?_eq_getElem hj
    have hun := hu j i _ _ hij hx hy
    have m1 := List.getElem_mem hi
    have m2 := List.getElem_mem hj
    have l1 := hleft _ m1
    have l2 := hleft _ m2
    have hback : ∀ l : List Int, (∀ s ∈ l, 1 ≤ s ∧ s ≤ (g.T.length : Int) + (g.N.length : Int)) → (l.map Int.toNat).map (fun n : Nat => (n : Int)) = l := by
      intro l hl
      rw [List.map_map]
      refine (List.map_congr_left (fun a ha => ?_)).trans (List.map_id l)
      have := (hl a ha).1
      show ((a.toNat : Nat) : Int) = a
      omega
    have e3 : (g.R[i]).right = (g.R[j]).right := by rw [← hback _ (known_left h4 m1).2, e2, hback _ (known_left h4 m2).2]
    have e4 : (g.R[i]).left = (g.R[j]).left := by omega
    unfold sameR at hun
    rw [e3, e4] at hun
    simp at hun
  · intro i hi
    have hi' : i < g.N.length := by simpa [PG.of] using hi
    obtain ⟨r, hr, he⟩ := hex i hi'
    refine ⟨_, List.mem_map_of_mem hr, ?_⟩
    show r.left.toNat = (g.T.map _).length + 1 + i
    simp only [List.length_map]
    omega
  · intro i j hij hj
    have hj' : j < g.N.length := by simpa [PG.of] using hj
    rw [first_of h4, first_of h4]
    unfold Gm.ordered at ho
    have ha : Asc g.firsts := of_decide_eq_true ho
    have hget : ∀ k, k < g.N.length → g.firsts[k]? = some ((g.first k : Nat) : Int) := by
      intro k hk
      unfold Gm.firsts
      rw [List.getElem?_map, List.getElem?_range hk]
      rfl
    have hstep : ∀ k, k + 1 < g.N.length → g.first k < g.first (k + 1) := by
      intro k hk
      have h7 := ha k _ _ (hget k (by omega)) (hget (k + 1) hk)
      have hne : g.first k ≠ g.first (k + 1) := by
        intro e
        have f1 := hfl k (by omega)
        have f2 := hfl (k + 1) hk
        have g1 := f1.2 _ (List.getElem?_eq_getElem f1.1)
        have g2 := f2.2 g.R[g.first k] (by rw [← e]; exact List.getElem?_eq_getElem f1.1)
        omega
      omega
    have hall : ∀ n, i + 1 + n < g.N.length → g.first i < g.first (i + 1 + n) := by
      intro n
      induction n with
      | zero => intro h; exact hstep i h
      | succ n ih =>
        intro h
        have := ih (by omega)
        have := hstep (i + 1 + n) (by omega)
        show g.first i < g.first (i + 1 + n + 1)
        omega
    have := hall (j - i - 1) (by omega)
    rwa [show i + 1 + (j - i - 1) = j by omega] at this
/-! The text. -/
theorem nm_of {g : Gm} {s : Int} (h1 : 1 ≤ s) (h2 : s ≤ (g.T.length : Int) + (g.N.length : Int)) : (g.name s).data.toList = (PG.of g).nm s.toNat := by
  unfold Gm.name PG.nm PG.of
  rw [if_neg (by omega), if_neg (by omega)]
  simp only
  rw [← List.map_append, List.getD_eq_getElem?_getD, List.getD_eq_getElem?_getD, List.getElem?_map]
  have : (s - 1).toNat = s.toNat - 1 := by omega
  rw [this]
  cases (g.T ++ g.N)[s.toNat - 1]? with
  | none => rfl
  | some a => rfl
theorem right_of {g : Gm} {l : List Int} (h : ∀ s ∈ l, 1 ≤ s ∧ s ≤ (g.T.length : Int) + (g.N.length : Int)) : g.rightL l = bl ((l.map Int.toNat).map (PG.of g).nm) := by
  unfold Gm.rightL bl
  rw [List.map_map, List.flatMap_map]
  induction l with
  | nil => rfl
  | cons a l ih =>
    rw [List.flatMap_cons, List.flatMap_cons, ih (fun s hs => h s (by simp [hs])), nm_of (h a (by simp)).1 (h a (by simp)).2]
    rfl
theorem rules_of {g : Gm} : ∀ (l : List Ru) (k : Int), 0 ≤ k → (∀ r ∈ l, ((g.T.length : Int) < r.left ∧ r.left ≤ (g.T.length : Int) + (g.N.length : Int)) ∧ ∀ s ∈ r.right, 1 ≤ s ∧ s ≤ (g.T.length : Int) + (g.N.length : Int)) →
    g.rulesL k l = (PG.of g).rest k.toNat (l.map fun r => (r.left.toNat, r.right.map Int.toNat))
  | [], k, _, _ => rfl
  | r :: l, k, hk, h => by
    obtain ⟨⟨h1, h2⟩, h3⟩ := h r (by simp)
    have ih := rules_of l r.left (by omega) (fun x hx => h x (by simp [hx]))
    rw [List.map_cons]
    unfold Gm.rulesL PG.rest
    rw [ih, right_of h3]
    simp only
    by_cases e : r.left = k
    · rw [if_pos e, if_pos (show r.left.toNat = k.toNat by omega)]
    · rw [if_neg e, if_neg (show ¬ r.left.toNat = k.toNat by omega)]
      unfold Gm.ruleL
      rw [right_of h3, nm_of (by omega) h2]
      by_cases e0 : k = 0
      · rw [if_pos e0, if_pos (show k.toNat = 0 by omega)]
      · rw [if_neg e0, if_neg (show ¬ k.toNat = 0 by omega)]
theorem show_of {g : Gm} (hc : g.check = 0) (ho : g.ordered = true) : g.showL = (PG.of g).text := by
  obtain ⟨h1, h2, h3, h4, h5, h6⟩ := check_all hc
  have hs := known_start h4
  unfold Gm.showL PG.text
  rw [if_pos ⟨hc, ho⟩]
  have hst : g.startL = (PG.of g).start := by
    unfold Gm.startL PG.start
    rw [nm_of (by omega) hs.2]
    rfl
  have hhd : g.headsL = (PG.of g).heads := by
    unfold Gm.headsL PG.heads
    rw [hst]
    by_cases e : g.T = []
    · rw [if_pos e, if_pos (by unfold PG.of; simp [e])]
    · rw [if_neg e, if_neg (by unfold PG.of; simpa using e)]
      have : Gm.blanksL g.T = bl (PG.of g).T := by
        unfold Gm.blanksL bl PG.of
        simp only
        rw [List.flatMap_map]
      rw [this]
  rw [hhd, rules_of g.R 0 (by omega) (fun r hr => known_left h4 hr)]
  rfl
/-! The grammar that has been read. -/
/-- A rule's right side's place in memory does not matter. -/
def Gm.ofP (g : PG) (l : List Ru) : Gm := ⟨g.T.map str, g.N.map str, g.s, l⟩
def Like (g : PG) (l : List Ru) : Prop := (l.map fun r => (r.left.toNat, r.right.map Int.toNat)) = g.R ∧ ∀ r ∈ l, 0 ≤ r.left ∧ ∀ s ∈ r.right, 0 ≤ s
theorem PG.of_ofP {g : PG} {l : List Ru} (h : Like g l) : PG.of (Gm.ofP g l) = g := by
  have e : ∀ L : List Nme, (L.map str).map (·.data.toList) = L := by
    intro L
    rw [List.map_map]
    exact (List.map_congr_left (fun a _ => data_str a)).trans (List.map_id L)
  unfold PG.of Gm.ofP
  simp only [e, h.1]
  rfl
theorem str_injective {a b : Nme} (h : str a = str b) : a = b := by rw [← data_str a, h, data_str]
open Classical in
theorem check_ofP {g : PG} {l : List Ru} (hg : g.Good) (h : Like g l) : (Gm.ofP g l).check = 0 ∧ (Gm.ofP g l).ordered = true := by
  obtain ⟨hl, hpos⟩ := h
  have hT : (Gm.ofP g l).T.length = g.T.length := List.length_map ..
  have hN : (Gm.ofP g l).N.length = g.N.length := List.length_map ..
  have hlen : l.length = g.R.length := by rw [← hl, List.length_map]
  have hmem : ∀ r ∈ l, (r.left.toNat, r.right.map Int.toNat) ∈ g.R := fun r hr => by rw [← hl]; exact List.mem_map_of_mem (f := fun r : Ru => (r.left.toNat, r.right.map Int.toNat)) hr
  have hkn : ∀ r ∈ l, ((g.T.length : Int) < r.left ∧ r.left ≤ (g.T.length : Int) + (g.N.length : Int)) ∧ ∀ s ∈ r.right, 1 ≤ s ∧ s ≤ (g.T.length : Int) + (g.N.length : Int) := by
    intro r hr
    obtain ⟨⟨k1, k2⟩, k3⟩ := hg.g9 _ (hmem r hr)
    have hp := hpos r hr
    simp only at k1 k2 k3
    refine ⟨by omega, fun s hs => ?_⟩
    have := k3 s.toNat (List.mem_map_of_mem hs)
    have := hp.2 s hs
    omega
  have hknown : (Gm.ofP g l).known = true := by
    unfold Gm.known
    rw [Bool.and_eq_true]
    refine ⟨?_, List.all_eq_true.2 fun r hr => ?_⟩
    · have := hg.g8
      unfold Gm.non
      rw [hT, hN, Bool.and_eq_true, decide_eq_true_eq, decide_eq_true_eq]
      show (g.T.length : Int) < (g.s : Int) ∧ (g.s : Int) ≤ _
      omega
    · obtain ⟨k1, k2⟩ := hkn r hr
      unfold Gm.knownR
      rw [Bool.and_eq_true]
      refine ⟨?_, List.all_eq_true.2 fun s hs => ?_⟩
      · unfold Gm.non
        rw [hT, hN, Bool.and_eq_true, decide_eq_true_eq, decide_eq_true_eq]
        exact k1
      · unfold Gm.sym Gm.term Gm.non
        rw [hT, hN]
        simp only [Bool.or_eq_true, Bool.and_eq_true, decide_eq_true_eq]
        have := k2 s hs
        omega
  have hfirst : ∀ i, (Gm.ofP g l).first i = g.R.findIdx (fun r => r.1 == g.T.length + 1 + i) := by
    intro i
    have := first_of hknown i
    rw [← this, PG.of_ofP ⟨hl, hpos⟩]
  refine ⟨check_of ?_ ?_ ?_ hknown ?_ ?_, ?_⟩
  · unfold Gm.few
    simp only [Bool.and_eq_true, decide_eq_true_eq]
    refine ⟨⟨by rw [hT]; exact hg.g1, by rw [hN]; exact hg.g2⟩, by show l.length ≤ 300; rw [hlen]; exact hg.g3, List.all_eq_true.2 fun r hr => ?_⟩
    have := hg.g4 _ (hmem r hr)
    unfold shortR
    simpa using this
  · unfold Gm.form
    rw [Bool.and_eq_true]
    refine ⟨List.all_eq_true.2 fun s hs => ?_, List.all_eq_true.2 fun s hs => ?_⟩
    · obtain ⟨t, ht, rfl⟩ := List.mem_map.1 hs
      unfold okT
      rw [data_str]
      exact hg.g5 t ht
    · obtain ⟨t, ht, rfl⟩ := List.mem_map.1 hs
      unfold okN
      rw [data_str]
      exact hg.g6 t ht
  · unfold Gm.once
    rw [decide_eq_true_eq]
    show (g.T.map str ++ g.N.map str).Nodup
    rw [← List.map_append]
    exact List.pairwise_map.2 (List.Pairwise.imp (fun hne e => hne (str_injective e)) hg.g7)
  · unfold Gm.unlike
    refine decide_eq_true ?_
    intro i j x r hji hx hr
    have hnd := List.pairwise_iff_getElem.1 hg.g10
    obtain ⟨hj, ex⟩ := List.getElem?_eq_some_iff.1 hx
    obtain ⟨hi, er⟩ := List.getElem?_eq_some_iff.1 hr
    have hj' : j < l.length := hj
    have hi' : i < l.length := hi
    have hne := hnd j i (by omega) (by omega) hji
    have e1 : g.R[j]'(by omega) = (x.left.toNat, x.right.map Int.toNat) := by
      have : g.R[j]? = some (x.left.toNat, x.right.map Int.toNat) := by rw [← hl, List.getElem?_map, show l[j]? = some x from hx]; rfl
      exact (List.getElem?_eq_some_iff.1 this).2
    have e2 : g.R[i]'(by omega) = (r.left.toNat, r.right.map Int.toNat) := by
      have : g.R[i]? = some (r.left.toNat, r.right.map Int.toNat) := by rw [← hl, List.getElem?_map, show l[i]? = some r from hr]; rfl
      exact (List.getElem?_eq_some_iff.1 this).2
    rw [e1, e2] at hne
    cases hs : sameR x r with
    | false => rfl
    | true =>
      exfalso
      unfold sameR at hs
      rw [Bool.and_eq_true, beq_iff_eq, beq_iff_eq] at hs
      exact hne (by rw [hs.1, hs.2])
  · unfold Gm.each
    refine List.all_eq_true.2 fun i hi => ?_
    rw [hN] at hi
    obtain ⟨q, hq, he⟩ := hg.g11 i (List.mem_range.1 hi)
    rw [← hl] at hq
    obtain ⟨r, hr, rfl⟩ := List.mem_map.1 hq
    refine List.any_eq_true.2 ⟨r, hr, ?_⟩
    unfold Gm.left
    rw [hT, beq_iff_eq]
    have := (hpos r hr).1
    simp only at he
    omega
  · unfold Gm.ordered
    refine decide_eq_true ?_
    intro i x y hx hy
    have hget : ∀ k z, (Gm.ofP g l).firsts[k]? = some z → k < g.N.length ∧ z = (((Gm.ofP g l).first k : Nat) : Int) := by
      intro k z hz
      unfold Gm.firsts at hz
      rw [List.getElem?_map] at hz
      obtain ⟨m, hm, rfl⟩ := Option.map_eq_some_iff.1 hz
      obtain ⟨hk, e⟩ := List.getElem?_eq_some_iff.1 hm
      rw [List.getElem_range] at e
      subst e
      rw [List.length_range, hN] at hk
      exact ⟨hk, rfl⟩
    obtain ⟨k1, rfl⟩ := hget i x hx
    obtain ⟨k2, rfl⟩ := hget (i + 1) y hy
    have := hg.g12 i (i + 1) (by omega) k2
    rw [hfirst, hfirst]
    omega
end Go.Proofs.YtnpjhndgdlihjaaDoor

namespace Go.Proofs.YtnpjhndgdlihjaaDoor
open Go.RowKit
set_option linter.unusedVariables false
theorem drew_below' (w : World) : Below w.heap.size w w.drew := ⟨rfl, rfl, rfl, Nat.le_refl _, fun _ _ => rfl⟩
set_option maxRecDepth 100000 in
set_option maxHeartbeats 1600000 in
theorem same4_any {w : World} {u v : Value} {a : List ByteArray} (ha : Arr StrV w u a) (hb : Arr StrV w v a) : Calls Tryd.prog 27 #[u, v] w (Says w true) := by
  obtain ⟨⟨A, c, rfl, hca⟩, hsa⟩ := ha
  obtain ⟨⟨B, d, rfl, hcb⟩, hsb⟩ := hb
  have HCA := Lib.hid hca
  have HCB := Lib.hid hcb
  have hs1 := hsa
  clear hca hcb
  go_enter Tryd.func27, Tryd.ntmps27
  go_wp2
  go_loopw [5] (fun i wr => ∃ k : Nat, k ≤ a.length ∧ i = .int .i64 k ∧ Hid (∃ q, wr = w.drewN q)) (fun i _ => a.length - (intOf i).toNat)
  case atStart => exact ⟨0, Nat.zero_le _, rfl, Lib.hid ⟨0, rfl⟩⟩
  case round =>
    obtain ⟨k, hk, rfl, HD⟩ := hrel
    by_cases hlt : k < a.length
    · have hx := List.getElem?_eq_getElem hlt
      generalize a[k] = x at hx
      obtain ⟨b1, off1, rfl, hlt1, hcell1⟩ := HCA.out k x hx
      obtain ⟨b2, off2, rfl, hlt2, hcell2⟩ := HCB.out k x hx
      have e1 : wr.cell? ⟨b1, off1 + k, none⟩ = some (.string x) := by obtain ⟨q, rfl⟩ := HD.out; exact hcell1
      have e2 : wr.cell? ⟨b2, off2 + k, none⟩ = some (.string x) := by obtain ⟨q, rfl⟩ := HD.out; exact hcell2
      have hb : (x.toList != x.toList) = false := by simp
      clear hx hcell1 hcell2
      go_wp2
      go_quiet (fail)
      have HDD : Hid (∃ q, wr.drewN nq = w.drewN q) := Lib.hid (by
        obtain ⟨q, hq⟩ := HD.out
        exact ⟨q + nq, by rw [hq, World.drewN_drewN]⟩)
      go_wp2
      go_roundw
      case rel => exact ⟨k + 1, by omega, by go_num, HDD⟩
      case measure => simp [intOf]; omega
    · obtain rfl : k = a.length := by omega
      go_wp2
      go_ret
      refine ⟨rfl, ?_⟩
      obtain ⟨q, rfl⟩ := HD.out
      exact below_draws (Below.refl _ w) _
set_option maxRecDepth 100000 in
set_option maxHeartbeats 3200000 in
theorem same6_any {w : World} {u v : Value} {g h : Gm} (hg : GrR w u g) (hh : GrR w v h) (eT : h.T = g.T) (eN : h.N = g.N) (es : h.s = g.s) (eR : h.R.length = g.R.length) (er : ∀ (k : Nat) (a b : Ru), g.R[k]? = some a → h.R[k]? = some b → sameR a b = true) : Calls Tryd.prog 15 #[u, v] w (Says w true) := by
  have HG := Lib.hid (GBox.new w 30 u)
  have HH0 := Lib.hid (GBox.new (w.alloc (.cells u.cells 30)) 30 v)
  obtain ⟨AT, cT, AN, cN, AR, cR, rfl, hT, hN, hR⟩ := hg.open_
  obtain ⟨BT, dT, BN, dN, BR, dR, rfl, kT, kN, kR⟩ := hh.open_
  rw [eT] at kT
  rw [eN] at kN
  rw [eR] at kR
  have HT := Lib.hid (fun y (hy : Below w.heap.size w y) => same4_any (hT.later hy) (kT.later hy))
  have HN := Lib.hid (fun y (hy : Below w.heap.size w y) => same4_any (hN.later hy) (kN.later hy))
  have HL : Hid (∀ k, k < g.R.length → ∃ (a b : Ru) (b1 o1 b2 o2 : Nat), AR = some ⟨b1, o1, none⟩ ∧ BR = some ⟨b2, o2, none⟩ ∧ ∀ y, Below w.heap.size w y →
      (y.cell? ⟨b1, o1 + k * 2, none⟩ = some (.int .i64 a.left) ∧ y.cell? ⟨b1, o1 + k * 2 + 1, none⟩ = some a.v) ∧ (y.cell? ⟨b2, o2 + k * 2, none⟩ = some (.int .i64 b.left) ∧ y.cell? ⟨b2, o2 + k * 2 + 1, none⟩ = some b.v) ∧ (∃ A c, a.v = .slice A a.right.length c) ∧ (∃ A c, b.v = .slice A b.right.length c) ∧ Calls Tryd.prog 28 #[RuV a, RuV b] y (Says y true)) := Lib.hid (fun k hk => by
    obtain ⟨⟨A1, c1, e1, hc1⟩, _⟩ := hR
    obtain ⟨⟨A2, c2, e2, hc2⟩, _⟩ := kR
    cases e1
    obtain rfl : BR = A2 := by injection e2
    have ha := List.getElem?_eq_getElem hk
    have hb := List.getElem?_eq_getElem (show k < h.R.length by omega)
    generalize g.R[k] = a at ha
    generalize h.R[k]'(by omega) = b at hb
    obtain ⟨b1, o1, rfl, l1, x1, x2, x3⟩ := hc1 k a ha
    obtain ⟨b2, o2, rfl, l2, y1, y2, y3⟩ := hc2 k b hb
    refine ⟨a, b, b1, o1, b2, o2, rfl, rfl, fun y hy => ⟨⟨(hy.cell (p := ⟨b1, o1 + k * 2, none⟩) l1).trans x1, (hy.cell (p := ⟨b1, o1 + k * 2 + 1, none⟩) l1).trans x2⟩, ⟨(hy.cell (p := ⟨b2, o2 + k * 2, none⟩) l2).trans y1, (hy.cell (p := ⟨b2, o2 + k * 2 + 1, none⟩) l2).trans y2⟩, ?_, ?_, ?_⟩⟩
    · obtain ⟨⟨A, c, e, _⟩, _⟩ := x3; exact ⟨A, c, e⟩
    · obtain ⟨⟨A, c, e, _⟩, _⟩ := y3; exact ⟨A, c, e⟩
    · have := rsame_any (x3.later hy) (y3.later hy)
      rw [er k a b ha hb] at this
      exact this)
  have hn2 : g.R.length ≤ 1048576 := hg.small.2.2.2.2.1
  rw [eT, eN, eR, es] at HH0 ⊢
  clear hg hh hT hN hR kT kN kR er eT eN eR es
  generalize g.T.length = nT at *
  generalize g.N.length = nN at *
  generalize g.R.length = nR at *
  generalize g.s = gs at *
  have HB0 : Hid (Below w.heap.size w ((w.alloc (.cells #[.slice AT nT cT, .slice AN nN cN, .slice AR nR cR, .int .i64 gs] 30)).alloc (.cells #[.slice BT nT dT, .slice BN nN dN, .slice BR nR dR, .int .i64 gs] 30))) := Lib.hid ((below_alloc w _).alloc (by simp) _)
  have HG0 := Lib.hid (HG.out.later (below_alloc _ (.cells #[.slice BT nT dT, .slice BN nN dN, .slice BR nR dR, .int .i64 gs] 30)))
  have HH := Lib.hid (show GBox ((w.alloc (.cells #[.slice AT nT cT, .slice AN nN cN, .slice AR nR cR, .int .i64 gs] 30)).alloc (.cells #[.slice BT nT dT, .slice BN nN dN, .slice BR nR dR, .int .i64 gs] 30)) (w.heap.size + 1) _ by have := HH0.out; rw [World.size_alloc] at this; exact this)
  have HGB : Hid (∀ y, Below ((w.alloc (.cells #[.slice AT nT cT, .slice AN nN cN, .slice AR nR cR, .int .i64 gs] 30)).alloc (.cells #[.slice BT nT dT, .slice BN nN dN, .slice BR nR dR, .int .i64 gs] 30)).heap.size ((w.alloc (.cells #[.slice AT nT cT, .slice AN nN cN, .slice AR nR cR, .int .i64 gs] 30)).alloc (.cells #[.slice BT nT dT, .slice BN nN dN, .slice BR nR dR, .int .i64 gs] 30)) y → (y.cell? ⟨w.heap.size, 0, none⟩ = some (.slice AT nT cT) ∧ y.cell? ⟨w.heap.size, 1, none⟩ = some (.slice AN nN cN) ∧ y.cell? ⟨w.heap.size, 2, none⟩ = some (.slice AR nR cR) ∧ y.cell? ⟨w.heap.size, 3, none⟩ = some (.int .i64 gs)) ∧ (y.cell? ⟨w.heap.size + 1, 0, none⟩ = some (.slice BT nT dT) ∧ y.cell? ⟨w.heap.size + 1, 1, none⟩ = some (.slice BN nN dN) ∧ y.cell? ⟨w.heap.size + 1, 2, none⟩ = some (.slice BR nR dR) ∧ y.cell? ⟨w.heap.size + 1, 3, none⟩ = some (.int .i64 gs))) := Lib.hid (fun y hy => ⟨(HG0.out.later hy).four, (HH.out.later hy).four⟩)
  have hnot : ∀ (x : Bool) (w : World), (Op.unary .not (.bool x)).run Tryd.prog w = .ok (.bool (!x)) w := fun _ _ => rfl
  go_enter Tryd.func15, Tryd.ntmps15
  go_wp2_with fail
  refine (HT.out _ HB0.out).mono ?_
  rintro e w1 ⟨rfl, hb1⟩
  have HX1 := Lib.hid hb1
  have HB1 := Lib.hid (HB0.out.trans (hb1.mono HB0.out.size))
  obtain ⟨⟨g0, g1, g2, g3⟩, h0, h1, h2, h3⟩ := HGB.out w1 hb1
  clear hb1
  go_wp2_with fail
  refine (HN.out _ HB1.out).mono ?_
  rintro e w2 ⟨rfl, hb2⟩
  have HX2 := Lib.hid (HX1.out.trans (hb2.mono HX1.out.size))
  have HB2 := Lib.hid (HB1.out.trans (hb2.mono HB1.out.size))
  clear g0 g1 g2 g3 h0 h1 h2 h3 hb2
  obtain ⟨⟨g0, g1, g2, g3⟩, h0, h1, h2, h3⟩ := HGB.out w2 HX2.out
  go_wp2
  go_loopw [5] (fun i wr => ∃ k : Nat, k ≤ nR ∧ i = .int .i64 k ∧ Hid (Below w2.heap.size w2 wr)) (fun i _ => nR - (intOf i).toNat)
  case atStart => exact ⟨0, Nat.zero_le _, rfl, Lib.hid (Below.refl _ _)⟩
  case round =>
    obtain ⟨k, hk, rfl, HBR⟩ := hrel
    clear g0 g1 g2 g3 h0 h1 h2 h3
    obtain ⟨⟨g0, g1, g2, g3⟩, h0, h1, h2, h3⟩ := HGB.out wr (HX2.out.trans (HBR.out.mono HX2.out.size))
    have HBW := Lib.hid (HB2.out.trans (HBR.out.mono HB2.out.size))
    by_cases hlt : k < nR
    · obtain ⟨a, b, b1, o1, b2, o2, eA, eB, hcells⟩ := HL.out k hlt
      obtain ⟨⟨p1, p2⟩, ⟨q1, q2⟩, ⟨A1, c1, ea⟩, ⟨A2, c2, eb⟩, _⟩ := hcells wr HBW.out
      have HCA := Lib.hid (hcells wr.drew (HBW.out.trans ((drew_below' wr).mono HBW.out.size))).2.2.2.2
      subst eA
      subst eB
      unfold RuV at HCA
      rw [ea, eb] at HCA
      rw [ea] at p2
      rw [eb] at q2
      clear hcells ea eb
      generalize a.left = al at *
      generalize b.left = bl at *
      generalize a.right.length = an at *
      generalize b.right.length = bn at *
      go_wp2
      go_region_law (go_simp; go_at_call 28; refine HCA.out.mono ?_; rintro e w3 ⟨rfl, hb3⟩
                     have HB3 := Lib.hid (HBR.out.trans (((drew_below' wr).trans hb3).mono HBR.out.size))
                     clear hb3)
      all_goals go_wp2
      all_goals go_roundw
      all_goals first
        | (case rel => exact ⟨k + 1, by omega, by go_num, HB3⟩)
        | (case measure => simp [intOf]; omega)
    · obtain rfl : k = nR := by omega
      go_wp2
      go_ret
      exact ⟨rfl, HB2.out.trans (HBR.out.mono HB2.out.size)⟩
end Go.Proofs.YtnpjhndgdlihjaaDoor

namespace Go.Proofs.YtnpjhndgdlihjaaDoor
open Go.RowKit Go.Maps
set_option linter.unusedVariables false
theorem arr_own {α : Type} {E : α → Value} {w : World} {B : Nat} {e : TypeId} {v : Value} {l : List α} (h : w.ownsRow B e 1 v l.length (l.map E)) (hl : l.length ≤ 4611686018427387904) : Arr E w v l := by
  rcases own_form h with ⟨rfl, h0⟩ | ⟨b, c, rfl, h1, h2, h3, h4, _⟩
  · exact ⟨⟨none, 0, by rw [h0], fun k x hx => by have := (List.getElem?_eq_some_iff.1 hx).1; omega⟩, hl, fun A n c e => by cases e; exact ⟨Nat.le_refl _, fun _ => rfl⟩⟩
  · refine ⟨⟨_, c, rfl, fun k x hx => ⟨b, 0, rfl, h2, ?_⟩⟩, hl, fun A n c' e => by cases e; exact ⟨h3, fun e => by cases e⟩⟩
    have hk := (List.getElem?_eq_some_iff.1 hx).1
    rw [Nat.zero_add, own_cell h k (by omega), List.getElem?_map, hx]
    rfl
def RuG.ru (q : RuG) : Ru := ⟨(q.left : Nat), q.v, q.r.map fun n : Nat => (n : Int)⟩
theorem rul_own {w : World} {B : Nat} {v : Value} {R : List RuG} (h : w.ownsRow B 68 2 v R.length (R.flatMap RuG.cells)) (hr : ∀ q ∈ R, w.ownsRow B 3 1 q.v q.r.length (q.r.map Mark)) (hl : R.length ≤ 4611686018427387904) (h8 : ∀ q ∈ R, q.r.length ≤ 8) : Rul w v (R.map RuG.ru) := by
  have hright : ∀ q ∈ R, Arr IntV w (RuG.ru q).v (RuG.ru q).right := fun q hq => by
    have h1 := hr q hq
    have e : (RuG.ru q).right.length = q.r.length := by unfold RuG.ru; simp
    refine arr_own (B := B) (e := 3) ?_ (by rw [e]; have := h8 q hq; omega)
    rw [e]
    have e2 : (RuG.ru q).right.map IntV = q.r.map Mark := by unfold RuG.ru; rw [List.map_map]; rfl
    rw [e2]
    exact h1
  rcases own_form h with ⟨rfl, h0⟩ | ⟨b, c, rfl, h1, h2, h3, h4, _⟩
  · refine ⟨⟨none, 0, by rw [List.length_map, h0], fun k x hx => ?_⟩, by rw [List.length_map]; exact hl, fun A n c e => by cases e; exact ⟨Nat.le_refl _, fun _ => rfl⟩⟩
    have := (List.getElem?_eq_some_iff.1 hx).1
    rw [List.length_map] at this
    omega
  · refine ⟨⟨_, c, by rw [List.length_map], fun k x hx => ⟨b, 0, rfl, h2, ?_⟩⟩, by rw [List.length_map]; exact hl, fun A n c' e => by cases e; exact ⟨h3, fun e => by cases e⟩⟩
    rw [List.getElem?_map] at hx
    obtain ⟨q, hq, rfl⟩ := Option.map_eq_some_iff.1 hx
    obtain ⟨hk, hqe⟩ := List.getElem?_eq_some_iff.1 hq
    have hg : ∀ j, j < 2 → (R.flatMap RuG.cells)[k * 2 + j]? = (RuG.cells q)[j]? := fun j hj => by rw [fm_get RuG.cells 2 RuG.cells_len R k j hk hj, hqe]
    have e0 := own_cell h (k * 2) (by omega)
    have e1 := own_cell h (k * 2 + 1) (by omega)
    have g0 := hg 0 (by omega)
    rw [Nat.add_zero] at g0
    rw [g0] at e0
    rw [hg 1 (by omega)] at e1
    rw [Nat.zero_add]
    exact ⟨e0, e1, hright q (List.mem_of_getElem? hq)⟩
theorem name_short {s : Nme} (h : (okName s || quotedB s) = true) : s.length ≤ 1048576 := by
  rw [Bool.or_eq_true] at h
  rcases h with h | h
  · obtain ⟨c, r, rfl, _, _, h24⟩ := name_parts h
    omega
  · obtain ⟨m, rfl, _, _, h23⟩ := quoted_parts h
    simp
    omega
theorem like_has {w0 w : World} {tv nv Rv : Value} {g : PG} {R : List RuG} (h : Has w0 w tv nv Rv g R) : Like g (R.map RuG.ru) := by
  refine ⟨?_, fun r hr => ?_⟩
  · rw [← h.r, List.map_map]
    refine List.map_congr_left fun q _ => ?_
    unfold RuG.ru RuG.g
    refine Prod.ext (by simp) ?_
    simp only [Function.comp, List.map_map]
    exact (List.map_congr_left (fun a _ => by simp [Function.comp])).trans (List.map_id q.r)
  · obtain ⟨q, _, rfl⟩ := List.mem_map.1 hr
    refine ⟨by unfold RuG.ru; simp, fun s hs => ?_⟩
    obtain ⟨n, _, rfl⟩ := List.mem_map.1 hs
    omega
theorem has_right {w0 w : World} {tv nv Rv : Value} {g : PG} {R : List RuG} (h : Has w0 w tv nv Rv g R) (hg : g.Good) : ∀ q ∈ R, q.r.length ≤ 8 := fun q hq => by
  have := hg.g4 q.g (by rw [← h.r]; exact List.mem_map_of_mem hq)
  exact this
/-- What has been read is a grammar of the program's. -/
theorem Has.gram {w0 w : World} {tv nv Rv : Value} {g : PG} {R : List RuG} (h : Has w0 w tv nv Rv g R) (hg : g.Good) : GrR w (.agg #[tv, nv, Rv, .int .i64 g.s]) (Gm.ofP g (R.map RuG.ru)) := by
  have g1 := hg.g1
  have g2 := hg.g2
  have g3 := hg.g3
  have h8 := has_right h hg
  have hRl : R.length = g.R.length := by rw [← h.r, List.length_map]
  have hTm : (g.T.map str).map StrV = g.T.map Nv := by rw [List.map_map]; rfl
  have hNm : (g.N.map str).map StrV = g.N.map Nv := by rw [List.map_map]; rfl
  refine ⟨⟨tv, nv, Rv, rfl, arr_own (B := w0.heap.size) (e := 9) ?_ (by show (g.T.map str).length ≤ _; rw [List.length_map]; omega), arr_own (B := w0.heap.size) (e := 9) ?_ (by show (g.N.map str).length ≤ _; rw [List.length_map]; omega), rul_own h.fR h.rights (by omega) h8⟩, ?_, ?_, ?_, ?_, ?_, ?_⟩
  · show w.ownsRow w0.heap.size 9 1 tv (g.T.map str).length ((g.T.map str).map StrV)
    rw [List.length_map, hTm]
    exact h.ft
  · show w.ownsRow w0.heap.size 9 1 nv (g.N.map str).length ((g.N.map str).map StrV)
    rw [List.length_map, hNm]
    exact h.fn
  · intro s hs
    obtain ⟨t, ht, rfl⟩ := List.mem_map.1 hs
    rw [str_size]
    exact name_short (hg.g5 t ht)
  · intro s hs
    obtain ⟨t, ht, rfl⟩ := List.mem_map.1 hs
    rw [str_size]
    exact name_short (by rw [hg.g6 t ht]; rfl)
  · show (g.T.map str).length ≤ _
    rw [List.length_map]; omega
  · show (g.N.map str).length ≤ _
    rw [List.length_map]; omega
  · show (R.map RuG.ru).length ≤ _
    rw [List.length_map]; omega
  · intro r hr
    obtain ⟨q, hq, rfl⟩ := List.mem_map.1 hr
    have := h8 q hq
    show (q.r.map fun n : Nat => (n : Int)).length ≤ _
    rw [List.length_map]
    omega
theorem Has.later {w0 w w' : World} {tv nv Rv : Value} {g : PG} {R : List RuG} (h : Has w0 w tv nv Rv g R) (hb : Below w.heap.size w w') : Has w0 w' tv nv Rv g R :=
  h.chg (.of_below (X := fun _ => False) hb) (fun _ _ => id)
theorem like_same {g : PG} {l m : List Ru} (hl : Like g l) (hm : Like g m) : m.length = l.length ∧ ∀ (k : Nat) (a b : Ru), l[k]? = some a → m[k]? = some b → sameR a b = true := by
  have e : ∀ {l : List Ru}, Like g l → l.length = g.R.length := fun h => by rw [← h.1, List.length_map]
  refine ⟨by rw [e hl, e hm], fun k a b ha hb => ?_⟩
  have h1 : g.R[k]? = some (a.left.toNat, a.right.map Int.toNat) := by rw [← hl.1, List.getElem?_map, ha]; rfl
  have h2 : g.R[k]? = some (b.left.toNat, b.right.map Int.toNat) := by rw [← hm.1, List.getElem?_map, hb]; rfl
  rw [h1] at h2
  injection h2 with h2
  obtain ⟨e1, e2⟩ := Prod.mk.inj h2
  have pa := hl.2 a (List.mem_of_getElem? ha)
  have pb := hm.2 b (List.mem_of_getElem? hb)
  have hback : ∀ l : List Int, (∀ s ∈ l, 0 ≤ s) → (l.map Int.toNat).map (fun n : Nat => (n : Int)) = l := by
    intro l hl
    rw [List.map_map]
    refine (List.map_congr_left (fun a ha => ?_)).trans (List.map_id l)
    have := hl a ha
    show ((a.toNat : Nat) : Int) = a
    omega
  unfold sameR
  rw [Bool.and_eq_true, beq_iff_eq, beq_iff_eq]
  exact ⟨by omega, by rw [← hback _ pa.2, e2, hback _ pb.2]⟩
end Go.Proofs.YtnpjhndgdlihjaaDoor
