/- GreadMany's text: its tokens. GreadMany's text: what it is read as. GreadMany, walked. GreadMany: rules of one nonterminal, as many as may be, and one more. -/
import Derived.Test.YtdbmeocpjopdhaaDoorZu
import Derived.Test.YtdbmeocpjopdhaaDoorZa
import Derived.Test.YtdbmeocpjopdhaaDoorTie
import Derived.Test.YtdbmeocpjopdhaaDoorCards
import Derived.ChangeMaps5
import Derived.HandedShaped
import Derived.Shelf.Vars
import Derived.LaidLaws
import Derived.LaidHandle
import Derived.Stop.Joined
import Derived.SevenTiedAt
namespace Go.Proofs.YtdbmeocpjopdhaaDoor
open Go.RowKit
set_option linter.unusedVariables false
def TL (sz p : Nat) (l : List UInt8) : Except Flt (List Tk) := toksL sz (l.length + 1) p l
theorem TL_step {sz p k n : Nat} {l : List UInt8} {ts : List Tk} (hne : l ≠ []) (hsz : sz = p + l.length) (ho : oneL sz p l = .ok (k, n)) (ht : TL sz (p + n) (l.drop n) = .ok ts) :
    TL sz p l = .ok (if k = 0 then ts else ⟨k, l.take n, p⟩ :: ts) := by
  have he : l.isEmpty = false := by cases l with | nil => exact absurd rfl hne | cons a r => rfl
  have h1 := (one_ok ho).2 (by cases l with | nil => exact absurd rfl hne | cons a r => simp)
  have h2 := one_len ho hsz
  unfold TL at ht ⊢
  have h3 : toksL sz l.length (p + n) (l.drop n) = .ok ts := by
    rw [← ht]
    exact toks_fuel _ _ _ _ _ (by rw [List.length_drop]; omega) (by rw [List.length_drop]; omega) (by omega)
  simp only [toksL, he, ho, h3]
  rfl
theorem letB_class (c : UInt8) (h : letB c = false) : classOf c ≠ 4 := fun e => by unfold letB at h; rw [e] at h; cases h
theorem span_word (w : List UInt8) (hw : ∀ c ∈ w, letB c = true) (c : UInt8) (hc : letB c = false) (r : List UInt8) : spanBy letB (w ++ c :: r) = w.length := by
  induction w with
  | nil => rw [List.nil_append, spanBy_cons, hc]; rfl
  | cons a w ih =>
    rw [List.cons_append, spanBy_cons, if_pos (hw a (by simp)), ih (fun c h => hw c (by simp [h]))]
    rfl
def firstOK (a : UInt8) : Bool := !whiteB a && a != 47 && a != 39 && a != 37 && classOf a == 4
theorem TL_name {sz p : Nat} {a : UInt8} {w r : List UInt8} {c : UInt8} {ts : List Tk} (ha : firstOK a = true) (hw : ∀ c ∈ a :: w, letB c = true) (hc : letB c = false) (hl : (a :: w).length ≤ 24)
    (hsz : sz = p + (a :: w).length + (c :: r).length) (ht : TL sz (p + (a :: w).length) (c :: r) = .ok ts) : TL sz p (a :: w ++ c :: r) = .ok (⟨1, a :: w, p⟩ :: ts) := by
  have hsp := span_word (a :: w) hw c hc r
  have ho : oneL sz p (a :: w ++ c :: r) = .ok (1, (a :: w).length) := by
    unfold firstOK at ha
    simp only [Bool.and_eq_true, Bool.not_eq_true', bne_iff_ne, beq_iff_eq] at ha
    obtain ⟨⟨⟨⟨h1, h2⟩, h3⟩, h4⟩, h5⟩ := ha
    rw [List.cons_append] at hsp ⊢
    unfold oneL
    simp only
    rw [h1, if_neg (by decide), if_neg h2, if_neg h3, if_neg h4, if_pos h5, hsp, if_neg (by omega)]
  have := TL_step (by simp) (by rw [List.length_append]; omega) ho (ts := ts) (by rw [List.drop_left]; exact ht)
  rw [this, if_neg (by decide), List.take_left]
theorem TL_space {sz p : Nat} {c : UInt8} {r : List UInt8} {ts : List Tk} (hc : whiteB c = false) (hsz : sz = p + 1 + (c :: r).length) (ht : TL sz (p + 1) (c :: r) = .ok ts) : TL sz p (32 :: c :: r) = .ok ts := by
  have ho : oneL sz p (32 :: c :: r) = .ok (0, 1) := by
    unfold oneL
    simp only
    rw [if_pos (by decide), spanBy_cons, if_pos (by decide), spanBy_cons, hc]
    rfl
  have := TL_step (by simp) (by simp at hsz ⊢; omega) ho (ts := ts) ht
  rw [this, if_pos rfl]
theorem TL_sign {sz p k : Nat} {a : UInt8} {r : List UInt8} {ts : List Tk} (hk : k ≠ 0) (ho : ∀ r, oneL sz p (a :: r) = .ok (k, 1)) (hsz : sz = p + 1 + r.length) (ht : TL sz (p + 1) r = .ok ts) : TL sz p (a :: r) = .ok (⟨k, [a], p⟩ :: ts) := by
  have := TL_step (by simp) (by simp; omega) (ho r) (ts := ts) ht
  rw [this, if_neg hk]
  rfl
theorem one_bar (sz p : Nat) (r : List UInt8) : oneL sz p (124 :: r) = .ok (4, 1) := rfl
theorem one_semi (sz p : Nat) (r : List UInt8) : oneL sz p (59 :: r) = .ok (5, 1) := rfl
theorem one_colon (sz p : Nat) (r : List UInt8) : oneL sz p (58 :: r) = .ok (3, 1) := rfl
theorem TL_nil (sz p : Nat) : TL sz p [] = .ok [⟨0, [], sz⟩] := rfl
/-- A letter of a name, by its number. -/
def nb (j : Nat) : UInt8 := UInt8.ofNat (97 + j)
theorem nb_all : (List.range 18).all (fun j => letB (nb j) && !whiteB (nb j)) = true := by kernel_rfl
theorem nb_let {j : Nat} (h : j < 18) : letB (nb j) = true := by
  have := List.all_eq_true.1 nb_all j (List.mem_range.2 h)
  rw [Bool.and_eq_true] at this
  exact this.1
theorem name2 {sz p j : Nat} {c : UInt8} {r : List UInt8} {ts : List Tk} (hj : j < 18) (hc : letB c = false) (hsz : sz = p + 2 + (c :: r).length) (ht : TL sz (p + 2) (c :: r) = .ok ts) : TL sz p (116 :: nb j :: c :: r) = .ok (⟨1, [116, nb j], p⟩ :: ts) :=
  TL_name (a := 116) (w := [nb j]) (by decide) (fun c h => by
    simp only [List.mem_cons, List.not_mem_nil, or_false] at h
    rcases h with rfl | rfl
    · decide
    · exact nb_let hj) hc (by simp) hsz ht
def nm3 (i : Nat) : List UInt8 := [116, nb (i % 18), 32, 116, nb (i / 18 % 18), 32, 116, nb (i / 324)]
/-- The text of the rules from the i-th on, m of them, each behind its bar. -/
def restT : Nat → Nat → List UInt8
  | _, 0 => [59]
  | i, m + 1 => 124 :: (nm3 i ++ restT (i + 1) m)
theorem rest_len : ∀ (m i : Nat), (restT i m).length = 9 * m + 1
  | 0, _ => rfl
  | m + 1, i => by unfold restT nm3; simp [rest_len m (i + 1)]; omega
theorem rest_head : ∀ (m i : Nat), ∃ c r, restT i m = c :: r ∧ letB c = false
  | 0, _ => ⟨59, [], rfl, by decide⟩
  | m + 1, i => ⟨124, _, rfl, by decide⟩
def tk3 (i : Nat) : List Tk := [⟨1, [116, nb (i % 18)], 67 + 9 * i⟩, ⟨1, [116, nb (i / 18 % 18)], 67 + 9 * i + 3⟩, ⟨1, [116, nb (i / 324)], 67 + 9 * i + 6⟩]
def restK : Nat → Nat → List Tk
  | i, 0 => [⟨5, [59], 67 + 9 * i - 1⟩, ⟨0, [], 67 + 9 * i⟩]
  | i, m + 1 => ⟨4, [124], 67 + 9 * i - 1⟩ :: (tk3 i ++ restK (i + 1) m)
theorem rule_tokens {sz i m : Nat} {ts : List Tk} (hi : i < 5000) (hsz : sz = 67 + 9 * i + 8 + (9 * m + 1)) (ht : TL sz (67 + 9 * i + 8) (restT (i + 1) m) = .ok ts) : TL sz (67 + 9 * i) (nm3 i ++ restT (i + 1) m) = .ok (tk3 i ++ ts) := by
  obtain ⟨c, r, he, hc⟩ := rest_head m (i + 1)
  have hl := rest_len m (i + 1)
  rw [he] at ht hl ⊢
  simp only [List.length_cons] at hl
  have h3 : TL sz (67 + 9 * i + 6) (116 :: nb (i / 324) :: c :: r) = .ok (⟨1, [116, nb (i / 324)], 67 + 9 * i + 6⟩ :: ts) := name2 (by omega) hc (by simp; omega) ht
  have h3' : TL sz (67 + 9 * i + 5) (32 :: 116 :: nb (i / 324) :: c :: r) = .ok (⟨1, [116, nb (i / 324)], 67 + 9 * i + 6⟩ :: ts) := TL_space (by decide) (by simp; omega) h3
  have h2 : TL sz (67 + 9 * i + 3) (116 :: nb (i / 18 % 18) :: 32 :: 116 :: nb (i / 324) :: c :: r) = .ok (⟨1, [116, nb (i / 18 % 18)], 67 + 9 * i + 3⟩ :: ⟨1, [116, nb (i / 324)], 67 + 9 * i + 6⟩ :: ts) := name2 (by omega) (by decide) (by simp; omega) h3'
  have h2' : TL sz (67 + 9 * i + 2) (32 :: 116 :: nb (i / 18 % 18) :: 32 :: 116 :: nb (i / 324) :: c :: r) = .ok (⟨1, [116, nb (i / 18 % 18)], 67 + 9 * i + 3⟩ :: ⟨1, [116, nb (i / 324)], 67 + 9 * i + 6⟩ :: ts) := TL_space (by decide) (by simp; omega) h2
  exact name2 (by omega) (by decide) (by simp; omega) h2'
theorem rest_tokens : ∀ (m i sz : Nat), 1 ≤ i → i + m < 5000 → sz = 67 + 9 * (i + m) → TL sz (67 + 9 * i - 1) (restT i m) = .ok (restK i m)
  | 0, i, sz, h1, h2, hsz => by
    subst hsz
    have := TL_sign (sz := 67 + 9 * i) (p := 67 + 9 * i - 1) (by decide) (one_semi _ _) (by simp; omega) (TL_nil (67 + 9 * i) (67 + 9 * i - 1 + 1))
    exact this
  | m + 1, i, sz, h1, h2, hsz => by
    have ih := rest_tokens m (i + 1) sz (by omega) (by omega) (by omega)
    have hr := rule_tokens (sz := sz) (i := i) (m := m) (ts := restK (i + 1) m) (by omega) (by omega) (by rw [show 67 + 9 * i + 8 = 67 + 9 * (i + 1) - 1 by omega]; exact ih)
    refine TL_sign (by decide) (one_bar _ _) ?_ (by rw [show 67 + 9 * i - 1 + 1 = 67 + 9 * i by omega]; exact hr)
    rw [List.length_append, rest_len]
    unfold nm3
    simp
    omega
/-- The declared names from the j-th on, m of them, then the mark and the rule's head. -/
def hdT (t : List UInt8) : Nat → Nat → List UInt8
  | _, 0 => 37 :: 37 :: 32 :: 115 :: 32 :: 58 :: 32 :: t
  | j, m + 1 => 32 :: 116 :: nb j :: hdT t (j + 1) m
theorem hd_len (t : List UInt8) : ∀ (m j : Nat), (hdT t j m).length = 3 * m + 7 + t.length
  | 0, _ => by unfold hdT; simp; omega
  | m + 1, j => by unfold hdT; simp [hd_len t m (j + 1)]; omega
theorem hd_head (t : List UInt8) : ∀ (m j : Nat), ∃ c r, hdT t j m = c :: r ∧ letB c = false
  | 0, _ => ⟨37, _, rfl, by decide⟩
  | m + 1, j => ⟨32, _, rfl, by decide⟩
def hdK (ts : List Tk) : Nat → Nat → List Tk
  | j, 0 => ⟨6, [37, 37], 6 + 3 * j⟩ :: ⟨1, [115], 6 + 3 * j + 3⟩ :: ⟨3, [58], 6 + 3 * j + 5⟩ :: ts
  | j, m + 1 => ⟨1, [116, nb j], 6 + 3 * j + 1⟩ :: hdK ts (j + 1) m
theorem hd_tokens {t : List UInt8} {ts : List Tk} {c : UInt8} {r : List UInt8} (he : t = c :: r) (hc : whiteB c = false) (sz : Nat) : ∀ (m j : Nat), j + m ≤ 18 → sz = 6 + 3 * (j + m) + 7 + t.length → TL sz (6 + 3 * (j + m) + 7) t = .ok ts → TL sz (6 + 3 * j) (hdT t j m) = .ok (hdK ts j m)
  | 0, j, h1, hsz, ht => by
    subst he
    simp only [List.length_cons] at hsz
    have a1 : TL sz (6 + 3 * j + 6) (32 :: c :: r) = .ok ts := TL_space hc (by simp; omega) ht
    have a2 : TL sz (6 + 3 * j + 5) (58 :: 32 :: c :: r) = .ok (⟨3, [58], 6 + 3 * j + 5⟩ :: ts) := TL_sign (by decide) (one_colon _ _) (by simp; omega) a1
    have a3 : TL sz (6 + 3 * j + 4) (32 :: 58 :: 32 :: c :: r) = .ok (⟨3, [58], 6 + 3 * j + 5⟩ :: ts) := TL_space (by decide) (by simp; omega) a2
    have a4 : TL sz (6 + 3 * j + 3) (115 :: 32 :: 58 :: 32 :: c :: r) = .ok (⟨1, [115], 6 + 3 * j + 3⟩ :: ⟨3, [58], 6 + 3 * j + 5⟩ :: ts) :=
      TL_name (a := 115) (w := []) (by decide) (fun c h => by simp only [List.mem_cons, List.not_mem_nil, or_false] at h; subst h; decide) (by decide) (by simp) (by simp; omega) a3
    have a5 : TL sz (6 + 3 * j + 2) (32 :: 115 :: 32 :: 58 :: 32 :: c :: r) = .ok (⟨1, [115], 6 + 3 * j + 3⟩ :: ⟨3, [58], 6 + 3 * j + 5⟩ :: ts) := TL_space (by decide) (by simp; omega) a4
    have a6 := TL_step (sz := sz) (p := 6 + 3 * j) (k := 6) (n := 2) (l := 37 :: 37 :: 32 :: 115 :: 32 :: 58 :: 32 :: c :: r) (by simp) (by simp; omega) rfl a5
    exact a6
  | m + 1, j, h1, hsz, ht => by
    have ih := hd_tokens he hc sz m (j + 1) (by omega) (by omega) (by rw [show 6 + 3 * (j + 1 + m) + 7 = 6 + 3 * (j + (m + 1)) + 7 by omega]; exact ht)
    obtain ⟨c', r', he', hc'⟩ := hd_head t m (j + 1)
    have hl := hd_len t m (j + 1)
    show TL sz (6 + 3 * j) (32 :: 116 :: nb j :: hdT t (j + 1) m) = .ok (⟨1, [116, nb j], 6 + 3 * j + 1⟩ :: hdK ts (j + 1) m)
    rw [he'] at ih hl ⊢
    simp only [List.length_cons] at hl
    exact TL_space (by decide) (by simp; omega) (name2 (by omega) hc' (by simp; omega) ih)
/-- The whole text: k rules. -/
def manyL (k : Nat) : List UInt8 := [37, 116, 111, 107, 101, 110] ++ hdT (if k = 0 then [59] else nm3 0 ++ restT 1 (k - 1)) 0 18
def manyK (k : Nat) : List Tk := ⟨7, [37, 116, 111, 107, 101, 110], 0⟩ :: hdK (if k = 0 then [⟨5, [59], 67⟩, ⟨0, [], 68⟩] else tk3 0 ++ restK 1 (k - 1)) 0 18
theorem many_tokens (k : Nat) (hk : k < 400) : tokens (manyL k) = .ok (manyK k) := by
  have body : ∃ c r, (if k = 0 then [59] else nm3 0 ++ restT 1 (k - 1)) = c :: r ∧ whiteB c = false := by
    by_cases h : k = 0
    · rw [if_pos h]; exact ⟨59, [], rfl, by decide⟩
    · rw [if_neg h]; exact ⟨116, _, rfl, by decide⟩
  obtain ⟨c, r, he, hc⟩ := body
  have hlen : (if k = 0 then ([59] : List UInt8) else nm3 0 ++ restT 1 (k - 1)).length = if k = 0 then 1 else 9 * k := by
    by_cases h : k = 0
    · rw [if_pos h, if_pos h]; rfl
    · rw [if_neg h, if_neg h, List.length_append, rest_len]
      unfold nm3
      simp
      omega
  have hb : TL (67 + if k = 0 then 1 else 9 * k) 67 (if k = 0 then [59] else nm3 0 ++ restT 1 (k - 1)) = .ok (if k = 0 then [⟨5, [59], 67⟩, ⟨0, [], 68⟩] else tk3 0 ++ restK 1 (k - 1)) := by
    by_cases h : k = 0
    · rw [if_pos h, if_pos h, if_pos h]; rfl
    · rw [if_neg h, if_neg h, if_neg h]
      exact rule_tokens (sz := 67 + 9 * k) (i := 0) (m := k - 1) (ts := restK 1 (k - 1)) (by omega) (by omega) (rest_tokens (k - 1) 1 (67 + 9 * k) (by omega) (by omega) (by omega))
  have hh := hd_tokens (t := if k = 0 then [59] else nm3 0 ++ restT 1 (k - 1)) he hc (67 + if k = 0 then 1 else 9 * k) 18 0 (by omega) (by rw [hlen]) hb
  have hl2 := hd_len (if k = 0 then [59] else nm3 0 ++ restT 1 (k - 1)) 18 0
  rw [hlen] at hl2
  have hsz : (manyL k).length = 67 + if k = 0 then 1 else 9 * k := by
    unfold manyL
    rw [List.length_append, hl2]
    simp
    omega
  have hle : (if k = 0 then 1 else 9 * k) ≤ 3600 := by split <;> omega
  have hts := TL_step (sz := 67 + if k = 0 then 1 else 9 * k) (p := 0) (k := 7) (n := 6) (l := manyL k) (ts := hdK (if k = 0 then [⟨5, [59], 67⟩, ⟨0, [], 68⟩] else tk3 0 ++ restK 1 (k - 1)) 0 18) (by unfold manyL; simp) (by rw [hsz]; omega) (by
    unfold manyL
    generalize (if k = 0 then [59] else nm3 0 ++ restT 1 (k - 1)) = t
    rfl) hh
  unfold tokens
  rw [if_neg (by rw [hsz]; omega), hsz]
  unfold TL at hts
  rw [hsz] at hts
  rw [hts]
  rfl
end Go.Proofs.YtdbmeocpjopdhaaDoor

namespace Go.Proofs.YtdbmeocpjopdhaaDoor
open Go.RowKit
set_option linter.unusedVariables false
def N18 : List Tk := (List.range 18).map fun j => ⟨1, [116, nb j], 6 + 3 * j + 1⟩
def sideOf (j : Nat) : PS := ⟨tk3 j, 67 + 9 * j⟩
def sidesOf (k : Nat) : List PS := if k = 0 then [⟨[], 67⟩] else (List.range k).map sideOf
def txtOf (k : Nat) : Txt := ⟨N18, [], [], [⟨⟨1, [115], 63⟩, sidesOf k⟩]⟩
theorem heads_many (ts : List Tk) (t0 : Tk) (h0 : t0 = ⟨7, [37, 116, 111, 107, 101, 110], 0⟩) : headsL ((t0 :: hdK ts 0 18).length + 1) ⟨[], [], [], []⟩ (t0 :: hdK ts 0 18) = .ok (⟨N18, [], [], []⟩, ⟨1, [115], 63⟩ :: ⟨3, [58], 65⟩ :: ts) := by
  subst h0
  rfl
theorem rest_take : ∀ (m i : Nat), (restK i m).takeWhile symT = [] ∧ (restK i m).dropWhile symT = restK i m
  | 0, i => ⟨rfl, rfl⟩
  | m + 1, i => ⟨rfl, rfl⟩
theorem side_take (i m : Nat) : (tk3 i ++ restK (i + 1) m).takeWhile symT = tk3 i ∧ (tk3 i ++ restK (i + 1) m).dropWhile symT = restK (i + 1) m := by
  obtain ⟨h1, h2⟩ := rest_take m (i + 1)
  have e : ∀ t ∈ tk3 i, symT t = true := fun t ht => by
    unfold tk3 at ht
    simp only [List.mem_cons, List.not_mem_nil, or_false] at ht
    rcases ht with rfl | rfl | rfl <;> rfl
  exact ⟨by rw [List.takeWhile_append_of_pos e, h1, List.append_nil], by rw [List.dropWhile_append_of_pos e, h2]⟩
theorem sides_many : ∀ (m i f : Nat) (a : List PS), m ≤ f → sidesL f a (restK i m) = (a ++ (List.range' i m).map sideOf, restK (i + m) 0)
  | 0, i, f, a, h => by
    cases f with
    | zero => simp [sidesL]
    | succ f => show (a, restK i 0) = _; simp
  | m + 1, i, f, a, h => by
    obtain ⟨f, rfl⟩ : ∃ g, f = g + 1 := ⟨f - 1, by omega⟩
    have ih := sides_many m (i + 1) f (a ++ [sideOf i]) (by omega)
    obtain ⟨h1, h2⟩ := side_take i m
    show sidesL f (a ++ [sideL (tk3 i ++ restK (i + 1) m)]) ((tk3 i ++ restK (i + 1) m).dropWhile symT) = _
    have hs : sideL (tk3 i ++ restK (i + 1) m) = sideOf i := by
      unfold sideL sideOf
      rw [h1]
      rfl
    rw [hs, h2, ih, List.range'_succ, List.map_cons, List.append_assoc, show i + 1 + m = i + (m + 1) by omega]
    rfl
theorem rest_length : ∀ (m i : Nat), (restK i m).length = 4 * m + 2
  | 0, _ => rfl
  | m + 1, i => by unfold restK tk3; simp [rest_length m (i + 1)]; omega
theorem one_many (k : Nat) : ∃ t, oneR (⟨1, [115], 63⟩ :: ⟨3, [58], 65⟩ :: (if k = 0 then [⟨5, [59], 67⟩, ⟨0, [], 68⟩] else tk3 0 ++ restK 1 (k - 1))) = .ok (⟨⟨1, [115], 63⟩, sidesOf k⟩, [⟨0, [], t⟩]) := by
  by_cases h : k = 0
  · subst h
    exact ⟨_, rfl⟩
  · rw [if_neg h]
    unfold sidesOf
    rw [if_neg h]
    obtain ⟨h1, h2⟩ := side_take 0 (k - 1)
    have hl : k - 1 ≤ (tk3 0 ++ restK 1 (k - 1)).length + 1 := by rw [List.length_append, rest_length]; omega
    have hs := sides_many (k - 1) 1 ((tk3 0 ++ restK 1 (k - 1)).length + 1) [sideOf 0] hl
    have hse : sideL (tk3 0 ++ restK 1 (k - 1)) = sideOf 0 := by
      unfold sideL sideOf
      rw [h1]
      rfl
    have hr : [sideOf 0] ++ (List.range' 1 (k - 1)).map sideOf = (List.range k).map sideOf := by
      rw [List.range_eq_range', show k = (k - 1) + 1 by omega, List.range'_succ, List.map_cons]
      rfl
    rw [hr] at hs
    refine ⟨67 + 9 * (1 + (k - 1)), ?_⟩
    generalize hts : tk3 0 ++ restK 1 (k - 1) = ts at *
    have hd : ts.dropWhile symT = restK 1 (k - 1) := h2
    unfold oneR
    simp only
    rw [if_neg (by decide), if_pos (show isK 3 (⟨3, [58], 65⟩ :: ts) = true from rfl)]
    simp only [List.drop_succ_cons, List.drop_zero, List.length_cons]
    rw [hse, hd, hs]
    rfl
theorem form_many (k : Nat) : formL (manyK k) = .ok (txtOf k) := by
  obtain ⟨t, h1⟩ := one_many k
  unfold manyK
  generalize (if k = 0 then [⟨5, [59], 67⟩, ⟨0, [], 68⟩] else tk3 0 ++ restK 1 (k - 1) : List Tk) = ts at *
  unfold formL
  rw [heads_many ts _ rfl]
  simp only
  rw [h1]
  rfl
def T18 : List Nme := (List.range 18).map fun j => [116, nb j]
theorem heads_built (k : Nat) : headsB (txtOf k) = .ok T18 := by
  unfold headsB
  have h : declL (leftOf (txtOf k)) (markT (txtOf k)) (txtOf k).decl [] = .ok T18 := by
    show declL (leftOf (txtOf k)) none N18 [] = .ok T18
    generalize leftOf (txtOf k) = lf
    kernel_rfl
  rw [h]
  rfl
def RN (i : Nat) : List Nme := [115] :: (tk3 i).map Tk.s
theorem t18_all : (List.range 18).all (fun j => T18.contains [116, nb j]) = true := by kernel_rfl
theorem t18_has {j : Nat} (h : j < 18) : T18.contains [116, nb j] = true := List.all_eq_true.1 t18_all j (List.mem_range.2 h)
theorem syms_many (lf : Nme → Bool) (N : List Nme) (R : List (List Nme)) {i : Nat} (hi : i < 5000) : symsB lf ⟨T18, N, R⟩ 0 (tk3 i) = .ok ⟨T18, N, R⟩ := by
  have h1 := t18_has (j := i % 18) (by omega)
  have h2 := t18_has (j := i / 18 % 18) (by omega)
  have h3 := t18_has (j := i / 324) (by omega)
  have s : ∀ (t : Tk) (k : Nat), k < 8 → T18.contains t.s = true → symbolB lf ⟨T18, N, R⟩ t k = .ok ⟨T18, N, R⟩ := fun t k hk ht => by
    unfold symbolB
    rw [if_neg (by omega), if_pos ht]
  unfold tk3
  simp only [symsB]
  rw [s _ 0 (by omega) h1]
  simp only
  rw [s _ (0 + 1) (by omega) h2]
  simp only
  rw [s _ (0 + 1 + 1) (by omega) h3]
theorem nb_inj {a b : Nat} (ha : a < 18) (hb : b < 18) (h : nb a = nb b) : a = b := by
  unfold nb at h
  have := congrArg UInt8.toNat h
  rw [UInt8.toNat_ofNat', UInt8.toNat_ofNat', Nat.mod_eq_of_lt (by omega), Nat.mod_eq_of_lt (by omega)] at this
  omega
theorem rn_inj {i j : Nat} (hi : i < 5000) (hj : j < 5000) (h : RN i = RN j) : i = j := by
  unfold RN tk3 at h
  simp only [List.map_cons, List.map_nil, List.cons.injEq, and_true, true_and] at h
  obtain ⟨h1, h2, h3⟩ := h
  have e1 := nb_inj (by omega) (by omega) h1
  have e2 := nb_inj (by omega) (by omega) h2
  have e3 := nb_inj (by omega) (by omega) h3
  omega
theorem fresh {i : Nat} (hi : i < 5000) : ((List.range i).map RN).contains (RN i) = false := by
  rw [Bool.eq_false_iff]
  intro h
  rw [List.contains_iff_mem] at h
  obtain ⟨j, hj, he⟩ := List.mem_map.1 h
  have hj' := List.mem_range.1 hj
  have := rn_inj (by omega) hi he
  omega
theorem sides_built (lf : Nme → Bool) : ∀ (m i : Nat), i + m ≤ 300 → sidesB lf [115] ⟨T18, [[115]], (List.range i).map RN⟩ ((List.range' i m).map sideOf) = .ok ⟨T18, [[115]], (List.range (i + m)).map RN⟩
  | 0, i, h => rfl
  | m + 1, i, h => by
    have ih := sides_built lf m (i + 1) (by omega)
    have hs : sideB lf ⟨T18, [[115]], (List.range i).map RN⟩ [115] (sideOf i) = .ok ⟨T18, [[115]], (List.range (i + 1)).map RN⟩ := by
      unfold sideB sideOf
      simp only
      rw [if_neg (by simp; omega), syms_many lf _ _ (by omega)]
      simp only
      rw [show ([115] : Nme) :: (tk3 i).map Tk.s = RN i from rfl, fresh (by omega), List.range_succ, List.map_append]
      rfl
    rw [List.range'_succ, List.map_cons]
    simp only [sidesB, hs]
    rw [ih, show i + 1 + m = i + (m + 1) by omega]
theorem sides_many_err (lf : Nme → Bool) : ∀ (m i : Nat), i ≤ 300 → 300 < i + m → sidesB lf [115] ⟨T18, [[115]], (List.range i).map RN⟩ ((List.range' i m).map sideOf) = .error (7, 67 + 9 * 300)
  | 0, i, h, h2 => by omega
  | m + 1, i, h, h2 => by
    rw [List.range'_succ, List.map_cons]
    by_cases hi : i = 300
    · subst hi
      have hs : sideB lf ⟨T18, [[115]], (List.range 300).map RN⟩ [115] (sideOf 300) = .error (7, 67 + 9 * 300) := by
        unfold sideB sideOf
        simp only
        rw [if_pos (by simp)]
      simp only [sidesB, hs]
    · have ih := sides_many_err lf m (i + 1) (by omega) (by omega)
      have hs : sideB lf ⟨T18, [[115]], (List.range i).map RN⟩ [115] (sideOf i) = .ok ⟨T18, [[115]], (List.range (i + 1)).map RN⟩ := by
        unfold sideB sideOf
        simp only
        rw [if_neg (by simp; omega), syms_many lf _ _ (by omega)]
        simp only
        rw [show ([115] : Nme) :: (tk3 i).map Tk.s = RN i from rfl, fresh (by omega), List.range_succ, List.map_append]
        rfl
      simp only [sidesB, hs]
      exact ih
theorem rules_many (k : Nat) (lf : Nme → Bool) : rulesB lf 18 ⟨T18, [], []⟩ [⟨⟨1, [115], 63⟩, sidesOf k⟩] = match sidesB lf [115] ⟨T18, [[115]], []⟩ (sidesOf k) with | .error e => .error e | .ok b => .ok b := by
  have hl : leftB 18 ⟨T18, [], []⟩ ⟨1, [115], 63⟩ = .ok ⟨T18, [[115]], []⟩ := by kernel_rfl
  simp only [rulesB, ruleB, hl]
  cases sidesB lf [115] ⟨T18, [[115]], []⟩ (sidesOf k) <;> rfl
theorem build_many (k : Nat) : buildL (txtOf k) = match sidesB (leftOf (txtOf k)) [115] ⟨T18, [[115]], []⟩ (sidesOf k) with | .error e => .error e | .ok b => .ok (gramL (txtOf k) b) := by
  unfold buildL
  rw [heads_built]
  simp only
  have h := rules_many k (leftOf (txtOf k))
  have hlen : T18.length = 18 := rfl
  have hr : (txtOf k).rules = [⟨⟨1, [115], 63⟩, sidesOf k⟩] := rfl
  rw [hlen, hr, h]
  cases sidesB (leftOf (txtOf k)) [115] ⟨T18, [[115]], []⟩ (sidesOf k) <;> rfl
theorem parse_form (k : Nat) (hk : k < 400) : parseL (manyL k) = buildL (txtOf k) := by
  unfold parseL
  rw [many_tokens k hk]
  simp only
  rw [form_many]
theorem many_none : ∃ g, parseL (manyL 0) = .ok g ∧ g.R.length = 1 := by
  have h : (match parseL (manyL 0) with | .ok g => g.R.length | .error _ => 0) = 1 := by kernel_rfl
  cases hp : parseL (manyL 0) with
  | error e => rw [hp] at h; cases h
  | ok g => rw [hp] at h; exact ⟨g, rfl, h⟩
theorem many_ok (k : Nat) (h0 : 0 < k) (hk : k ≤ 300) : ∃ g, parseL (manyL k) = .ok g ∧ g.R.length = k := by
  have hs : sidesOf k = (List.range' 0 k).map sideOf := by unfold sidesOf; rw [if_neg (by omega), List.range_eq_range']
  have h := sides_built (leftOf (txtOf k)) k 0 (by omega)
  rw [← hs, Nat.zero_add] at h
  refine ⟨gramL (txtOf k) ⟨T18, [[115]], (List.range k).map RN⟩, ?_, ?_⟩
  · rw [parse_form k (by omega), build_many]
    have h' : sidesB (leftOf (txtOf k)) [115] ⟨T18, [[115]], []⟩ (sidesOf k) = .ok ⟨T18, [[115]], (List.range k).map RN⟩ := h
    rw [h']
  · show (((List.range k).map RN).map _).length = k
    simp
theorem many_err (k : Nat) (h0 : 300 < k) (hk : k < 400) : parseL (manyL k) = .error (7, 2767) := by
  have hs : sidesOf k = (List.range' 0 k).map sideOf := by unfold sidesOf; rw [if_neg (by omega), List.range_eq_range']
  have h := sides_many_err (leftOf (txtOf k)) k 0 (by omega) (by omega)
  rw [← hs] at h
  rw [parse_form k hk, build_many]
  have h' : sidesB (leftOf (txtOf k)) [115] ⟨T18, [[115]], []⟩ (sidesOf k) = .error (7, 67 + 9 * 300) := h
  rw [h']
end Go.Proofs.YtdbmeocpjopdhaaDoor

namespace Go.Proofs.YtdbmeocpjopdhaaDoor
open Go.RowKit
set_option linter.unusedVariables false
/-- The text so far: the names declared, then the rules. -/
def hd0 (j : Nat) : List UInt8 := [37, 116, 111, 107, 101, 110] ++ (List.range j).flatMap fun i => [32, 116, nb i]
def ruT (i : Nat) : List UInt8 := (if i = 0 then [] else [124]) ++ nm3 i
def bodyL (i : Nat) : List UInt8 := hd0 18 ++ [37, 37, 32, 115, 32, 58, 32] ++ (List.range i).flatMap ruT
theorem hd0_len (j : Nat) : (hd0 j).length = 6 + 3 * j := by
  unfold hd0
  rw [List.length_append]
  have : ∀ j : Nat, ((List.range j).flatMap fun i => [32, 116, nb i]).length = 3 * j := by
    intro j
    induction j with
    | zero => rfl
    | succ j ih => rw [List.range_succ, List.flatMap_append, List.length_append, ih]; simp; omega
  rw [this]
  rfl
theorem str_lit (l : List UInt8) : (⟨l.toArray⟩ : ByteArray) = str l := rfl
theorem hd0_next (j : Nat) : str (hd0 j) ++ ⟨#[32]⟩ ++ ⟨#[116, nb j]⟩ = str (hd0 (j + 1)) := by
  rw [str_lit [32], str_lit [116, nb j], str_append, str_append]
  congr 1
  unfold hd0
  rw [List.range_succ, List.flatMap_append]
  simp
theorem nb_nat {j : Nat} (h : j < 18) : ((nb j).toNat : Int) = 97 + (j : Int) := by
  unfold nb
  rw [UInt8.toNat_ofNat', Nat.mod_eq_of_lt (by omega)]
  omega
theorem ruT_len (i : Nat) : (ruT i).length = if i = 0 then 8 else 9 := by
  unfold ruT nm3
  by_cases h : i = 0
  · rw [if_pos h, if_pos h]; rfl
  · rw [if_neg h, if_neg h]; rfl
theorem bodyL_next (i : Nat) : bodyL (i + 1) = bodyL i ++ ruT i := by
  unfold bodyL
  rw [List.range_succ, List.flatMap_append]
  simp
theorem bodyL_len (i : Nat) : (bodyL i).length = 67 + (9 * i - 1) := by
  induction i with
  | zero => unfold bodyL; rw [List.length_append, List.length_append, hd0_len]; rfl
  | succ i ih =>
    rw [bodyL_next, List.length_append, ih, ruT_len]
    by_cases h : i = 0
    · subst h; rfl
    · rw [if_neg h]; omega
theorem body_first : str (bodyL 0) ++ ⟨(nm3 0).toArray⟩ = str (bodyL 1) := by
  rw [bodyL_next, str_lit, str_append]
  rfl
theorem body_next {i : Nat} (h : i ≠ 0) : str (bodyL i) ++ ⟨#[124]⟩ ++ ⟨(nm3 i).toArray⟩ = str (bodyL (i + 1)) := by
  rw [bodyL_next, str_lit (nm3 i), str_lit [124], str_append, str_append]
  unfold ruT
  rw [if_neg h, List.append_assoc]
theorem hdT_eq (t : List UInt8) : ∀ (m j : Nat), hdT t j m = ((List.range' j m).flatMap fun i => [32, 116, nb i]) ++ ([37, 37, 32, 115, 32, 58, 32] ++ t)
  | 0, j => rfl
  | m + 1, j => by
    rw [List.range'_succ, List.flatMap_cons, List.append_assoc, ← hdT_eq t m (j + 1)]
    rfl
theorem restT_eq : ∀ (m i : Nat), 1 ≤ i → restT i m = (List.range' i m).flatMap ruT ++ [59]
  | 0, i, h => rfl
  | m + 1, i, h => by
    rw [List.range'_succ, List.flatMap_cons, List.append_assoc, ← restT_eq m (i + 1) (by omega)]
    unfold ruT
    rw [if_neg (by omega)]
    rfl
theorem body_many (k : Nat) : bodyL k ++ [59] = manyL k := by
  unfold bodyL manyL hd0
  rw [hdT_eq, List.range_eq_range' (n := 18)]
  simp only [List.append_assoc]
  congr 3
  by_cases h : k = 0
  · subst h; rfl
  · rw [if_neg h, List.range_eq_range', show k = (k - 1) + 1 by omega, List.range'_succ, List.flatMap_cons, List.append_assoc, ← restT_eq (k - 1) (0 + 1) (by omega), Nat.add_sub_cancel]
    rfl
def bcs (l : List UInt8) : List Value := l.map fun c => .int .u8 c.toNat
theorem conv_str (w : World) (l : List UInt8) : (convert 23 9 (.slice (some ⟨w.heap.size, 0, none⟩) l.length l.length)).run Tryd.prog (w.alloc (.cells (bcs l).toArray 5)) = .ok (.string ⟨l.toArray⟩) (w.alloc (.cells (bcs l).toArray 5)) := by
  refine run_convert_bytes_back (P := Tryd.prog) _ 23 9 5 ⟨w.heap.size, 0, none⟩ l.length l Tryd.underlying23 Tryd.underlying5 Tryd.underlying9 fun j hj => ?_
  have hadd : (⟨w.heap.size, 0, none⟩ : Addr).add j = ⟨w.heap.size, j, none⟩ := by unfold Addr.add; split <;> simp_all
  rw [hadd, (Blk.new w 5 _).cell j]
  simp [bcs, hj]
theorem conv_rule (w : World) {j : Nat} (h : j < 5000) : (convert 23 9 (.slice (some ⟨w.heap.size, 0, none⟩) 8 8)).run Tryd.prog (w.alloc (.cells #[.int .u8 116, .int .u8 (97 + (j : Int) % 18), .int .u8 32, .int .u8 116, .int .u8 (97 + (j : Int) / 18 % 18), .int .u8 32, .int .u8 116, .int .u8 (97 + (j : Int) / 324)] 5))
    = .ok (.string ⟨(nm3 j).toArray⟩) (w.alloc (.cells #[.int .u8 116, .int .u8 (97 + (j : Int) % 18), .int .u8 32, .int .u8 116, .int .u8 (97 + (j : Int) / 18 % 18), .int .u8 32, .int .u8 116, .int .u8 (97 + (j : Int) / 324)] 5)) := by
  have h1 : 97 + (j : Int) % 18 = ((nb (j % 18)).toNat : Int) := by rw [nb_nat (by omega)]; omega
  have h2 : 97 + (j : Int) / 18 % 18 = ((nb (j / 18 % 18)).toNat : Int) := by rw [nb_nat (by omega)]; omega
  have h3 : 97 + (j : Int) / 324 = ((nb (j / 324)).toNat : Int) := by rw [nb_nat (by omega)]; omega
  rw [h1, h2, h3]
  exact conv_str w (nm3 j)
set_option maxRecDepth 100000 in
set_option maxHeartbeats 3200000 in
theorem many_law0 (n : Nat) (hn : n < 65536) {w : World} (hm : HasMax w) (hg : HasType w) : Calls Tryd.prog 3 #[.int .u16 n] w (Says w true) := by
  have HA : Hid (∀ y, Below w.heap.size w y → Calls Tryd.prog 6 #[] y (Says y true)) := Lib.hid (fun y hy => awake7_any (hm.later hy) (hg.later hy))
  have HP := Lib.hid (fun (s : ByteArray) (hs : s.size ≤ 10000) (y : World) (hy : Below w.heap.size w y) => parse_any s (by omega) y (hm.later hy))
  have HT : Hid (∀ y, Below w.heap.size w y → HasType y) := Lib.hid (fun y hy => hg.later hy)
  have n1 := neq_err
  have n2 := neq_err_nil
  have n3 := eql_err_nil
  clear hm hg
  go_enter Tryd.func3, Tryd.ntmps3
  go_wp2
  go_loopw [4, 5] (fun t i wr => ∃ j : Nat, j ≤ 18 ∧ i = .int .i64 j ∧ t = .string (str (hd0 j)) ∧ Hid (Below w.heap.size w wr)) (fun _ i _ => 18 - (intOf i).toNat)
  case atStart => exact ⟨0, by omega, rfl, rfl, Lib.hid (Below.refl _ _)⟩
  case round =>
    obtain ⟨j, hj, rfl, rfl, HB⟩ := hrel
    by_cases hlt : j < 18
    · have hsz : (str (hd0 j)).size = 6 + 3 * j := by rw [str_size]; exact hd0_len j
      have hnew : str (hd0 j) ++ ⟨#[32]⟩ ++ ⟨#[116, nb j]⟩ = str (hd0 (j + 1)) := hd0_next j
      have HNEW := Lib.hid hnew
      generalize str (hd0 j) = t at *
      have z1 : ¬ (9223372036854775807 < t.size + 1) := by omega
      have z2 : t.size + 1 ≤ 9223372036854775807 := by omega
      have z3 : ¬ (9223372036854775807 < t.size + 1 + 2) := by omega
      have z4 : t.size + 1 + 2 ≤ 9223372036854775807 := by omega
      have cv : (convert 23 9 (.slice (some ⟨wr.heap.size, 0, none⟩) 2 2)).run Tryd.prog (wr.alloc (.cells #[.int .u8 116, .int .u8 (nb j).toNat] 5)) = .ok (.string ⟨#[116, nb j]⟩) (wr.alloc (.cells #[.int .u8 116, .int .u8 (nb j).toNat] 5)) := conv_str wr [116, nb j]
      rw [nb_nat hlt] at cv
      clear hsz hnew
      go_wp2
      go_roundw
      case rel => exact ⟨j + 1, by omega, by go_num, by rw [HNEW.out], Lib.hid (HB.out.alloc HB.out.size _)⟩
      case measure => simp [intOf]; omega
    · obtain rfl : j = 18 := by omega
      rename World => w9
      have hs0 : str (hd0 18) ++ ⟨#[37, 37, 32, 115, 32, 58, 32]⟩ = str (bodyL 0) := by rw [str_lit [37, 37, 32, 115, 32, 58, 32], str_append]; rfl
      have hz0 : (str (hd0 18)).size = 60 := by rw [str_size]; exact hd0_len 18
      have HS0 := Lib.hid hs0
      generalize str (hd0 18) = t0 at *
      have z1 : ¬ (9223372036854775807 < t0.size + 7) := by omega
      have z2 : t0.size + 7 ≤ 9223372036854775807 := by omega
      clear hs0 hz0
      have hn0 : (n : Int) % 400 = ((n % 400 : Nat) : Int) := by omega
      have hn4 : n % 400 < 400 := by omega
      rw [hn0]
      generalize n % 400 = k at *
      go_wp2
      rw [HS0.out]
      clear z1 z2 HS0
      go_loopw [4, 6, 7] (fun t a i wr => ∃ (j : Nat) (q : Int), j ≤ k ∧ i = .int .i64 j ∧ t = .string (str (bodyL j)) ∧ a = .int .i64 q ∧ Hid (q = if 300 < j then 2767 else 0) ∧ Hid (Below w.heap.size w wr)) (fun _ _ i _ => k - (intOf i).toNat)
      case atStart => exact ⟨0, 0, by omega, rfl, rfl, rfl, Lib.hid rfl, HB⟩
      case round =>
        obtain ⟨j, q, hj, rfl, rfl, rfl, HQ, HB⟩ := hrel
        by_cases hlt : j < k
        · have hsz : (str (bodyL j)).size = 67 + (9 * j - 1) := by rw [str_size]; exact bodyL_len j
          by_cases h0 : j = 0
          · subst h0
            have cv : (convert 23 9 (.slice (some ⟨wr.heap.size, 0, none⟩) 8 8)).run Tryd.prog (wr.alloc (.cells #[.int .u8 116, .int .u8 97, .int .u8 32, .int .u8 116, .int .u8 97, .int .u8 32, .int .u8 116, .int .u8 97] 5)) = .ok (.string ⟨#[116, 97, 32, 116, 97, 32, 116, 97]⟩) (wr.alloc (.cells #[.int .u8 116, .int .u8 97, .int .u8 32, .int .u8 116, .int .u8 97, .int .u8 32, .int .u8 116, .int .u8 97] 5)) := conv_str wr [116, 97, 32, 116, 97, 32, 116, 97]
            have HNEW : Hid (str (bodyL 0) ++ ⟨#[116, 97, 32, 116, 97, 32, 116, 97]⟩ = str (bodyL 1)) := Lib.hid body_first
            have HQ2 : Hid (q = if 300 < 0 + 1 then 2767 else 0) := Lib.hid HQ.out
            generalize str (bodyL 0) = t at *
            have z1 : ¬ (9223372036854775807 < t.size + 8) := by omega
            have z2 : t.size + 8 ≤ 9223372036854775807 := by omega
            clear hsz HQ
            go_wp2
            go_roundw
            case rel => exact ⟨0 + 1, q, by omega, by go_num, by rw [HNEW.out], rfl, HQ2, Lib.hid (HB.out.alloc HB.out.size _)⟩
            case measure => simp [intOf]; omega
          · have cv := conv_rule wr (j := j) (by omega)
            have HNEW := Lib.hid (body_next h0)
            have q0 : (0 : Int) < (j : Int) := by omega
            generalize str (bodyL j) = t at *
            have z1 : ¬ (9223372036854775807 < t.size + 1) := by omega
            have z2 : t.size + 1 ≤ 9223372036854775807 := by omega
            have z3 : ¬ (9223372036854775807 < t.size + 1 + 8) := by omega
            have z4 : t.size + 1 + 8 ≤ 9223372036854775807 := by omega
            have hnm : (⟨(nm3 j).toArray⟩ : ByteArray).size = 8 := rfl
            generalize (⟨(nm3 j).toArray⟩ : ByteArray) = tn at *
            by_cases h3 : j = 300
            · have q3 : ((j : Int) == 300) = true := beq_iff_eq.2 (by omega)
              have HJ := Lib.hid h3
              have HSZ := Lib.hid hsz
              clear hsz HQ h0 h3
              go_wp2
              go_roundw
              case rel =>
                refine ⟨j + 1, _, by omega, by go_num, by rw [HNEW.out], rfl, Lib.hid ?_, Lib.hid (HB.out.alloc HB.out.size _)⟩
                rw [if_pos (by have := HJ.out; omega)]
                have h1 := HSZ.out
                have h2 := HJ.out
                subst h2
                first | omega | (simp; omega) | trace_state
              case measure => simp [intOf]; omega
            · have q3 : ((j : Int) == 300) = false := beq_eq_false_iff_ne.2 (by omega)
              have HQ2 : Hid (q = if 300 < j + 1 then 2767 else 0) := Lib.hid (by
                rw [HQ.out]
                by_cases h : 300 < j
                · rw [if_pos h, if_pos (by omega)]
                · rw [if_neg h, if_neg (by omega)])
              clear hsz HQ h0 h3
              go_wp2
              go_roundw
              case rel => exact ⟨j + 1, q, by omega, by go_num, by rw [HNEW.out], rfl, HQ2, Lib.hid (HB.out.alloc HB.out.size _)⟩
              case measure => simp [intOf]; omega
        · obtain rfl : j = k := by omega
          have hsz : (str (bodyL j)).size = 67 + (9 * j - 1) := by rw [str_size]; exact bodyL_len j
          have hfin : str (bodyL j) ++ ⟨#[59]⟩ = str (manyL j) := by rw [str_lit [59], str_append, body_many]
          have hfs : (str (manyL j)).size ≤ 10000 := by rw [← hfin, ByteArray.size_append]; show (str (bodyL j)).size + 1 ≤ 10000; omega
          have HPK := Lib.hid (fun (y : World) (hy : Below w.heap.size w y) => HP.out (str (manyL j)) hfs y hy)
          rw [data_str, ← hfin] at HPK
          generalize str (bodyL j) = t at *
          have z1 : ¬ (9223372036854775807 < t.size + 1) := by omega
          have z2 : t.size + 1 ≤ 9223372036854775807 := by omega
          clear hsz hfin hfs HP
          by_cases h0 : j = 0
          · subst h0
            obtain ⟨g, hg1, hg2⟩ := many_none
            rw [hg1] at HPK
            clear hg1 HQ
            go_wp2_with fail
            refine (HPK.out _ HB.out).mono ?_
            rintro e w2 ⟨hb2, tv, nv, Rv, R, rfl, hhas⟩
            have HB2 := Lib.hid (HB.out.trans (hb2.mono HB.out.size))
            obtain ⟨A1, c1, rfl⟩ := own_shape hhas.ft
            obtain ⟨A2, c2, rfl⟩ := own_shape hhas.fn
            obtain ⟨A3, c3, rfl⟩ := own_shape hhas.fR
            have hRl : R.length = g.R.length := by rw [← hhas.r, List.length_map]
            have HBX := Lib.hid (HB2.out.trans ((below_alloc w2 (.cells #[.slice A1 g.T.length c1, .slice A2 g.N.length c2, .slice A3 R.length c3, .int .i64 g.s] 27)).mono HB2.out.size))
            clear hb2 hhas HPK
            generalize g.T.length = gT at *
            generalize g.N.length = gN at *
            generalize g.s = gs at *
            have qr : ((R.length : Int) == 1) = true := beq_iff_eq.2 (by omega)
            clear hRl hg2
            go_wp2_with fail
            refine (HA.out _ HBX.out).mono ?_
            rintro e w3 ⟨rfl, hb3⟩
            have HB3 := Lib.hid (HBX.out.trans (hb3.mono HBX.out.size))
            clear hb3
            go_wp2
            go_ret
            exact ⟨rfl, HB3.out⟩
          have q0 : ((j : Int) == 0) = false := beq_eq_false_iff_ne.2 (by omega)
          by_cases h3 : 300 < j
          · have hq := HQ.out
            rw [if_pos h3] at hq
            subst hq
            rw [many_err j h3 (by omega)] at HPK
            have q3 : (300 : Int) < (j : Int) := by omega
            clear h0 h3 HQ
            go_wp2_with fail
            refine (HPK.out _ HB.out).mono ?_
            rintro e w2 ⟨hb2, v, rfl, hv⟩
            have HB2 := Lib.hid (HB.out.trans (hb2.mono HB.out.size))
            have HE := Lib.hid (err_of hv)
            obtain ⟨b, rfl, _⟩ := hv
            have HBZ := Lib.hid (below_alloc w2 (.cells #[.slice none 0 0, .slice none 0 0, .slice none 0 0, .int .i64 0] 27))
            have HBX := Lib.hid (HB2.out.trans (HBZ.out.mono HB2.out.size))
            have HC := Lib.hid (fun y (hy : Below w2.heap.size w2 y) => code_some (HE.out.later hy) (HT.out y (HB2.out.trans (hy.mono HB2.out.size))))
            have HAT := Lib.hid (fun y (hy : Below w2.heap.size w2 y) => at_some (HE.out.later hy) (HT.out y (HB2.out.trans (hy.mono HB2.out.size))))
            clear hb2 HPK
            go_wp2_with fail
            refine (HC.out _ HBZ.out).mono ?_
            rintro e w3 ⟨rfl, hb3⟩
            have HB3 := Lib.hid (HBX.out.trans (hb3.mono HBX.out.size))
            have HBZ3 := Lib.hid (HBZ.out.trans (hb3.mono HBZ.out.size))
            clear hb3
            go_wp2_with fail
            refine (HAT.out _ HBZ3.out).mono ?_
            rintro e w4 ⟨rfl, hb4⟩
            have HB4 := Lib.hid (HB3.out.trans (hb4.mono HB3.out.size))
            clear hb4
            go_wp2_with fail
            refine (HA.out _ HB4.out).mono ?_
            rintro e w5 ⟨rfl, hb5⟩
            have HB5 := Lib.hid (HB4.out.trans (hb5.mono HB4.out.size))
            clear hb5
            go_wp2
            go_ret
            exact ⟨rfl, HB5.out⟩
          · obtain ⟨g, hg1, hg2⟩ := many_ok j (by omega) (by omega)
            rw [hg1] at HPK
            have q3 : ¬ (300 : Int) < (j : Int) := by omega
            clear hg1 HQ h0 h3
            go_wp2_with fail
            refine (HPK.out _ HB.out).mono ?_
            rintro e w2 ⟨hb2, tv, nv, Rv, R, rfl, hhas⟩
            have HB2 := Lib.hid (HB.out.trans (hb2.mono HB.out.size))
            obtain ⟨A1, c1, rfl⟩ := own_shape hhas.ft
            obtain ⟨A2, c2, rfl⟩ := own_shape hhas.fn
            obtain ⟨A3, c3, rfl⟩ := own_shape hhas.fR
            have hRl : R.length = g.R.length := by rw [← hhas.r, List.length_map]
            have HBX := Lib.hid (HB2.out.trans ((below_alloc w2 (.cells #[.slice A1 g.T.length c1, .slice A2 g.N.length c2, .slice A3 R.length c3, .int .i64 g.s] 27)).mono HB2.out.size))
            clear hb2 hhas HPK
            generalize g.T.length = gT at *
            generalize g.N.length = gN at *
            generalize g.s = gs at *
            have qr : ((R.length : Int) == (j : Int)) = true := beq_iff_eq.2 (by omega)
            clear hRl hg2
            go_wp2_with fail
            refine (HA.out _ HBX.out).mono ?_
            rintro e w3 ⟨rfl, hb3⟩
            have HB3 := Lib.hid (HBX.out.trans (hb3.mono HBX.out.size))
            clear hb3
            go_wp2
            go_ret
            exact ⟨rfl, HB3.out⟩
end Go.Proofs.YtdbmeocpjopdhaaDoor

namespace Go.Proofs.YtdbmeocpjopdhaaDoor
open Go.ChangeShapes Go.WideShapes Go.ChangeAt Go.RowKit
open Go.ChangeMaps (open_string)
set_option linter.unusedVariables false
theorem wf_u16 {n : Int} (h : (Lit.int .u16 n).wf = true) : 0 ≤ n ∧ n ≤ 65535 := by
  unfold Lit.wf at h
  rw [Bool.and_eq_true, decide_eq_true_iff, decide_eq_true_iff] at h
  exact h
theorem max_shaped {w : World} (h : w.ShapedOpen Tryd.prog) : HasMax w :=
  Go.Proofs.cell_of_shapedOpen_int (zero := #[.int .i64 0]) (t := 3) h (of_decide_eq_true (by kernel_rfl)) (by kernel_rfl) rfl (by kernel_rfl) (by kernel_rfl) Tryd.underlying3
theorem many_own : ownKnob Tryd.prog.godebug = none := by kernel_rfl
theorem many_laid : laidOutB Tryd.prog = true := by kernel_rfl
theorem et_named : Tryd.prog.globalNamed "errors.errorType" = some 0 := by kernel_rfl
theorem rt_named : (Tryd.prog.cutTypes.find? (·.1 == "internal/reflectlite.rtype")).map (·.2) = some 119 := by kernel_rfl
theorem one_row : ((List.range Tryd.prog.types.size).filter fun t => Tryd.prog.rowNamed t [101, 114, 114, 111, 114]) = [29] := by kernel_rfl
theorem hasType_of_laid {W : World} (h : laidMetH Tryd.prog Rows.greadManyRow.laid W) : HasType W := by
  have h' : laidMet Tryd.prog [] W ∧ handlesMet Tryd.prog Rows.greadManyRow.laid W := h
  obtain ⟨name, u, ty, e1, e2, e3, e4, e5⟩ := h'.2 _ (List.mem_singleton.2 rfl)
  have en : name = [101, 114, 114, 111, 114] := (Option.some.inj e1).symm
  subst en
  obtain rfl := Option.some.inj (rt_named.symm.trans e2)
  have hm : ty ∈ (List.range Tryd.prog.types.size).filter fun t => Tryd.prog.rowNamed t [101, 114, 114, 111, 114] := List.mem_filter.2 ⟨List.mem_range.2 e3, e4⟩
  rw [one_row] at hm
  obtain rfl := List.mem_singleton.1 hm
  have hh : typeHandle Tryd.prog 29 = .pointer (some ⟨2, 29, none⟩) := by kernel_rfl
  rw [hh] at e5
  have := World.var?_cell et_named e5 0
  simp at this
  exact this
/-- A world that meets the condition: the settled one, the variable's cell laid. -/
noncomputable def laidWorld (os : Os) : World :=
  let w0 := World.holding Tryd.prog os ⟨#[], #[], []⟩
  { w0 with heap := w0.heap.modify 0 fun
      | .cells _ t frozen => .cells #[.iface 119 (.agg #[.pointer (some ⟨2, 29, none⟩)])] t frozen
      | o => o }
theorem laidWorld_met (os : Os) (args : Array Value) : laidMetH Tryd.prog Rows.greadManyRow.laid ((laidWorld os).forCall (fun _ _ => 0) ⟨#[], args, []⟩).memory :=
  laidMetH_of_parts (laidMet_nil _ _) (by kernel_rfl)
/-- As returnsInHanded_of_change_and, the world's shape kept. -/
theorem handed_and_shaped {H : Type} {enc : TypeId × Value → H} {a : Assume} {C : Checked} {os : Os} {f : FuncId} {fn : Func} {s : ChangeSpec} {conds : List PathCond} {apart fresh handsOn again : Bool} {X : World → Array Value → Prop}
    (hX : ∀ (w w' : World) (args : Array Value), w.heap = w'.heap → X w args → X w' args)
    (own : ownKnob C.prog.godebug = none) (started : os.Started) (noInit : C.prog.inits.idxOf? f = none) (hfn : C.prog.funcs[f]? = some fn)
    (witness : ∃ (w : World) (tape : Tape) (i : Input), w.os = os ∧ (w.forCall tape i).Shaped C.prog ∧ i.vars = [] ∧ Input.okWide C.prog (w.forCall tape i) .any w.heap.size f i ∧
      ((s.pre enc C.prog fn conds apart (w.forCall tape i).memory i.args ∧ X (w.forCall tape i).memory i.args) ∧ sizedMet enc C.prog fn (OpenSpec.ofChange s) apart (w.forCall tape i).memory i.args) ∧ a.holds C.prog (lone (Frame.enter C.prog f i.args .normal) [] (w.forCall tape i)))
    (contract : ∀ (W : World) (base : Nat) (args : Array Value) (ds gs : List (DataW H)) (before : List MemPlace),
      (∀ (j : Nat) t v, fn.params[j]? = some t → args[j]? = some v → Value.okWide C.prog W .any base t v) →
      DataW.Whole enc C.prog fn.params.toList s.vars apart W args.toList ds gs before → W.ShapedOpen C.prog → X W args →
      Calls C.prog f args W fun e W' => ∃ v, e = .returned v ∧ s.post enc C.prog fn apart fresh handsOn again W args v W') :
    ReturnsInHanded a C os f .any (fun w args => (s.pre enc C.prog fn conds apart w args ∧ X w args) ∧ sizedMet enc C.prog fn (OpenSpec.ofChange s) apart w args) (s.post enc C.prog fn apart fresh handsOn again) := by
  refine returnsInHanded_of_calls own started noInit witness ?_
  intro w tape i _ hsh _ hok hpre _
  obtain ⟨_, _, _, fn', hfn', _, _, _, _, hval⟩ := hok
  have e : fn' = fn := Option.some.inj (hfn'.symm.trans hfn)
  subst e
  obtain ⟨⟨⟨ds, gs, before, hw, hc⟩, hx⟩, hz⟩ := hpre
  have hw' := DataW.Whole.of_heap (w' := w.forCall tape i) (by rfl) hw
  refine (contract (w.forCall tape i) w.heap.size i.args ds gs before hval hw' hsh (hX _ _ _ (by rfl) hx)).mono fun e W' ⟨v, he, hp⟩ => ?_
  subst he
  exact ChangeSpec.post_blind hp
set_option maxRecDepth 100000 in
theorem many_lifted (os : Os) (started : os.Started) (H : Type) (enc : TypeId × Value → H) :
    ReturnsInHanded {} Tryd.checked os 3 .any (fun w args => (Rows.greadManySpec.pre enc Tryd.prog Tryd.f3 Rows.greadManyRow.domain false w args ∧ laidMetH Tryd.prog Rows.greadManyRow.laid w) ∧ sizedMet enc Tryd.prog Tryd.f3 (OpenSpec.ofChange Rows.greadManySpec) false w args)
      (Rows.greadManySpec.post enc Tryd.prog Tryd.f3 false true false false) := by
  refine handed_and_shaped (C := Tryd.checked) (X := fun w _ => laidMetH Tryd.prog Rows.greadManyRow.laid w) (fun _ _ _ hh h => h.of_heap hh) many_own started (by kernel_rfl) Tryd.func3
    (ChangeSpec.witness_at (enc := enc) (C := Tryd.checked) (os := os) (X := fun w _ => laidMetH Tryd.prog Rows.greadManyRow.laid w) false (laidWorld os) #[.int .u16 0] 8 rfl (by kernel_rfl) (by kernel_rfl) (by kernel_rfl) (by kernel_rfl) (by kernel_rfl) (laidWorld_met os _)) ?_
  intro W base args ds gs before hval0 hW hsh hL
  have hval : ∀ (j : Nat) t v, Tryd.f3.params[j]? = some t → args[j]? = some v → Value.okWide Tryd.prog W .any base t v := hval0
  have hW' := hW
  obtain ⟨p, q, hA0, hV, rfl, hfz, hnd⟩ := hW
  have hA : DataW.TrodAll enc Tryd.prog W 0 (fun _ => true) true Tryd.f3.params.toList args.toList ds p := hA0
  rw [Tryd.params3] at hA hval
  obtain ⟨v0, vs0, d0, ds0, p0, q0, hargs, rfl, rfl, h0, r0⟩ := trodAll_cons hA
  obtain ⟨rfl, rfl, rfl⟩ := trodAll_nil r0
  obtain rfl : args = #[v0] := by cases args; simp_all
  obtain ⟨rfl, rfl⟩ := trodVars_none hV
  obtain ⟨n, rfl, rfl, rfl, hwn⟩ := open_int Tryd.underlying22 (hval 0 22 v0 rfl rfl) h0
  obtain ⟨k, rfl, hk⟩ : ∃ k : Nat, n = k ∧ k < 65536 := by
    obtain ⟨h1, h2⟩ := wf_u16 hwn
    exact ⟨n.toNat, by omega, by omega⟩
  refine (many_law0 k hk (max_shaped hsh) (hasType_of_laid hL)).mono fun e W' ⟨he, hb⟩ => ?_
  subst he
  exact ⟨_, rfl, law_post hW' rfl rfl rfl Tryd.underlying4 many_laid (by decide +kernel) hb (ok_one (by kernel_rfl) rfl (okWide_bool_mk Tryd.underlying4 _))⟩
theorem many_row : Rows.GreadManySaid :=
  OpenClaim.holds_of_wide 3 Tryd.f3 rfl rfl rfl rfl rfl rfl rfl ⟨rfl, rfl, rfl, rfl, rfl⟩ rfl rfl rfl rfl rfl (by kernel_rfl) Tryd.func3 (by kernel_rfl)
    (of_decide_eq_true (by kernel_rfl)) (by unfold Func.isWrapper; first | (rw [if_pos (by decide +kernel)]; kernel_rfl) | (rw [if_neg (by decide +kernel)]; exact ⟨rfl, rfl⟩))
    (fun os started H enc _ => many_lifted os started H enc)
theorem many_holds : Rows.GreadManyCardSaid :=
  Claim7.holds_tied_plain_at .later [] [.handle] true _ true
    many_row (fun _ h => by cases h) (by kernel_rfl) (fun _ h => by cases h) greadMany_row_tie rfl ⟨rfl, rfl⟩ (by kernel_rfl) rfl
    (fun f fn hf hfn => by
      obtain rfl : f = 3 := Option.some.inj ((show Tryd.prog.funcNamed "conch/conchlaw07.GreadMany" = some 3 by kernel_rfl).symm.trans hf) |>.symm
      obtain rfl : fn = Tryd.f3 := (Option.some.inj (Tryd.func3.symm.trans hfn)).symm
      exact ⟨by kernel_rfl, fun j t ht => by
        rw [Tryd.params3] at ht
        have h3 : t = 22 := by
          rcases j with _ | j
          · simpa using ht.symm
          · simp at ht
        subst h3
        exact (show Tryd.prog.wantsStandIn 22 = false by kernel_rfl)⟩)
    (by kernel_rfl)
#print axioms many_holds
end Go.Proofs.YtdbmeocpjopdhaaDoor
