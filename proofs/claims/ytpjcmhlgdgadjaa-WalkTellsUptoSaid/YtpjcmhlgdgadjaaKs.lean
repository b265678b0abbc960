/- Much of parts: some number, the same in every world. The commands that Much counts. Much of nodes, of a word, of words: some number, the same in every world. Much of a node: some number, the same in every world. -/
import Derived.Test.YtpjcmhlgdgadjaaKr
import Derived.IntWalk
namespace Go.Proofs.Ytpjcmhlgdgadjaa
open Go.RowKit
set_option linter.unusedVariables false
theorem skol {α : Type} {P : α → Nat → Prop} {l : List α} (h : ∀ x ∈ l, ∃ v, P x v) : ∃ g : α → Nat, ∀ x ∈ l, P x (g x) := by
  classical
  exact ⟨fun x => if hx : x ∈ l then (h x hx).choose else 0, fun x hx => by simp only [dif_pos hx]; exact (h x hx).choose_spec⟩
/-- A count that ends once it is great. -/
def foldS (F : Tr → Nat) : Nat → List Tr → Nat
  | n, [] => n
  | n, x :: r => if n ≤ 1000 then foldS F (n + F x) r else n
theorem foldS_next {F : Tr → Nat} {m k R : Nat} {l : List Tr} (h : foldS F m (l.drop k) = R) (hk : k < l.length) (hm : m ≤ 1000) : foldS F (m + F l[k]) (l.drop (k + 1)) = R := by
  rw [List.drop_eq_getElem_cons hk] at h
  simp only [foldS, if_pos hm] at h
  exact h
theorem foldS_over {F : Tr → Nat} {m k R : Nat} {l : List Tr} (h : foldS F m (l.drop k) = R) (hk : k < l.length) (hm : ¬ m ≤ 1000) : m = R := by
  rw [List.drop_eq_getElem_cons hk] at h
  simp only [foldS, if_neg hm] at h
  exact h
theorem foldS_all {F : Tr → Nat} {m R : Nat} {l : List Tr} (h : foldS F m (l.drop l.length) = R) : m = R := by
  rw [List.drop_of_length_le (Nat.le_refl _)] at h
  exact h
theorem foldS_sz {F : Tr → Nat} : ∀ (l : List Tr) (n : Nat), (∀ x ∈ l, F x + 1 ≤ 2000000 * x.sz) → foldS F n l + l.length ≤ n + 2000000 * szL l
  | [], n, _ => by simp [foldS, szL]
  | x :: r, n, h => by
    have hx := h x (by simp)
    have hr := foldS_sz r (n + F x) (fun y hy => h y (by simp [hy]))
    have hr0 := foldS_sz r n (fun y hy => h y (by simp [hy]))
    have hl := szL_len r
    simp only [foldS, szL, List.length_cons]
    split <;> omega
theorem foldS_in {F : Tr → Nat} : ∀ (l : List Tr) (n : Nat), (∀ x ∈ l, F x ≤ 2000000 * szL (x.r 0)) → foldS F n l ≤ n + 2000000 * szL (l.flatMap (·.r 0))
  | [], n, _ => by simp [foldS, szL]
  | x :: r, n, h => by
    have hx := h x (by simp)
    have hr := foldS_in r (n + F x) (fun y hy => h y (by simp [hy]))
    simp only [foldS, List.flatMap_cons, szL_append]
    split <;> omega
/-- How many parts, those in commands left out. -/
def pzL : List Tr → Nat
  | [] => 0
  | p :: r => 1 + pzL (p.r 3) + pzL r
termination_by l => szL l
decreasing_by
  · have := p.sz_r 3; simp only [szL]; omega
  · have := p.sz_pos; simp only [szL]; omega
theorem pzL_nil : pzL [] = 0 := by rw [pzL]
theorem pzL_cons (p : Tr) (r : List Tr) : pzL (p :: r) = 1 + pzL (p.r 3) + pzL r := by rw [pzL]
theorem pzL_len (l : List Tr) : l.length ≤ pzL l := by
  induction l with
  | nil => simp
  | cons p r ih => rw [pzL_cons]; simp only [List.length_cons]; omega
theorem pzL_mem {p : Tr} {l : List Tr} (h : p ∈ l) : 1 + pzL (p.r 3) ≤ pzL l := by
  induction l with
  | nil => cases h
  | cons a l ih =>
    rw [pzL_cons]
    rcases List.mem_cons.1 h with rfl | h
    · omega
    · have := ih h; omega
theorem pzL_sz (N : Nat) : ∀ l, szL l ≤ N → pzL l ≤ szL l := by
  induction N with
  | zero =>
    intro l h
    cases l with
    | nil => rw [pzL_nil]; omega
    | cons p r => have := p.sz_pos; simp only [szL] at h; omega
  | succ N ih =>
    intro l
    induction l with
    | nil => intro _; rw [pzL_nil]; omega
    | cons p r ihr =>
      intro h
      simp only [szL] at h ⊢
      have h3 := p.sz_r 3
      have h4 := ih (p.r 3) (by omega)
      have h5 := ihr (by have := p.sz_pos; omega)
      rw [pzL_cons]
      omega
theorem foldS_pz {F : Tr → Nat} : ∀ (l : List Tr) (n : Nat), (∀ x ∈ l, F x + 1 ≤ 2000000 * (1 + pzL (x.r 3))) → foldS F n l + l.length ≤ n + 2000000 * pzL l
  | [], n, _ => by simp [foldS, pzL_nil]
  | x :: r, n, h => by
    have hx := h x (by simp)
    have hr := foldS_pz r (n + F x) (fun y hy => h y (by simp [hy]))
    have hl := pzL_len r
    simp only [foldS, pzL_cons, List.length_cons]
    split <;> omega
/-- What a part has itself, and what its kids come to. -/
def F24 (g : Tr → Nat) (p : Tr) : Nat := (p.s 1).size / 10 + (p.s 2).size / 10 + (p.r 4).length + g p
/-- Much answers v for these parts. -/
def M24 (l : List Tr) (v : Nat) : Prop := ∀ (A : Nat → Prop) (w : World) (u : Value), (∀ b, A b → b < w.heap.size) → szL l ≤ 1048576 → RowAt A w 5 u l → (∀ x ∈ l, Lies A w .part x) →
    v ≤ 2000000 * pzL l ∧ Calls Try.prog 43 #[u] w fun e w' => e = .returned (.int .i64 v) ∧ Below w.heap.size w w'
set_option maxRecDepth 100000 in
set_option maxHeartbeats 1600000 in
theorem much24_any (N : Nat) : ∀ l : List Tr, szL l ≤ N → ∃ v, M24 l v := by
  induction N with
  | zero =>
    intro l hl
    have hn : l = [] := by
      cases l with
      | nil => rfl
      | cons p r => have := p.sz_pos; simp only [szL] at hl; omega
    subst hn
    refine ⟨0, fun A w u hA hsz hr hk => ⟨Nat.zero_le _, ?_⟩⟩
    obtain ⟨a, c, rfl⟩ := hr.form
    clear hl hk hr hA hsz
    go_enter Try.func43, Try.ntmps43
    go_wp2
    go_loopw [3, 4] (fun n i wr => n = .int .i64 0 ∧ i = .int .i64 0 ∧ Hid (wr = w)) (fun _ i _ => 0)
    case atStart => exact ⟨rfl, rfl, Lib.hid rfl⟩
    case round =>
      obtain ⟨rfl, rfl, hS⟩ := hrel
      go_wp2
      go_ret
      exact ⟨rfl, by rw [hS.out]; exact Below.refl _ _⟩
  | succ N ih =>
  intro l hN
  obtain ⟨g, hg⟩ := skol (l := l) (P := fun x v => M24 (x.r 3) v) (fun x hx => ih (x.r 3) (by have := x.sz_r 3; have := szL_mem hx; omega))
  refine ⟨foldS (F24 g) l.length l, fun A w u hA hsz hr hk => ?_⟩
  have hcall : ∀ x ∈ l, ∀ y, Below w.heap.size w y → g x ≤ 2000000 * pzL (x.r 3) ∧ Calls Try.prog 43 #[x.c 3] y fun e w' => e = .returned (.int .i64 (g x)) ∧ Below y.heap.size y w' := fun x hx y hy => by
    have h3 := (hk x hx).later hA hy
    exact hg x hx A y _ (fun b hb => by have := hA b hb; have := hy.size; omega) (by have := x.sz_r 3; have := szL_mem hx; omega) (h3.row (i := 3) (u := .part) rfl) (h3.kids (i := 3) (u := .part) rfl)
  have hF : ∀ x ∈ l, F24 g x + 1 ≤ 2000000 * (1 + pzL (x.r 3)) := fun x hx => by
    have h1 := (hcall x hx w (Below.refl _ _)).1
    obtain ⟨zk, zs, zo, pa, pc, na, nc, ps, ns, rfl, b1, b2, -, b4, -, -⟩ := (hk x hx).part
    have b3 := b4.len
    have e1 : (Tr.mk [.int .i64 zk, .string zs, .string zo, .slice pa ps.length pc, .slice na ns.length nc] [[], [], [], ps, ns]).s 1 = zs := rfl
    have e2 : (Tr.mk [.int .i64 zk, .string zs, .string zo, .slice pa ps.length pc, .slice na ns.length nc] [[], [], [], ps, ns]).s 2 = zo := rfl
    have e3 : (Tr.mk [.int .i64 zk, .string zs, .string zo, .slice pa ps.length pc, .slice na ns.length nc] [[], [], [], ps, ns]).r 4 = ns := rfl
    unfold F24
    rw [e1, e2, e3]
    omega
  refine ⟨by have := foldS_pz l l.length hF; omega, ?_⟩
  obtain ⟨a, c, rfl⟩ := hr.form
  have hlen := hr.len
  have HFB : Hid (∀ x ∈ l, g x ≤ 2097152000000) := Lib.hid (fun x hx => by
    have h1 := hF x hx
    have h2 := pzL_mem hx
    have h3 := pzL_sz _ l (Nat.le_refl _)
    unfold F24 at h1
    omega)
  have HIH := Lib.hid (fun x hx y hy => (hcall x hx y hy).2)
  have HR := Lib.hid hr
  have HK := Lib.hid hk
  generalize hR : foldS (F24 g) l.length l = R
  have HRR := Lib.hid hR
  clear hr hk hA ih hN hg hcall hF hR
  go_enter Try.func43, Try.ntmps43
  go_wp2
  go_loopw [3, 4] (fun n i wr => ∃ k m : Nat, k ≤ l.length ∧ i = .int .i64 k ∧ n = .int .i64 m ∧ Hid (foldS (F24 g) m (l.drop k) = R) ∧ Hid (Below w.heap.size w wr)) (fun _ i _ => l.length - (intOf i).toNat)
  case atStart => exact ⟨0, l.length, Nat.zero_le _, rfl, rfl, HRR, Lib.hid (Below.refl _ _)⟩
  case round =>
    obtain ⟨k, m, hk, rfl, rfl, hT, hS⟩ := hrel
    by_cases hlt : k < l.length
    · by_cases hm : m ≤ 1000
      · have hx := List.getElem?_eq_getElem hlt
        obtain ⟨b, off, rfl, -, hb0, hcell⟩ := cells_at HR.out hx
        have hp := HK.out l[k] (List.getElem_mem hlt)
        have hgb := HFB.out l[k] (List.getElem_mem hlt)
        have hn := foldS_next hT.out hlt hm
        obtain ⟨I, hI1, hI2⟩ : ∃ I : World → Prop, (∀ w', I w' → Below w.heap.size w w') ∧ (∀ w', Below w.heap.size w w' → I w') := ⟨_, fun _ h => h, fun _ h => h⟩
        have hI : I wr.drew := hI2 _ (below_drew hS.out)
        have hne : Nonempty (Wd I) := ⟨⟨_, hI⟩⟩
        have XI := Lib.hid (fun x : Wd I => hI1 _ x.ok)
        have XS := Lib.hid (fun y : Wd I => wd_call (I := I) (v := .int .i64 (g l[k])) ((HIH.out l[k] (List.getElem_mem hlt) y.w (XI.out y)).mono fun e w' hh => ⟨hh.1, hI2 _ ((XI.out y).trans (hh.2.mono (XI.out y).size))⟩))
        clear hx hI1 hI2
        generalize l[k] = p at *
        obtain ⟨zk, T, O, pa, pc, na, nc, ps, ns, he, b1, b2, -, b4, -, -⟩ := hp.part
        have b3 := b4.len
        unfold F24 at hn
        have e1 : p.s 1 = T := by rw [he]; rfl
        have e2 : p.s 2 = O := by rw [he]; rfl
        have e3 : p.r 4 = ns := by rw [he]; rfl
        have e4 : p.c 3 = .slice pa ps.length pc := by rw [he]; rfl
        have e5 : p.cs = [.int .i64 zk, .string T, .string O, .slice pa ps.length pc, .slice na ns.length nc] := by rw [he]; rfl
        rw [e1, e2, e3] at hn
        rw [e4] at XS
        rw [e5] at hcell
        generalize g p = J at *
        generalize ns.length = cn at *
        have HN := Lib.hid hn
        have d1 := fun y : Wd I => ((XI.out y).cell (p := ⟨b, off + k * 5 + 1, none⟩) hb0).trans (hcell 1 (by omega))
        have d2 := fun y : Wd I => ((XI.out y).cell (p := ⟨b, off + k * 5 + 2, none⟩) hb0).trans (hcell 2 (by omega))
        have d3 := fun y : Wd I => ((XI.out y).cell (p := ⟨b, off + k * 5 + 3, none⟩) hb0).trans (hcell 3 (by omega))
        have d4 := fun y : Wd I => ((XI.out y).cell (p := ⟨b, off + k * 5 + 4, none⟩) hb0).trans (hcell 4 (by omega))
        simp only [List.getElem?_cons_zero, List.getElem?_cons_succ] at d1 d2 d3 d4
        clear hp hcell hn e1 e2 e3 e4 e5 he b4
        go_wp2_with fail
        have w1 : IntKind.i64.wrap ((T.size : Int) / 10) = (T.size : Int) / 10 := IntWalk.i64_in _ (by omega)
        have w2 : IntKind.i64.wrap ((O.size : Int) / 10) = (O.size : Int) / 10 := IntWalk.i64_in _ (by omega)
        have w3 : IntKind.i64.wrap ((m : Int) + (T.size : Int) / 10) = (m : Int) + (T.size : Int) / 10 := IntWalk.i64_in _ (by omega)
        have w4 : IntKind.i64.wrap ((m : Int) + (T.size : Int) / 10 + (O.size : Int) / 10) = (m : Int) + (T.size : Int) / 10 + (O.size : Int) / 10 := IntWalk.i64_in _ (by omega)
        have w5 : IntKind.i64.wrap ((m : Int) + (T.size : Int) / 10 + (O.size : Int) / 10 + cn) = (m : Int) + (T.size : Int) / 10 + (O.size : Int) / 10 + cn := IntWalk.i64_in _ (by omega)
        have w6 : IntKind.i64.wrap ((m : Int) + (T.size : Int) / 10 + (O.size : Int) / 10 + cn + J) = (m : Int) + (T.size : Int) / 10 + (O.size : Int) / 10 + cn + J := IntWalk.i64_in _ (by omega)
        refine wp_region_wd I (by kernel_rfl) (by kernel_rfl) hI ?_
        repeat (go_big_quiet_step (first | (go_at_call 43; with_reducible exact XS.out _)))
        refine wpQuiet_nil ?_
        intro _ hw'
        obtain ⟨x, rfl⟩ := hw'
        have HB3 := Lib.hid (XI.out x)
        have HNEW : Hid (((m : Int) + (T.size : Int) / 10 + (O.size : Int) / 10 + cn + J) = ((m + (T.size / 10 + O.size / 10 + cn + J) : Nat) : Int)) := Lib.hid (by omega)
        clear d1 d2 d3 d4 w1 w2 w3 w4 w5 w6
        go_wp2
        go_roundw
        case rel => exact ⟨k + 1, _, by omega, by go_num, by rw [← HNEW.out], HN, HB3⟩
        case measure => simp [intOf]; omega
      · have HO := Lib.hid (foldS_over hT.out hlt hm)
        have hm2 : ¬ (m : Int) ≤ 1000 := by omega
        clear hm
        go_wp2
        go_ret
        exact ⟨by rw [HO.out]; rfl, hS.out⟩
    · obtain rfl : k = l.length := by omega
      have HO := Lib.hid (foldS_all hT.out)
      go_wp2
      go_ret
      exact ⟨by rw [HO.out]; rfl, hS.out⟩
end Go.Proofs.Ytpjcmhlgdgadjaa

namespace Go.Proofs.Ytpjcmhlgdgadjaa
open Go.RowKit
set_option linter.unusedVariables false
def cmQ (p : Tr) : List Tr := if (p.r 4).length = 0 then [] else [.mk [p.c 4] [p.r 4]]
/-- All commands in the first n parts. -/
def cmK (n : Nat) (l : List Tr) : List Tr := match n, l with
  | 0, _ => []
  | _, [] => []
  | n + 1, p :: r => cmQ p ++ (cmK 1000 (p.r 3) ++ cmK n r)
termination_by szL l
decreasing_by
  · have := p.sz_r 3; simp only [szL]; omega
  · have := p.sz_pos; simp only [szL]; omega
theorem cmK_zero (l : List Tr) : cmK 0 l = [] := by cases l <;> rw [cmK]
theorem cmK_nil (n : Nat) : cmK n [] = [] := by cases n <;> rw [cmK]; intro h; cases h
theorem cmK_cons (n : Nat) (p : Tr) (r : List Tr) : cmK (n + 1) (p :: r) = cmQ p ++ (cmK 1000 (p.r 3) ++ cmK n r) := by rw [cmK]
theorem cmK_snoc : ∀ (l : List Tr) (k : Nat) (h : k < l.length), cmK (k + 1) l = cmK k l ++ (cmQ l[k] ++ cmK 1000 (l[k].r 3))
  | [], k, h => by simp at h
  | p :: r, 0, h => by rw [cmK_cons, cmK_zero, cmK_zero]; simp
  | p :: r, k + 1, h => by
    rw [cmK_cons, cmK_cons, cmK_snoc r k (by simpa using h)]
    simp
theorem cmK_len : ∀ (l : List Tr) (n : Nat), l.length ≤ n → cmK n l = cmK l.length l
  | [], n, _ => by rw [cmK_nil, cmK_nil]
  | p :: r, 0, h => by simp at h
  | p :: r, n + 1, h => by rw [List.length_cons, cmK_cons, cmK_cons, cmK_len r n (by simpa using h)]
theorem sz_cmQ (p : Tr) : szL ((cmQ p).flatMap (·.r 0)) ≤ szL (p.r 4) ∧ szL (cmQ p) ≤ 1 + szL (p.r 4) := by
  unfold cmQ
  split
  · simp [szL]
  · constructor
    · simp [Tr.r, Tr.rows]
    · simp [szL, Tr.sz, szR]
theorem sz_cmK (N : Nat) : ∀ (l : List Tr) (n : Nat), szL l ≤ N → pzL l + szL ((cmK n l).flatMap (·.r 0)) ≤ szL l ∧ szL (cmK n l) ≤ szL l := by
  induction N with
  | zero =>
    intro l n h
    cases l with
    | nil => rw [cmK_nil, pzL_nil]; simp [szL]
    | cons p r => have := p.sz_pos; simp only [szL] at h; omega
  | succ N ih =>
    intro l
    induction l with
    | nil => intro n _; rw [cmK_nil, pzL_nil]; simp [szL]
    | cons p r ihr =>
      intro n h
      have hp := pzL_sz _ (p :: r) (Nat.le_refl _)
      cases n with
      | zero => rw [cmK_zero]; simp only [List.flatMap_nil, szL] at *; omega
      | succ n =>
        simp only [szL] at h ⊢
        have h3 := ih (p.r 3) 1000 (by have := p.sz_r 3; omega)
        have hr := ihr n (by have := p.sz_pos; omega)
        have h34 : szL (p.r 3) + szL (p.r 4) < p.sz := by
          cases p with
          | mk cs rows => have := szR_two (rows := rows) (i := 3) (j := 4) (by omega); simp only [Tr.sz, Tr.r, Tr.rows]; omega
        have h0 := sz_cmQ p
        rw [cmK_cons, pzL_cons, List.flatMap_append, List.flatMap_append, szL_append, szL_append, szL_append, szL_append]
        omega
theorem cmK_lies {A : Nat → Prop} {w : World} (N : Nat) : ∀ (l : List Tr) (n : Nat), szL l ≤ N → (∀ x ∈ l, Lies A w .part x) → ∀ x ∈ cmK n l, Lies A w .lst x := by
  induction N with
  | zero =>
    intro l n h
    cases l with
    | nil => intro _ x hx; rw [cmK_nil] at hx; cases hx
    | cons p r => have := p.sz_pos; simp only [szL] at h; omega
  | succ N ih =>
    intro l
    induction l with
    | nil => intro n _ _ x hx; rw [cmK_nil] at hx; cases hx
    | cons p r ihr =>
      intro n h hl x hx
      simp only [szL] at h
      have hp := hl p (by simp)
      cases n with
      | zero => rw [cmK_zero] at hx; cases hx
      | succ n =>
        rw [cmK_cons, List.mem_append, List.mem_append] at hx
        rcases hx with hx | hx | hx
        · unfold cmQ at hx
          split at hx
          · cases hx
          · simp only [List.mem_singleton] at hx
            subst hx
            exact .lstOf (hp.row (i := 4) (u := .node) rfl) (hp.kids (i := 4) (u := .node) rfl)
        · exact ih (p.r 3) 1000 (by have := p.sz_r 3; omega) (hp.kids (i := 3) (u := .part) rfl) x hx
        · exact ihr n (by have := p.sz_pos; omega) (fun y hy => hl y (by simp [hy])) x hx
theorem cmK_one {A : Nat → Prop} {w : World} {l : List Tr} {n : Nat} (h : ∀ x ∈ l, Lies A w .part x) : ∀ x ∈ cmK n l, x.cs.length = 1 := fun x hx => (cmK_lies _ l n (Nat.le_refl _) h x hx).len
theorem cmK_many (l : List Tr) (n : Nat) : (cmK n l).length ≤ szL l := Nat.le_trans (szL_len _) (sz_cmK _ l n (Nat.le_refl _)).2
/-- The commands in parts, answered. -/
def CmEnd (w : World) (l : List Tr) (e : Ending) (w' : World) : Prop := ∃ o, e = .returned o ∧ OutAt 26 1 w (cmK 1000 l).length ((cmK 1000 l).flatMap Tr.cs) o w'
set_option maxRecDepth 100000 in
set_option maxHeartbeats 3200000 in
theorem mcmds_any (N : Nat) : ∀ (l : List Tr), szL l ≤ N → szL l ≤ 1048576 → ∀ (A : Nat → Prop) (w : World) (v : Value), (∀ b, A b → b < w.heap.size) → RowAt A w 5 v l → (∀ x ∈ l, Lies A w .part x) → Calls Try.prog 44 #[v] w (CmEnd w l) := by
  induction N with
  | zero =>
    intro l hl _ A w v _ hr _
    have hn : l = [] := by
      cases l with
      | nil => rfl
      | cons p r => have := p.sz_pos; simp only [szL] at hl; omega
    subst hn
    obtain ⟨a, c, rfl⟩ := hr.form
    clear hr
    go_enter Try.func44, Try.ntmps44
    go_wp2
    go_loop [3, 4] (fun o i => o = .slice none 0 0 ∧ i = .int .i64 0) (fun _ _ => 0)
    case atStart => exact ⟨rfl, rfl⟩
    case round =>
      obtain ⟨rfl, rfl⟩ := hrel
      go_wp2
      go_ret
      exact ⟨_, rfl, by rw [cmK_nil]; exact OutAt.nil _ _ _⟩
  | succ N ih =>
    intro l hN hsz A w v hA hr hk
    have hlen := hr.len
    obtain ⟨a, c, rfl⟩ := hr.form
    have HA := Lib.hid hA
    have HR := Lib.hid hr
    have HK := Lib.hid hk
    have HIH := Lib.hid ih
    have HSZ := Lib.hid hsz
    have HN := Lib.hid hN
    clear ih hsz hN hA hr hk
    go_enter Try.func44, Try.ntmps44
    go_wp2
    go_loopw [3, 4] (fun o i wr => ∃ k : Nat, k ≤ l.length ∧ k ≤ 1000 ∧ i = .int .i64 k ∧ Hid (OutAt 26 1 w (cmK k l).length ((cmK k l).flatMap Tr.cs) o wr)) (fun _ i _ => l.length - (intOf i).toNat)
    case atStart => exact ⟨0, Nat.zero_le _, Nat.zero_le _, rfl, Lib.hid (by rw [cmK_zero]; exact OutAt.nil _ _ _)⟩
    case round =>
      obtain ⟨k, hk, hk2, rfl, hOO⟩ := hrel
      by_cases hlt : k < l.length
      · by_cases hlt2 : k < 1000
        · obtain ⟨Ao, oc, rfl, ho, hbw⟩ := hOO.out
          have hx := List.getElem?_eq_getElem hlt
          have hsn := cmK_snoc l k hlt
          have hle : (cmK (k + 1) l).length ≤ 1048576 := Nat.le_trans (cmK_many _ _) HSZ.out
          have hfl : ((cmK k l).flatMap Tr.cs).length = (cmK k l).length := flat_one _ (cmK_one HK.out)
          have hszp : l[k].sz ≤ szL l := szL_mem (List.getElem_mem hlt)
          have hp := HK.out l[k] (List.getElem_mem hlt)
          obtain ⟨b, off, rfl, hAb, hb0, hcell⟩ := cells_at HR.out hx
          rw [hsn] at hle
          have HSN := Lib.hid hsn
          clear hsn hx hOO
          generalize l[k] = p at *
          generalize cmK k l = L at *
          have hpk := hp.kids (i := 3) (u := .part) rfl
          have hkr := hp.row (i := 3) (u := .part) rfl
          have hone : ∀ u ∈ (cmK 1000 (p.r 3)).flatMap Tr.cs, u.oneCell' = true := flat_ones (cmK_lies _ _ _ (Nat.le_refl _) hpk)
          have hyl := flat_one _ (cmK_one (n := 1000) hpk)
          have hsz3 := p.sz_r 3
          have hcall : ∀ y, Below w.heap.size w y → Calls Try.prog 44 #[p.c 3] y (CmEnd y (p.r 3)) := fun y hy =>
            HIH.out (p.r 3) (by have := HN.out; omega) (by have := HSZ.out; omega) A y _ (fun b hb => Nat.lt_of_lt_of_le (HA.out b hb) hy.size) (hkr.later HA.out hy) (fun x hx => (hpk x hx).later HA.out hy)
          obtain ⟨pk, ps, po, pa, pc, na, nc, kids, ns, rfl, q1, q2, h3, h4, h5, h6⟩ := hp.part
          have hnl := h4.len
          have hyd : ∀ y, Below w.heap.size w y → (y.cell? ⟨b, off + k * 5 + 3, none⟩ = some (.slice pa kids.length pc) ∧ y.cell? ⟨b, off + k * 5 + 4, none⟩ = some (.slice na ns.length nc)) := fun y hy =>
            ⟨(hy.cell (p := ⟨b, off + k * 5 + 3, none⟩) hb0).trans (hcell 3 (by omega)), (hy.cell (p := ⟨b, off + k * 5 + 4, none⟩) hb0).trans (hcell 4 (by omega))⟩
          obtain ⟨e3, e4⟩ := hyd wr hbw
          have HY := Lib.hid hyd
          have HCALL := Lib.hid hcall
          have HO := Lib.hid ho
          have HB := Lib.hid hbw
          have HONE := Lib.hid hone
          have hbs := hbw.size
          have hNk := ElNodes
          clear hcell hcall h3 h4 h5 h6 hp hkr hpk hone ho hbw hyd HR HIH HK HA q1 q2 hszp hsz3 HSZ HN
          have hcp : cmQ (.mk [.int .i64 pk, .string ps, .string po, .slice pa kids.length pc, .slice na ns.length nc] [[], [], [], kids, ns]) = if ns.length = 0 then [] else [.mk [.slice na ns.length nc] [ns]] := rfl
          have hr3 : (Tr.mk [.int .i64 pk, .string ps, .string po, .slice pa kids.length pc, .slice na ns.length nc] [[], [], [], kids, ns]).r 3 = kids := rfl
          have hc3 : (Tr.mk [.int .i64 pk, .string ps, .string po, .slice pa kids.length pc, .slice na ns.length nc] [[], [], [], kids, ns]).c 3 = .slice pa kids.length pc := rfl
          simp only [hcp, hr3] at hle HSN hyl HONE
          rw [hr3, hc3] at HCALL
          clear hcp hr3 hc3
          generalize hys : (cmK 1000 kids).flatMap Tr.cs = ys at *
          generalize hxs : L.flatMap Tr.cs = xs at *
          have HYS := Lib.hid hys
          have HXS := Lib.hid hxs
          clear hys hxs
          by_cases h6 : ns.length = 0
          · rw [if_pos h6] at hle HSN
            have hle3 : xs.length + ys.length ≤ 1048576 := by simp at hle; omega
            have HW3 := HB
            have HR1 := HO
            have HR2 := Lib.hid (Keeps.refl w.heap.size [26] wr)
            have h6b : ¬ (0 : Int) < (ns.length : Int) := by omega
            clear h6 HO
            go_wp2_with (first
              | (go_at_call 44; refine (HCALL.out _ HW3.out).mono ?_; rintro e w3 ⟨o, rfl, A3, c3, rfl, ho3, hb3⟩
                 have hkk : Keeps w.heap.size [26] wr w3 := HR2.out.trans (Keeps.of_below hb3)
                 have hbs2 : w.heap.size ≤ w3.heap.size := Nat.le_trans hbs hkk.size
                 have HKK := Lib.hid hkk
                 have HR3 := Lib.hid (own_below HR1.out hb3)
                 have HS3 := Lib.hid (SrcOK.own ho3 (by rw [HYS.out]; exact HONE.out))
                 clear hkk ho3 hb3)
              | (at_builtin; refine wpList_app ElNodes (.tmp 30) (.tmp 36) rfl rfl (base := w.heap.size) (n := L.length) (v := .slice Ao L.length oc) (m := (cmK 1000 kids).length) (N := L.length + (cmK 1000 kids).length) rfl rfl HR3.out HS3.out rfl (by unfold maxLen; omega) (by omega) hbs2 ?_; intro A4 c4 w4 r1 r2 r3
                 have HF := Lib.hid (out_app HB.out r1 (HKK.out.trans r2))
                 clear r1 r2 r3))
            go_roundw
            case rel => exact ⟨k + 1, by omega, by omega, by go_num, Lib.hid (by
              rw [HSN.out]
              have := HF.out
              rw [← HXS.out] at this
              simpa [List.flatMap_append] using this)⟩
            case measure => simp [intOf]; omega
          · rw [if_neg h6] at hle HSN
            have hle3 : xs.length + 1 ≤ 1048576 ∧ xs.length + 1 + ys.length ≤ 1048576 := by simp at hle; omega
            have h6b : (0 : Int) < (ns.length : Int) := by omega
            clear h6
            go_wp2_with (first
              | (at_builtin; refine wpList_app ElNodes (.tmp 22) (.tmp 28) rfl rfl (base := w.heap.size) (n := L.length) (m := 1) (N := L.length + 1) (xs := xs) (news := [.slice na ns.length nc]) rfl rfl (HO.out.alloc _) (one_src (e := 0) rfl) rfl (by unfold maxLen; omega) (by omega) (by simp; omega) ?_; intro A2 c2 w2 r1 r2 r3
                 have HR1 := Lib.hid r1
                 have hk2 := (Keeps.refl w.heap.size [26] wr).alloc (.cells #[.slice na ns.length nc] 26) |>.trans r2
                 have hw3 := HB.out.trans (hk2.below hbs)
                 have e3b := (HY.out _ hw3).1
                 have HR2 := Lib.hid hk2
                 have HW3 := Lib.hid hw3
                 clear r1 r2 r3 hk2 hw3)
              | (go_at_call 44; refine (HCALL.out _ HW3.out).mono ?_; rintro e w3 ⟨o, rfl, A3, c3, rfl, ho3, hb3⟩
                 have hkk : Keeps w.heap.size [26] wr w3 := HR2.out.trans (Keeps.of_below hb3)
                 have hbs2 : w.heap.size ≤ w3.heap.size := Nat.le_trans hbs hkk.size
                 have HKK := Lib.hid hkk
                 have HR3 := Lib.hid (own_below HR1.out hb3)
                 have HS3 := Lib.hid (SrcOK.own ho3 (by rw [HYS.out]; exact HONE.out))
                 clear hkk ho3 hb3)
              | (at_builtin; refine wpList_app ElNodes (.tmp 30) (.tmp 36) rfl rfl (base := w.heap.size) (n := (L.length + 1)) (v := .slice A2 (L.length + 1) c2) (m := (cmK 1000 kids).length) (N := (L.length + 1) + (cmK 1000 kids).length) rfl rfl HR3.out HS3.out rfl (by unfold maxLen; omega) (by omega) hbs2 ?_; intro A4 c4 w4 r1 r2 r3
                 have HF := Lib.hid (out_app HB.out r1 (HKK.out.trans r2))
                 clear r1 r2 r3))
            go_roundw
            case rel => exact ⟨k + 1, by omega, by omega, by go_num, Lib.hid (by
              rw [HSN.out]
              have := HF.out
              rw [← HXS.out] at this
              simpa [List.flatMap_append, Tr.cs, Nat.add_assoc, Nat.add_comm 1] using this)⟩
            case measure => simp [intOf]; omega
        · obtain rfl : k = 1000 := by omega
          obtain ⟨Ao, oc, rfl, ho, hbw⟩ := hOO.out
          have HO := Lib.hid ho
          have HB := Lib.hid hbw
          have q0 : (1000 : Int) < (l.length : Int) := by omega
          clear ho hbw hOO
          go_wp2
          go_ret
          exact ⟨_, rfl, Ao, oc, rfl, HO.out, HB.out⟩
      · obtain rfl : k = l.length := by omega
        rw [← cmK_len l 1000 hk2] at hOO
        obtain ⟨Ao, oc, rfl, ho, hbw⟩ := hOO.out
        have HO := Lib.hid ho
        have HB := Lib.hid hbw
        clear ho hbw hOO
        go_wp2
        go_ret
        exact ⟨_, rfl, Ao, oc, rfl, HO.out, HB.out⟩
end Go.Proofs.Ytpjcmhlgdgadjaa

namespace Go.Proofs.Ytpjcmhlgdgadjaa
open Go.RowKit
set_option linter.unusedVariables false
/-- Much answers v for this node. -/
def MN (t : Tr) (v : Nat) : Prop := ∀ (A : Nat → Prop) (w : World), (∀ b, A b → b < w.heap.size) → t.sz ≤ 1048576 → Lies A w .node t →
    v + 1 ≤ 2000000 * t.sz ∧ Calls Try.prog 5 #[.agg t.cs.toArray] w fun e w' => e = .returned (.int .i64 v) ∧ Below w.heap.size w w'
def MuchOK (N : Nat) : Prop := ∀ t : Tr, t.sz ≤ N → ∃ v, MN t v
def MA (l : List Tr) (v : Nat) : Prop := ∀ (A : Nat → Prop) (w : World) (u : Value), (∀ b, A b → b < w.heap.size) → szL l ≤ 1048576 → RowAt A w 10 u l → (∀ x ∈ l, Lies A w .node x) →
    v ≤ 2000000 * szL l ∧ Calls Try.prog 26 #[u] w fun e w' => e = .returned (.int .i64 v) ∧ Below w.heap.size w w'
def MD (x : Tr) (v : Nat) : Prop := ∀ (A : Nat → Prop) (w : World), (∀ b, A b → b < w.heap.size) → x.sz ≤ 1048576 → Lies A w .word x →
    v ≤ 2000000 * szL (x.r 0) ∧ Calls Try.prog 27 #[.agg x.cs.toArray] w fun e w' => e = .returned (.int .i64 v) ∧ Below w.heap.size w w'
def MS (l : List Tr) (v : Nat) : Prop := ∀ (A : Nat → Prop) (w : World) (u : Value), (∀ b, A b → b < w.heap.size) → szL l ≤ 1048576 → RowAt A w 1 u l → (∀ x ∈ l, Lies A w .word x) →
    v ≤ 2000000 * szL l ∧ Calls Try.prog 25 #[u] w fun e w' => e = .returned (.int .i64 v) ∧ Below w.heap.size w w'
set_option maxRecDepth 100000 in
set_option maxHeartbeats 1600000 in
theorem mAll_of {N : Nat} (ih : MuchOK N) {l : List Tr} (hN : szL l ≤ N) : ∃ v, MA l v := by
  obtain ⟨g, hg⟩ := skol (l := l) (P := fun x v => MN x v) (fun x hx => ih x (Nat.le_trans (szL_mem hx) hN))
  refine ⟨foldS g l.length l, fun A w u hA hsz hr hl => ?_⟩
  have hcall : ∀ x ∈ l, ∀ y, Below w.heap.size w y → g x + 1 ≤ 2000000 * x.sz ∧ Calls Try.prog 5 #[.agg x.cs.toArray] y fun e w' => e = .returned (.int .i64 (g x)) ∧ Below y.heap.size y w' := fun x hx y hy =>
    hg x hx A y (fun b hb => by have := hA b hb; have := hy.size; omega) (Nat.le_trans (szL_mem hx) hsz) ((hl x hx).later hA hy)
  refine ⟨by have := foldS_sz l l.length (fun x hx => (hcall x hx w (Below.refl _ _)).1); omega, ?_⟩
  obtain ⟨a, c, rfl⟩ := hr.form
  have hlen := hr.len
  have HFB : Hid (∀ x ∈ l, g x ≤ 2097152000000) := Lib.hid (fun x hx => by
    have h1 := (hcall x hx w (Below.refl _ _)).1
    have h2 := szL_mem hx
    omega)
  have HIH := Lib.hid (fun x hx y hy => (hcall x hx y hy).2)
  have HR := Lib.hid hr
  have HK := Lib.hid hl
  generalize hR : foldS g l.length l = R
  have HRR := Lib.hid hR
  clear hr hl hA ih hN hg hcall hR
  go_enter Try.func26, Try.ntmps26
  go_wp2
  go_loopw [3, 4] (fun n i wr => ∃ k m : Nat, k ≤ l.length ∧ i = .int .i64 k ∧ n = .int .i64 m ∧ Hid (foldS g m (l.drop k) = R) ∧ Hid (Below w.heap.size w wr)) (fun _ i _ => l.length - (intOf i).toNat)
  case atStart => exact ⟨0, l.length, Nat.zero_le _, rfl, rfl, HRR, Lib.hid (Below.refl _ _)⟩
  case round =>
    obtain ⟨k, m, hk, rfl, rfl, hT, hS⟩ := hrel
    by_cases hlt : k < l.length
    · by_cases hm : m ≤ 1000
      · have hx := List.getElem?_eq_getElem hlt
        obtain ⟨b, off, rfl, -, hb0, hcell⟩ := cells_at HR.out hx
        have hp := HK.out l[k] (List.getElem_mem hlt)
        have hgb := HFB.out l[k] (List.getElem_mem hlt)
        have hn := foldS_next hT.out hlt hm
        have hbo := hS.out
        have hwr := hbo.size
        have hcall := HIH.out l[k] (List.getElem_mem hlt) wr hbo
        clear hx
        generalize l[k] = p at *
        obtain ⟨yk, ys, y1, y2, yoa, yon, yoc, yaa, yan, yac, ywa, ywn, ywc, yra, yrn, yrc, yma, ymn, ymc, yka, ykn, ykc, hpc⟩ := hp.node10
        have e0 := (hbo.cell (p := ⟨b, off + k * 10, none⟩) hb0).trans (hcell 0 (by omega))
        have e1 := (hbo.cell (p := ⟨b, off + k * 10 + 1, none⟩) hb0).trans (hcell 1 (by omega))
        have e2 := (hbo.cell (p := ⟨b, off + k * 10 + 2, none⟩) hb0).trans (hcell 2 (by omega))
        have e3 := (hbo.cell (p := ⟨b, off + k * 10 + 3, none⟩) hb0).trans (hcell 3 (by omega))
        have e4 := (hbo.cell (p := ⟨b, off + k * 10 + 4, none⟩) hb0).trans (hcell 4 (by omega))
        have e5 := (hbo.cell (p := ⟨b, off + k * 10 + 5, none⟩) hb0).trans (hcell 5 (by omega))
        have e6 := (hbo.cell (p := ⟨b, off + k * 10 + 6, none⟩) hb0).trans (hcell 6 (by omega))
        have e7 := (hbo.cell (p := ⟨b, off + k * 10 + 7, none⟩) hb0).trans (hcell 7 (by omega))
        have e8 := (hbo.cell (p := ⟨b, off + k * 10 + 8, none⟩) hb0).trans (hcell 8 (by omega))
        have e9 := (hbo.cell (p := ⟨b, off + k * 10 + 9, none⟩) hb0).trans (hcell 9 (by omega))
        rw [hpc] at e0 e1 e2 e3 e4 e5 e6 e7 e8 e9 hcall
        simp only [List.getElem?_cons_zero, List.getElem?_cons_succ] at e0 e1 e2 e3 e4 e5 e6 e7 e8 e9
        generalize g p = J at *
        have HCALL := Lib.hid hcall
        have HN := Lib.hid hn
        clear hp hcell hcall hpc hbo hn
        go_wp2_with (go_at_call 5; refine HCALL.out.mono ?_; rintro e w3 ⟨rfl, hb3⟩
                     have HB3 := Lib.hid (hS.out.trans (hb3.mono hwr))
                     clear hb3)
        go_roundw
        case rel => exact ⟨k + 1, m + J, by omega, by go_num, by go_num, HN, HB3⟩
        case measure => simp [intOf]; omega
      · have HO := Lib.hid (foldS_over hT.out hlt hm)
        have hm2 : ¬ (m : Int) ≤ 1000 := by omega
        clear hm
        go_wp2
        go_ret
        exact ⟨by rw [HO.out]; rfl, hS.out⟩
    · obtain rfl : k = l.length := by omega
      have HO := Lib.hid (foldS_all hT.out)
      go_wp2
      go_ret
      exact ⟨by rw [HO.out]; rfl, hS.out⟩
set_option maxRecDepth 100000 in
set_option maxHeartbeats 1600000 in
theorem mWord_of {N : Nat} (ih : MuchOK N) {x : Tr} (hN : szL (x.r 0) ≤ N) : ∃ v, MD x v := by
  obtain ⟨v0, hv0⟩ := much24_any _ (x.r 0) (Nat.le_refl _)
  obtain ⟨C, hC⟩ : ∃ C, cmK 1000 (x.r 0) = C := ⟨_, rfl⟩
  have hsc := (sz_cmK _ (x.r 0) 1000 (Nat.le_refl _)).1
  rw [hC] at hsc
  obtain ⟨g, hg⟩ := skol (l := C) (P := fun c v => MA (c.r 0) v) (fun c hc => mAll_of ih (by have := szL_in (f := (·.r 0)) hc; omega))
  refine ⟨foldS g v0 C, fun A w hA hsz hl => ?_⟩
  have hin := x.sz_r 0
  obtain ⟨pa, pc, ps, rfl, hpr, hpk⟩ := hl.word
  have hr0 : (Tr.mk [.slice pa ps.length pc] [ps]).r 0 = ps := rfl
  rw [hr0] at hv0 hC hsc hN hin ⊢
  have hCL : ∀ c ∈ C, Lies A w .lst c := by rw [← hC]; exact cmK_lies _ ps 1000 (Nat.le_refl _) hpk
  have hcn : C.length ≤ 1048576 := by rw [← hC]; exact Nat.le_trans (cmK_many ps 1000) (by omega)
  have hcall : ∀ c ∈ C, ∀ y, Below w.heap.size w y → g c ≤ 2000000 * szL (c.r 0) ∧ Calls Try.prog 26 #[c.c 0] y fun e w' => e = .returned (.int .i64 (g c)) ∧ Below y.heap.size y w' := fun c hc y hy => by
    have h1 := szL_in (f := (·.r 0)) hc
    have h3 := (hCL c hc).later hA hy
    exact hg c hc A y _ (fun b hb => by have := hA b hb; have := hy.size; omega) (by omega) (h3.row (i := 0) (u := .node) rfl) (h3.kids (i := 0) (u := .node) rfl)
  have hv := hv0 A w _ hA (by omega) hpr hpk
  refine ⟨by have := foldS_in C v0 (fun c hc => (hcall c hc w (Below.refl _ _)).1); have := hv.1; omega, ?_⟩
  have HFB : Hid (∀ c ∈ C, g c ≤ 2097152000000) := Lib.hid (fun c hc => by
    have h1 := (hcall c hc w (Below.refl _ _)).1
    have h2 := szL_in (f := (·.r 0)) hc
    omega)
  have HIH := Lib.hid (fun c hc y hy => (hcall c hc y hy).2)
  have HM := Lib.hid (fun y hy => (hv0 A y (.slice pa ps.length pc) (fun b hb => by have := hA b hb; have := hy.size; omega) (by omega) (hpr.later hA hy) (fun x hx => (hpk x hx).later hA hy)).2)
  have HC : Hid (∀ y, Below w.heap.size w y → Calls Try.prog 44 #[.slice pa ps.length pc] y fun e w' => ∃ o, e = .returned o ∧ OutAt 26 1 y C.length (C.flatMap Tr.cs) o w') := Lib.hid (fun y hy => by
    rw [← hC]
    exact mcmds_any _ ps (Nat.le_refl _) (by omega) A y _ (fun b hb => by have := hA b hb; have := hy.size; omega) (hpr.later hA hy) (fun x hx => (hpk x hx).later hA hy))
  have HCL := Lib.hid hCL
  generalize hR : foldS g v0 C = R
  have HRR := Lib.hid hR
  have HB0 := Lib.hid (below_alloc w (.cells #[.slice pa ps.length pc] 41))
  have HX0 := Lib.hid (Blk.new w 41 #[.slice pa ps.length pc])
  have hq : v0 ≤ 2097152000000 := by have := hv.1; omega
  clear hl hA ih hN hg hcall hR hv0 hv hpr hpk hr0 hC hsc hCL hin
  simp only [Tr.cs]
  go_enter Try.func27, Try.ntmps27
  go_wp2_with fail
  refine (HM.out _ HB0.out).mono ?_
  rintro e w1 ⟨rfl, hb1⟩
  have hx1 := HX0.out.below hb1 HX0.out.lt
  have c0 := hx1.cell 0
  simp at c0
  have HB1 := Lib.hid (HB0.out.trans (hb1.mono (by simp)))
  clear hb1 hx1 HB0 HX0 HM
  go_wp2_with fail
  refine (HC.out _ HB1.out).mono ?_
  rintro e w2 ⟨o2, rfl, A2, c2, rfl, ho2, hb2⟩
  have HO2 := Lib.hid ho2
  have HB2 := Lib.hid (HB1.out.trans (hb2.mono HB1.out.size))
  clear ho2 hb2 HC c0
  go_wp2
  go_loopw [3, 5] (fun n i wr => ∃ k m : Nat, k ≤ C.length ∧ i = .int .i64 k ∧ n = .int .i64 m ∧ Hid (foldS g m (C.drop k) = R) ∧ Hid (Below w2.heap.size w2 wr)) (fun _ i _ => C.length - (intOf i).toNat)
  case atStart => exact ⟨0, v0, Nat.zero_le _, rfl, rfl, HRR, Lib.hid (Below.refl _ _)⟩
  case round =>
    obtain ⟨k, m, hk, rfl, rfl, hT, hS⟩ := hrel
    have hz2 := HB2.out.size
    by_cases hlt : k < C.length
    · by_cases hm : m ≤ 1000
      · obtain ⟨m', hm'⟩ : ∃ m, C.length = m + 1 := ⟨C.length - 1, by omega⟩
        obtain ⟨g2, rfl, -, hg2⟩ : ∃ g, A2 = some ⟨g, 0, none⟩ ∧ w1.heap.size ≤ g ∧ g < w2.heap.size := by have h1 := HO2.out; rw [hm'] at h1; exact own_some h1
        have e2 := (hS.out.cell (p := ⟨g2, k, none⟩) hg2).trans (own_one HO2.out (fun x hx => (HCL.out x hx).len) k hlt)
        have hgb := HFB.out C[k] (List.getElem_mem hlt)
        have hn := foldS_next hT.out hlt hm
        have hcall := HIH.out C[k] (List.getElem_mem hlt) wr (HB2.out.trans (hS.out.mono hz2))
        obtain ⟨qa, qc, qs, hq2, -, -⟩ := (HCL.out C[k] (List.getElem_mem hlt)).lst
        have hwr := hS.out.size
        clear hm'
        generalize C[k] = q at *
        have hc0 : q.c 0 = .slice qa qs.length qc := by rw [hq2]; rfl
        have hcs : q.cs = [.slice qa qs.length qc] := by rw [hq2]; rfl
        rw [hcs] at e2
        rw [hc0] at hcall
        simp only [List.getElem?_cons_zero] at e2
        generalize g q = J at *
        have HCALL := Lib.hid hcall
        have HN := Lib.hid hn
        clear hcall hn hq2 hc0 hcs
        go_wp2_with (go_at_call 26; refine HCALL.out.mono ?_; rintro e w3 ⟨rfl, hb3⟩
                     have HB3 := Lib.hid (hS.out.trans (hb3.mono hwr))
                     clear hb3)
        go_roundw
        case rel => exact ⟨k + 1, m + J, by omega, by go_num, by go_num, HN, HB3⟩
        case measure => simp [intOf]; omega
      · have HO := Lib.hid (foldS_over hT.out hlt hm)
        have hm2 : ¬ (m : Int) ≤ 1000 := by omega
        clear hm
        go_wp2
        go_ret
        exact ⟨by rw [HO.out]; rfl, HB2.out.trans (hS.out.mono hz2)⟩
    · obtain rfl : k = C.length := by omega
      have HO := Lib.hid (foldS_all hT.out)
      go_wp2
      go_ret
      exact ⟨by rw [HO.out]; rfl, HB2.out.trans (hS.out.mono hz2)⟩
set_option maxRecDepth 100000 in
set_option maxHeartbeats 1600000 in
theorem mWords_of {N : Nat} (ih : MuchOK N) {l : List Tr} (hN : szL l ≤ N) : ∃ v, MS l v := by
  obtain ⟨g, hg⟩ := skol (l := l) (P := fun x v => MD x v) (fun x hx => mWord_of ih (by have := szL_mem hx; have := x.sz_r 0; omega))
  refine ⟨foldS g l.length l, fun A w u hA hsz hr hl => ?_⟩
  have hcall : ∀ x ∈ l, ∀ y, Below w.heap.size w y → g x + 1 ≤ 2000000 * x.sz ∧ Calls Try.prog 27 #[.agg x.cs.toArray] y fun e w' => e = .returned (.int .i64 (g x)) ∧ Below y.heap.size y w' := fun x hx y hy => by
    have h1 := x.sz_r 0
    have h2 := hg x hx A y (fun b hb => by have := hA b hb; have := hy.size; omega) (Nat.le_trans (szL_mem hx) hsz) ((hl x hx).later hA hy)
    exact ⟨by have := h2.1; omega, h2.2⟩
  refine ⟨by have := foldS_sz l l.length (fun x hx => (hcall x hx w (Below.refl _ _)).1); omega, ?_⟩
  obtain ⟨a, c, rfl⟩ := hr.form
  have hlen := hr.len
  have HFB : Hid (∀ x ∈ l, g x ≤ 2097152000000) := Lib.hid (fun x hx => by
    have h1 := (hcall x hx w (Below.refl _ _)).1
    have h2 := szL_mem hx
    omega)
  have HIH := Lib.hid (fun x hx y hy => (hcall x hx y hy).2)
  have HR := Lib.hid hr
  have HK := Lib.hid hl
  generalize hR : foldS g l.length l = R
  have HRR := Lib.hid hR
  clear hr hl hA ih hN hg hcall hR
  go_enter Try.func25, Try.ntmps25
  go_wp2
  go_loopw [3, 4] (fun n i wr => ∃ k m : Nat, k ≤ l.length ∧ i = .int .i64 k ∧ n = .int .i64 m ∧ Hid (foldS g m (l.drop k) = R) ∧ Hid (Below w.heap.size w wr)) (fun _ i _ => l.length - (intOf i).toNat)
  case atStart => exact ⟨0, l.length, Nat.zero_le _, rfl, rfl, HRR, Lib.hid (Below.refl _ _)⟩
  case round =>
    obtain ⟨k, m, hk, rfl, rfl, hT, hS⟩ := hrel
    by_cases hlt : k < l.length
    · by_cases hm : m ≤ 1000
      · have hx := List.getElem?_eq_getElem hlt
        obtain ⟨b, off, rfl, -, hb0, hcell⟩ := cells_at HR.out hx
        have hp := HK.out l[k] (List.getElem_mem hlt)
        have hgb := HFB.out l[k] (List.getElem_mem hlt)
        have hn := foldS_next hT.out hlt hm
        have hbo := hS.out
        have hwr := hbo.size
        have hcall := HIH.out l[k] (List.getElem_mem hlt) wr hbo
        clear hx
        generalize l[k] = p at *
        have e0 := (hbo.cell (p := ⟨b, off + k, none⟩) hb0).trans (by simpa using hcell 0 (by omega))
        obtain ⟨pa, pc, ps, he, -, -⟩ := hp.word
        have hpc : p.cs = [.slice pa ps.length pc] := by rw [he]; rfl
        rw [hpc] at e0 hcall
        simp only [List.getElem?_cons_zero] at e0
        generalize g p = J at *
        have HCALL := Lib.hid hcall
        have HN := Lib.hid hn
        clear hp hcell hcall hpc hbo hn he
        go_wp2_with (go_at_call 27; refine HCALL.out.mono ?_; rintro e w3 ⟨rfl, hb3⟩
                     have HB3 := Lib.hid (hS.out.trans (hb3.mono hwr))
                     clear hb3)
        go_roundw
        case rel => exact ⟨k + 1, m + J, by omega, by go_num, by go_num, HN, HB3⟩
        case measure => simp [intOf]; omega
      · have HO := Lib.hid (foldS_over hT.out hlt hm)
        have hm2 : ¬ (m : Int) ≤ 1000 := by omega
        clear hm
        go_wp2
        go_ret
        exact ⟨by rw [HO.out]; rfl, hS.out⟩
    · obtain rfl : k = l.length := by omega
      have HO := Lib.hid (foldS_all hT.out)
      go_wp2
      go_ret
      exact ⟨by rw [HO.out]; rfl, hS.out⟩
end Go.Proofs.Ytpjcmhlgdgadjaa

namespace Go.Proofs.Ytpjcmhlgdgadjaa
open Go.RowKit
set_option linter.unusedVariables false
theorem foldS_sz0 {F : Tr → Nat} : ∀ (l : List Tr) (n : Nat), (∀ x ∈ l, F x ≤ 2000000 * x.sz) → foldS F n l ≤ n + 2000000 * szL l
  | [], n, _ => by simp [foldS, szL]
  | x :: r, n, h => by
    have hx := h x (by simp)
    have hr := foldS_sz0 r (n + F x) (fun y hy => h y (by simp [hy]))
    simp only [foldS, szL]
    split <;> omega
theorem sz_five (n : Tr) : szL (n.r 5) + szL (n.r 6) + szL (n.r 7) + szL (n.r 8) + szL (n.r 9) < n.sz := by
  cases n with
  | mk cs rows => have := szR_five rows; simp only [Tr.sz, Tr.r, Tr.rows]; omega
def F7 (g : Tr → Nat) (r : Tr) : Nat := 1 + (r.s 0).size / 10 + (r.s 3).size / 10 + g r
def F8 (g h : Tr → Nat) (a : Tr) : Nat := 1 + g a + h a
theorem rwrd_sz (r : Tr) : (rwrd r).sz ≤ r.sz := by
  have := r.sz_r 2
  simp only [rwrd, wordOf, Tr.sz, szR]
  omega
set_option maxRecDepth 100000 in
set_option maxHeartbeats 1600000 in
theorem much_any (N : Nat) : MuchOK N := by
  induction N with
  | zero => intro t ht; have := t.sz_pos; omega
  | succ N ih =>
  intro t hN
  have h5s := sz_five t
  obtain ⟨v5, hv5⟩ := mWords_of ih (l := t.r 5) (by omega)
  obtain ⟨v6, hv6⟩ := mWords_of ih (l := t.r 6) (by omega)
  obtain ⟨v9, hv9⟩ := mAll_of ih (l := t.r 9) (by omega)
  obtain ⟨g7, hg7⟩ := skol (l := t.r 7) (P := fun x v => MD (rwrd x) v) (fun x hx => mWord_of ih (by have := szL_mem hx; have := rwrd_sz x; have := (rwrd x).sz_r 0; omega))
  obtain ⟨g8, hg8⟩ := skol (l := t.r 8) (P := fun x v => MS (x.r 0) v) (fun x hx => mWords_of ih (by have := szL_mem hx; have := x.sz_body; omega))
  obtain ⟨gB, hgB⟩ := skol (l := t.r 8) (P := fun x v => MN x.body v) (fun x hx => ih x.body (by have := szL_mem hx; have := x.sz_body; have := sz_five t; omega))
  refine ⟨foldS (F8 g8 gB) (foldS (F7 g7) (1 + (t.s 1).size / 10 + (t.r 4).length + v5 + v6 + v9) (t.r 7)) (t.r 8), fun A w hA hsz hl => ?_⟩
  obtain ⟨nk, T, b1, b2, oa, oc, aa, ac, wa, wc, ra, rc, ma, mc, ka, kc, os, gs, ws, rs, ms, ks, et, q1, h4, h5, h6, h7, h8, h9, -, k5, k6, k7, k8, k9⟩ := hl.node
  have ecs : t.cs = [.int .i64 nk, .string T, .bool b1, .bool b2, .slice oa os.length oc, .slice aa gs.length ac, .slice wa ws.length wc, .slice ra rs.length rc, .slice ma ms.length mc, .slice ka ks.length kc] := by rw [et]; rfl
  have e1 : t.s 1 = T := by rw [et]; rfl
  have e4 : t.r 4 = os := by rw [et]; rfl
  have e5 : t.r 5 = gs := by rw [et]; rfl
  have e6 : t.r 6 = ws := by rw [et]; rfl
  have e7 : t.r 7 = rs := by rw [et]; rfl
  have e8 : t.r 8 = ms := by rw [et]; rfl
  have e9 : t.r 9 = ks := by rw [et]; rfl
  rw [e5] at hv5 h5s
  rw [e6] at hv6 h5s
  rw [e9] at hv9 h5s
  rw [e7] at hg7 h5s ⊢
  rw [e8] at hg8 hgB h5s ⊢
  rw [e1, e4, ecs]
  obtain ⟨W, hW⟩ : ∃ W, w.alloc (.cells #[.int .i64 nk, .string T, .bool b1, .bool b2, .slice oa os.length oc, .slice aa gs.length ac, .slice wa ws.length wc, .slice ra rs.length rc, .slice ma ms.length mc, .slice ka ks.length kc] 28) = W := ⟨_, rfl⟩
  have hbW : Below w.heap.size w W := by rw [← hW]; exact below_alloc _ _
  have hxW : Blk W w.heap.size 28 #[.int .i64 nk, .string T, .bool b1, .bool b2, .slice oa os.length oc, .slice aa gs.length ac, .slice wa ws.length wc, .slice ra rs.length rc, .slice ma ms.length mc, .slice ka ks.length kc] := by rw [← hW]; exact Blk.new _ _ _
  have hWs : W.heap.size = w.heap.size + 1 := by rw [← hW]; simp
  have hY : ∀ y, Below W.heap.size W y → Below w.heap.size w y := fun y hy => hbW.trans (hy.mono (by omega))
  have hAy : ∀ y, Below W.heap.size W y → ∀ b, A b → b < y.heap.size := fun y hy b hb => by have := hA b hb; have := hy.size; omega
  have D5 := fun y (hy : Below W.heap.size W y) => hv5 A y _ (hAy y hy) (by omega) (h5.later hA (hY y hy)) (fun x hx => (k5 x hx).later hA (hY y hy))
  have D6 := fun y (hy : Below W.heap.size W y) => hv6 A y _ (hAy y hy) (by omega) (h6.later hA (hY y hy)) (fun x hx => (k6 x hx).later hA (hY y hy))
  have D9 := fun y (hy : Below W.heap.size W y) => hv9 A y _ (hAy y hy) (by omega) (h9.later hA (hY y hy)) (fun x hx => (k9 x hx).later hA (hY y hy))
  have D7 := fun x (hx : x ∈ rs) y (hy : Below W.heap.size W y) => hg7 x hx A y (hAy y hy) (by have := szL_mem hx; have := rwrd_sz x; omega) (.wordOf (((k7 x hx).later hA (hY y hy)).row (i := 2) (u := .part) rfl) (((k7 x hx).later hA (hY y hy)).kids (i := 2) (u := .part) rfl))
  have D8 := fun x (hx : x ∈ ms) y (hy : Below W.heap.size W y) => hg8 x hx A y _ (hAy y hy) (by have := szL_mem hx; have := x.sz_body; omega) (((k8 x hx).later hA (hY y hy)).row (i := 0) (u := .word) rfl) (((k8 x hx).later hA (hY y hy)).kids (i := 0) (u := .word) rfl)
  have DB := fun x (hx : x ∈ ms) y (hy : Below W.heap.size W y) => hgB x hx A y (hAy y hy) (by have := szL_mem hx; have := x.sz_body; omega) (((k8 x hx).later hA (hY y hy)).body)
  have B5 := (D5 W (Below.refl _ _)).1
  have B6 := (D6 W (Below.refl _ _)).1
  have B9 := (D9 W (Below.refl _ _)).1
  have hF7 : ∀ x ∈ rs, F7 g7 x + 1 ≤ 2000000 * x.sz := fun x hx => by
    have h1 := (D7 x hx W (Below.refl _ _)).1
    have h2 := x.sz_r 2
    obtain ⟨zn, zk, pa, pc, ps, zs, he, s1, s2, -, -⟩ := (k7 x hx).redir
    have f0 : x.s 0 = zn := by rw [he]; rfl
    have f3 : x.s 3 = zs := by rw [he]; rfl
    have f2 : (rwrd x).r 0 = x.r 2 := rfl
    unfold F7
    rw [f0, f3]
    rw [f2] at h1
    omega
  have hF8 : ∀ x ∈ ms, F8 g8 gB x ≤ 2000000 * x.sz := fun x hx => by
    have h1 := (D8 x hx W (Below.refl _ _)).1
    have h2 := (DB x hx W (Below.refl _ _)).1
    have h3 := x.sz_body
    unfold F8
    omega
  have hol := h4.len
  have hrl := h7.len
  have hml := h8.len
  have hR1 := foldS_sz rs (1 + T.size / 10 + os.length + v5 + v6 + v9) hF7
  have hR2 := foldS_sz0 ms (foldS (F7 g7) (1 + T.size / 10 + os.length + v5 + v6 + v9) rs) hF8
  refine ⟨by omega, ?_⟩
  have C5 := Lib.hid (fun y hy => (D5 y hy).2)
  have C6 := Lib.hid (fun y hy => (D6 y hy).2)
  have C9 := Lib.hid (fun y hy => (D9 y hy).2)
  have C7 := Lib.hid (fun x hx y hy => (D7 x hx y hy).2)
  have C8 := Lib.hid (fun x hx y hy => (D8 x hx y hy).2)
  have CB := Lib.hid (fun x hx y hy => (DB x hx y hy).2)
  have G7 : Hid (∀ x ∈ rs, g7 x ≤ 2097152000000) := Lib.hid (fun x hx => by
    have h1 := hF7 x hx
    have h2 := szL_mem hx
    unfold F7 at h1
    omega)
  have G8 : Hid (∀ x ∈ ms, g8 x ≤ 2097152000000 ∧ gB x ≤ 2097152000000) := Lib.hid (fun x hx => by
    have h1 := hF8 x hx
    have h2 := szL_mem hx
    unfold F8 at h1
    omega)
  have K7 : Hid (∀ x ∈ rs, Lies A w .redir x) := Lib.hid k7
  have K8 : Hid (∀ x ∈ ms, Lies A w .arm x) := Lib.hid k8
  have H7 := Lib.hid h7
  have H8 := Lib.hid h8
  have HY := Lib.hid hY
  have hwW : w.heap.size < W.heap.size := by omega
  have HW := Lib.hid hW
  have c1 := hxW.cell 1
  have c4 := hxW.cell 4
  have c5 := hxW.cell 5
  have c6 := hxW.cell 6
  have c7 := hxW.cell 7
  have c8 := hxW.cell 8
  have c9 := hxW.cell 9
  simp at c1 c4 c5 c6 c7 c8 c9
  have m5 : v5 ≤ 2097152000000 := by omega
  have m6 : v6 ≤ 2097152000000 := by omega
  have m9 : v9 ≤ 2097152000000 := by omega
  generalize hR1e : foldS (F7 g7) (1 + T.size / 10 + os.length + v5 + v6 + v9) rs = R1 at *
  generalize hR2e : foldS (F8 g8 gB) R1 ms = R2 at *
  have HR1 := Lib.hid hR1e
  have HR2 := Lib.hid hR2e
  generalize os.length = on at *
  clear et ecs e1 e4 e5 e6 e7 e8 e9 hl h4 h5 h6 h7 h8 h9 k5 k6 k7 k8 k9 hA hY hAy hbW hxW hW ih hN hWs D5 D6 D9 D7 D8 DB B5 B6 B9 hF7 hF8 hR1 hR2 hR1e hR2e hv5 hv6 hv9 hg7 hg8 hgB h5s
  obtain ⟨I, hI1, hI2⟩ : ∃ I : World → Prop, (∀ w', I w' → Below W.heap.size W w') ∧ (∀ w', Below W.heap.size W w' → I w') := ⟨_, fun _ h => h, fun _ h => h⟩
  have hI : I W.drew := hI2 _ (below_drew (Below.refl _ _))
  have hne : Nonempty (Wd I) := ⟨⟨_, hI⟩⟩
  have XI := Lib.hid (fun x : Wd I => hI1 _ x.ok)
  have g1 := fun y : Wd I => ((XI.out y).cell (p := ⟨w.heap.size, 1, none⟩) hwW).trans c1
  have g4 := fun y : Wd I => ((XI.out y).cell (p := ⟨w.heap.size, 4, none⟩) hwW).trans c4
  have g5 := fun y : Wd I => ((XI.out y).cell (p := ⟨w.heap.size, 5, none⟩) hwW).trans c5
  have g6 := fun y : Wd I => ((XI.out y).cell (p := ⟨w.heap.size, 6, none⟩) hwW).trans c6
  have g9 := fun y : Wd I => ((XI.out y).cell (p := ⟨w.heap.size, 9, none⟩) hwW).trans c9
  have X5 := Lib.hid (fun y : Wd I => wd_call (I := I) (v := .int .i64 v5) ((C5.out y.w (XI.out y)).mono fun e w' hh => ⟨hh.1, hI2 _ ((XI.out y).trans (hh.2.mono (XI.out y).size))⟩))
  have X6 := Lib.hid (fun y : Wd I => wd_call (I := I) (v := .int .i64 v6) ((C6.out y.w (XI.out y)).mono fun e w' hh => ⟨hh.1, hI2 _ ((XI.out y).trans (hh.2.mono (XI.out y).size))⟩))
  have X9 := Lib.hid (fun y : Wd I => wd_call (I := I) (v := .int .i64 v9) ((C9.out y.w (XI.out y)).mono fun e w' hh => ⟨hh.1, hI2 _ ((XI.out y).trans (hh.2.mono (XI.out y).size))⟩))
  clear C5 C6 C9 c1 c4 c5 c6 c9 hI1 hI2
  go_enter Try.func5, Try.ntmps5
  go_wp2_with fail
  rw [HW.out]
  have w1 : IntKind.i64.wrap ((T.size : Int) / 10) = (T.size : Int) / 10 := IntWalk.i64_in _ (by omega)
  have w2 : IntKind.i64.wrap (1 + (T.size : Int) / 10) = 1 + (T.size : Int) / 10 := IntWalk.i64_in _ (by omega)
  have w3 : IntKind.i64.wrap (1 + (T.size : Int) / 10 + on) = 1 + (T.size : Int) / 10 + on := IntWalk.i64_in _ (by omega)
  have w4 : IntKind.i64.wrap (1 + (T.size : Int) / 10 + on + v5) = 1 + (T.size : Int) / 10 + on + v5 := IntWalk.i64_in _ (by omega)
  have w5 : IntKind.i64.wrap (1 + (T.size : Int) / 10 + on + v5 + v6) = 1 + (T.size : Int) / 10 + on + v5 + v6 := IntWalk.i64_in _ (by omega)
  have w6 : IntKind.i64.wrap (1 + (T.size : Int) / 10 + on + v5 + v6 + v9) = 1 + (T.size : Int) / 10 + on + v5 + v6 + v9 := IntWalk.i64_in _ (by omega)
  refine wp_region_wd I (by kernel_rfl) (by kernel_rfl) hI ?_
  repeat (go_big_quiet_step (first | (go_at_call 26; with_reducible exact X9.out _) | (go_at_call 25; first | with_reducible exact X5.out _ | with_reducible exact X6.out _)))
  refine wpQuiet_nil ?_
  intro _ hw'
  obtain ⟨x, rfl⟩ := hw'
  have HBX := Lib.hid (XI.out x)
  generalize x.w = w1' at *
  have HNEW : Hid ((1 + (T.size : Int) / 10 + on + v5 + v6 + v9) = ((1 + T.size / 10 + on + v5 + v6 + v9 : Nat) : Int)) := Lib.hid (by omega)
  clear g1 g4 g5 g6 g9 X5 X6 X9 XI w1 w2 w3 w4 w5 w6
  go_wp2
  go_loopw [3, 4] (fun n i wr => ∃ k m : Nat, k ≤ rs.length ∧ i = .int .i64 k ∧ n = .int .i64 m ∧ Hid (foldS (F7 g7) m (rs.drop k) = R1) ∧ Hid (Below W.heap.size W wr)) (fun _ i _ => rs.length - (intOf i).toNat)
  case atStart => exact ⟨0, _, Nat.zero_le _, rfl, by rw [← HNEW.out], HR1, HBX⟩
  case round =>
    obtain ⟨k, m, hk, rfl, rfl, hT, hS⟩ := hrel
    have d7 := (hS.out.cell (p := ⟨w.heap.size, 7, none⟩) hwW).trans c7
    by_cases hlt : k < rs.length ∧ m ≤ 1000
    · obtain ⟨hlt, hm⟩ := hlt
      have hx := List.getElem?_eq_getElem hlt
      obtain ⟨b, off, rfl, -, hb0, hcell⟩ := cells_at H7.out hx
      have hp := K7.out rs[k] (List.getElem_mem hlt)
      have hgb := G7.out rs[k] (List.getElem_mem hlt)
      have hn := foldS_next hT.out hlt hm
      obtain ⟨I, hI1, hI2⟩ : ∃ I : World → Prop, (∀ w', I w' → Below W.heap.size W w') ∧ (∀ w', Below W.heap.size W w' → I w') := ⟨_, fun _ h => h, fun _ h => h⟩
      have hI : I wr.drew := hI2 _ (below_drew hS.out)
      have hne : Nonempty (Wd I) := ⟨⟨_, hI⟩⟩
      have XI := Lib.hid (fun x : Wd I => hI1 _ x.ok)
      have XS := Lib.hid (fun y : Wd I => wd_call (I := I) (v := .int .i64 (g7 rs[k])) ((C7.out rs[k] (List.getElem_mem hlt) y.w (XI.out y)).mono fun e w' hh => ⟨hh.1, hI2 _ ((XI.out y).trans (hh.2.mono (XI.out y).size))⟩))
      clear hx hI1 hI2
      generalize rs[k] = p at *
      obtain ⟨U, zk, pa, pc, ps, V, he, s1, s2, -, -⟩ := hp.redir
      unfold F7 at hn
      have e0 : p.s 0 = U := by rw [he]; rfl
      have e3 : p.s 3 = V := by rw [he]; rfl
      have e2 : (rwrd p).cs = [.slice pa ps.length pc] := by rw [he]; rfl
      have e5 : p.cs = [.string U, .int .i64 zk, .slice pa ps.length pc, .string V] := by rw [he]; rfl
      rw [e0, e3] at hn
      rw [e2] at XS
      rw [e5] at hcell
      generalize g7 p = J at *
      have HN := Lib.hid hn
      have t7 := fun y : Wd I => ((XI.out y).cell (p := ⟨w.heap.size, 7, none⟩) hwW).trans c7
      have d0 := fun y : Wd I => ((HY.out _ (XI.out y)).cell (p := ⟨b, off + k * 4, none⟩) hb0).trans (hcell 0 (by omega))
      have d2 := fun y : Wd I => ((HY.out _ (XI.out y)).cell (p := ⟨b, off + k * 4 + 2, none⟩) hb0).trans (hcell 2 (by omega))
      have d3 := fun y : Wd I => ((HY.out _ (XI.out y)).cell (p := ⟨b, off + k * 4 + 3, none⟩) hb0).trans (hcell 3 (by omega))
      simp only [List.getElem?_cons_zero, List.getElem?_cons_succ] at d0 d2 d3
      clear hp hcell hn e0 e3 e2 e5 he
      go_wp2_with fail
      have w1 : IntKind.i64.wrap ((U.size : Int) / 10) = (U.size : Int) / 10 := IntWalk.i64_in _ (by omega)
      have w2 : IntKind.i64.wrap ((V.size : Int) / 10) = (V.size : Int) / 10 := IntWalk.i64_in _ (by omega)
      have w3 : IntKind.i64.wrap ((m : Int) + 1 + (U.size : Int) / 10) = (m : Int) + 1 + (U.size : Int) / 10 := IntWalk.i64_in _ (by omega)
      have w4 : IntKind.i64.wrap ((m : Int) + 1 + (U.size : Int) / 10 + (V.size : Int) / 10) = (m : Int) + 1 + (U.size : Int) / 10 + (V.size : Int) / 10 := IntWalk.i64_in _ (by omega)
      have w5 : IntKind.i64.wrap ((m : Int) + 1 + (U.size : Int) / 10 + (V.size : Int) / 10 + J) = (m : Int) + 1 + (U.size : Int) / 10 + (V.size : Int) / 10 + J := IntWalk.i64_in _ (by omega)
      refine wp_region_wd I (by kernel_rfl) (by kernel_rfl) hI ?_
      repeat (go_big_quiet_step (first | (go_at_call 27; with_reducible exact XS.out _)))
      refine wpQuiet_nil ?_
      intro _ hw'
      obtain ⟨x, rfl⟩ := hw'
      have HB3 := Lib.hid (XI.out x)
      have HN2 : Hid (((m : Int) + 1 + (U.size : Int) / 10 + (V.size : Int) / 10 + J) = ((m + (1 + U.size / 10 + V.size / 10 + J) : Nat) : Int)) := Lib.hid (by omega)
      clear t7 d0 d2 d3 w1 w2 w3 w4 w5
      go_wp2
      go_roundw
      case rel => exact ⟨k + 1, _, by omega, by go_num, by rw [← HN2.out], HN, HB3⟩
      case measure => simp [intOf]; omega
    · have hmR : m = R1 := by
        by_cases h1 : k < rs.length
        · exact foldS_over hT.out h1 (by omega)
        · obtain rfl : k = rs.length := by omega
          exact foldS_all hT.out
      have hout : (k < rs.length ∧ ¬ (m : Int) ≤ 1000) ∨ k = rs.length := by
        by_cases h1 : k < rs.length
        · exact .inl ⟨h1, fun h2 => hlt ⟨h1, by omega⟩⟩
        · exact .inr (by omega)
      clear hT hlt
      subst hmR
      have HS1 := hS
      have H2 : Hid (foldS (F8 g8 gB) m (ms.drop 0) = R2) := Lib.hid (by rw [List.drop_zero]; exact HR2.out)
      clear hS
      rcases hout with ⟨hlt, hm2⟩ | rfl
      all_goals go_wp2
      all_goals
        go_loopw [3, 5] (fun n i wr => ∃ k m : Nat, k ≤ ms.length ∧ i = .int .i64 k ∧ n = .int .i64 m ∧ Hid (foldS (F8 g8 gB) m (ms.drop k) = R2) ∧ Hid (Below W.heap.size W wr)) (fun _ i _ => ms.length - (intOf i).toNat)
        case atStart => exact ⟨0, _, Nat.zero_le _, rfl, rfl, H2, HS1⟩
        case round =>
          rename World => wx
          clear d7 c7
          obtain ⟨j, q, hj, rfl, rfl, hT, hS⟩ := hrel
          have d8 := (hS.out.cell (p := ⟨w.heap.size, 8, none⟩) hwW).trans c8
          by_cases hlt2 : j < ms.length
          · by_cases hq : q ≤ 1000
            · have hx := List.getElem?_eq_getElem hlt2
              obtain ⟨b, off, rfl, -, hb0, hcell⟩ := cells_at H8.out hx
              have hp := K8.out ms[j] (List.getElem_mem hlt2)
              obtain ⟨hga, hgb⟩ := G8.out ms[j] (List.getElem_mem hlt2)
              have hn := foldS_next hT.out hlt2 hq
              obtain ⟨I, hI1, hI2⟩ : ∃ I : World → Prop, (∀ w', I w' → Below W.heap.size W w') ∧ (∀ w', Below W.heap.size W w' → I w') := ⟨_, fun _ h => h, fun _ h => h⟩
              have hI : I wx.drew := hI2 _ (below_drew hS.out)
              have hne : Nonempty (Wd I) := ⟨⟨_, hI⟩⟩
              have XI := Lib.hid (fun x : Wd I => hI1 _ x.ok)
              have XP := Lib.hid (fun y : Wd I => wd_call (I := I) (v := .int .i64 (g8 ms[j])) ((C8.out ms[j] (List.getElem_mem hlt2) y.w (XI.out y)).mono fun e w' hh => ⟨hh.1, hI2 _ ((XI.out y).trans (hh.2.mono (XI.out y).size))⟩))
              have XB := Lib.hid (fun y : Wd I => wd_call (I := I) (v := .int .i64 (gB ms[j])) ((CB.out ms[j] (List.getElem_mem hlt2) y.w (XI.out y)).mono fun e w' hh => ⟨hh.1, hI2 _ ((XI.out y).trans (hh.2.mono (XI.out y).size))⟩))
              clear hx hI1 hI2
              generalize ms[j] = p at *
              obtain ⟨pa, pc, ps, zk, zs, z1, z2, zoa, zon, zoc, zaa, zan, zac, zwa, zwn, zwc, zra, zrn, zrc, zma, zmn, zmc, zka, zkn, zkc, hr0, hcs, hbc, -, -⟩ := hp.arm11
              have hc0 : p.c 0 = .slice pa ps.length pc := by unfold Tr.c; rw [hcs]; rfl
              unfold F8 at hn
              rw [hcs] at hcell
              rw [hc0] at XP
              rw [hbc] at XB
              generalize g8 p = J at *
              generalize gB p = K at *
              have HN := Lib.hid hn
              have t8 := fun y : Wd I => ((XI.out y).cell (p := ⟨w.heap.size, 8, none⟩) hwW).trans c8
              have e0 := fun y : Wd I => ((HY.out _ (XI.out y)).cell (p := ⟨b, off + j * 11, none⟩) hb0).trans (hcell 0 (by omega))
              have e1 := fun y : Wd I => ((HY.out _ (XI.out y)).cell (p := ⟨b, off + j * 11 + 1, none⟩) hb0).trans (hcell 1 (by omega))
              have e2 := fun y : Wd I => ((HY.out _ (XI.out y)).cell (p := ⟨b, off + j * 11 + 2, none⟩) hb0).trans (hcell 2 (by omega))
              have e3 := fun y : Wd I => ((HY.out _ (XI.out y)).cell (p := ⟨b, off + j * 11 + 3, none⟩) hb0).trans (hcell 3 (by omega))
              have e4 := fun y : Wd I => ((HY.out _ (XI.out y)).cell (p := ⟨b, off + j * 11 + 4, none⟩) hb0).trans (hcell 4 (by omega))
              have e5 := fun y : Wd I => ((HY.out _ (XI.out y)).cell (p := ⟨b, off + j * 11 + 5, none⟩) hb0).trans (hcell 5 (by omega))
              have e6 := fun y : Wd I => ((HY.out _ (XI.out y)).cell (p := ⟨b, off + j * 11 + 6, none⟩) hb0).trans (hcell 6 (by omega))
              have e7 := fun y : Wd I => ((HY.out _ (XI.out y)).cell (p := ⟨b, off + j * 11 + 7, none⟩) hb0).trans (hcell 7 (by omega))
              have e8 := fun y : Wd I => ((HY.out _ (XI.out y)).cell (p := ⟨b, off + j * 11 + 8, none⟩) hb0).trans (hcell 8 (by omega))
              have e9 := fun y : Wd I => ((HY.out _ (XI.out y)).cell (p := ⟨b, off + j * 11 + 9, none⟩) hb0).trans (hcell 9 (by omega))
              have e10 := fun y : Wd I => ((HY.out _ (XI.out y)).cell (p := ⟨b, off + j * 11 + 10, none⟩) hb0).trans (hcell 10 (by omega))
              simp only [List.getElem?_cons_zero, List.getElem?_cons_succ] at e0 e1 e2 e3 e4 e5 e6 e7 e8 e9 e10
              clear hp hcell hr0 hcs hbc hc0 hn
              go_wp2_with fail
              refine wp_region_wd I (by kernel_rfl) (by kernel_rfl) hI ?_
              repeat (go_big_quiet_step (first | (go_at_call 25; with_reducible exact XP.out _) | (go_at_call 5; with_reducible exact XB.out _)))
              refine wpQuiet_nil ?_
              intro _ hw'
              obtain ⟨x, rfl⟩ := hw'
              have HB3 := Lib.hid (XI.out x)
              clear t8 e0 e1 e2 e3 e4 e5 e6 e7 e8 e9 e10
              have HN2 : Hid (((q : Int) + 1 + J + K) = ((q + (1 + J + K) : Nat) : Int)) := Lib.hid (by omega)
              go_wp2
              go_roundw
              case rel => exact ⟨j + 1, _, by omega, by go_num, by rw [← HN2.out], HN, HB3⟩
              case measure => simp [intOf]; omega
            · have HO := Lib.hid (foldS_over hT.out hlt2 hq)
              have hq2 : ¬ (q : Int) ≤ 1000 := by omega
              clear hq
              go_wp2
              go_ret
              exact ⟨by rw [HO.out]; rfl, HY.out _ hS.out⟩
          · obtain rfl : j = ms.length := by omega
            have HO := Lib.hid (foldS_all hT.out)
            go_wp2
            go_ret
            exact ⟨by rw [HO.out]; rfl, HY.out _ hS.out⟩
end Go.Proofs.Ytpjcmhlgdgadjaa
