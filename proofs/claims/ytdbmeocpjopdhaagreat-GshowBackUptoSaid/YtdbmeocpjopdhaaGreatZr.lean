/- awake. -/
import Derived.Test.YtdbmeocpjopdhaaGreatZn
import Derived.Test.YtdbmeocpjopdhaaGreatZa
namespace Go.Proofs.YtdbmeocpjopdhaaGreat
open Go.RowKit
set_option linter.unusedVariables false
/-- The grammar that awake shows. -/
def gA (v1 v2 : Value) : Gm := ⟨[⟨#[65]⟩], [⟨#[115]⟩], 2, [⟨2, v1, [1, 2]⟩, ⟨2, v2, []⟩]⟩
theorem gA_small (v1 v2 : Value) : (gA v1 v2).small := by
  refine ⟨?_, ?_, by simp [gA], by simp [gA], by simp [gA], ?_⟩
  · intro s hs; rw [List.mem_singleton.1 hs]; decide
  · intro s hs; rw [List.mem_singleton.1 hs]; decide
  · intro r hr
    simp only [gA, List.mem_cons, List.not_mem_nil, or_false] at hr
    rcases hr with rfl | rfl <;> simp
theorem gA_ints (v1 v2 : Value) : (gA v1 v2).ints := by
  refine ⟨by simp [gA], ?_⟩
  intro r hr
  simp only [gA, List.mem_cons, List.not_mem_nil, or_false] at hr
  rcases hr with rfl | rfl
  · refine ⟨by simp, ?_⟩
    intro s hs
    simp only [List.mem_cons, List.not_mem_nil, or_false] at hs
    rcases hs with rfl | rfl <;> decide
  · exact ⟨by simp, by simp⟩
theorem gA_few (v1 v2 : Value) : (gA v1 v2).few = true := rfl
theorem gA_form (v1 v2 : Value) : (gA v1 v2).form = true := by
  have h : (gA (.bool true) (.bool true)).form = true := by kernel_rfl
  exact h
theorem gA_once (v1 v2 : Value) : (gA v1 v2).once = true := by
  have h : (gA (.bool true) (.bool true)).once = true := by
    unfold Gm.once gA
    rw [decide_eq_true_eq]
    simp [List.nodup_cons]
  exact h
theorem gA_known (v1 v2 : Value) : (gA v1 v2).known = true := rfl
theorem gA_each (v1 v2 : Value) : (gA v1 v2).each = true := rfl
open Classical in
theorem gA_unlike (v1 v2 : Value) : (gA v1 v2).unlike = true := by
  unfold Gm.unlike
  rw [decide_eq_true_eq]
  intro i j x r hj hx hr
  have hi := (List.getElem?_eq_some_iff.1 hr).1
  have hi2 : i < 2 := hi
  have h1 : i = 1 := by omega
  have h0 : j = 0 := by omega
  subst h1
  subst h0
  simp only [gA, List.getElem?_cons_zero, List.getElem?_cons_succ, Option.some.injEq] at hx hr
  subst hx
  subst hr
  rfl
theorem gA_check (v1 v2 : Value) : (gA v1 v2).check = 0 := by
  unfold Gm.check
  rw [gA_few, gA_form, gA_once, gA_known, gA_unlike, gA_each]
  rfl
open Classical in
theorem gA_ordered (v1 v2 : Value) : (gA v1 v2).ordered = true := by
  unfold Gm.ordered
  rw [decide_eq_true_eq]
  intro i x y hx hy
  have hi := (List.getElem?_eq_some_iff.1 hy).1
  unfold Gm.firsts at hi
  rw [List.length_map, List.length_range] at hi
  have : (gA v1 v2).N.length = 1 := rfl
  omega
theorem gA_show (v1 v2 : Value) : str (gA v1 v2).showL = ⟨#[37, 116, 111, 107, 101, 110, 32, 65, 10, 37, 115, 116, 97, 114, 116, 32, 115, 10, 37, 37, 10, 115, 32, 58, 32, 65, 32, 115, 10, 9, 124, 10, 9, 59, 10]⟩ := by
  unfold Gm.showL
  rw [if_pos ⟨gA_check v1 v2, gA_ordered v1 v2⟩]
  have h : str ((gA (.bool true) (.bool true)).headsL ++ ((gA (.bool true) (.bool true)).rulesL 0 (gA (.bool true) (.bool true)).R ++ [10, 9, 59, 10])) = ⟨#[37, 116, 111, 107, 101, 110, 32, 65, 10, 37, 115, 116, 97, 114, 116, 32, 115, 10, 37, 37, 10, 115, 32, 58, 32, 65, 32, 115, 10, 9, 124, 10, 9, 59, 10]⟩ := by
    rw [show (gA (.bool true) (.bool true)).headsL = [37, 116, 111, 107, 101, 110, 32, 65, 10, 37, 115, 116, 97, 114, 116, 32, 115, 10, 37, 37, 10] by unfold Gm.headsL; rw [if_neg (by simp [gA])]; rfl]
    rfl
  exact h
theorem gA_rule (v1 v2 : Value) : str ((gA v1 v2).ruleL 2 [1, 2]) = ⟨#[115, 32, 58, 32, 65, 32, 115]⟩ := rfl
/-- The blocks that awake lays. -/
def wA (w : World) : World := ((((w.alloc (.cells #[.string ⟨#[65]⟩] 9)).alloc (.cells #[.string ⟨#[115]⟩] 9)).alloc (.cells #[.int .i64 1, .int .i64 2] 3)).alloc (.cells #[.int .i64 2, .slice (some ⟨w.heap.size + 1 + 1, 0, none⟩) 2 2, .int .i64 2, .slice none 0 0] 40)).alloc (.cells #[.slice (some ⟨w.heap.size, 0, none⟩) 1 1, .slice (some ⟨w.heap.size + 1, 0, none⟩) 1 1, .slice (some ⟨w.heap.size + 1 + 1 + 1, 0, none⟩) 2 2, .int .i64 2] 25)
theorem blk_at {w : World} {t : TypeId} {cs : Array Value} {n : Nat} (h : w.heap.size = n) : Blk (w.alloc (.cells cs t)) n t cs := h ▸ Blk.new w t cs
theorem wA_0 (w : World) : Blk (wA w) w.heap.size 9 #[.string ⟨#[65]⟩] := ((((blk_at rfl).alloc _).alloc _).alloc _).alloc _
theorem wA_1 (w : World) : Blk (wA w) (w.heap.size + 1) 9 #[.string ⟨#[115]⟩] := (((blk_at (by simp)).alloc _).alloc _).alloc _
theorem wA_2 (w : World) : Blk (wA w) (w.heap.size + 1 + 1) 3 #[.int .i64 1, .int .i64 2] := ((blk_at (by simp)).alloc _).alloc _
theorem wA_3 (w : World) : Blk (wA w) (w.heap.size + 1 + 1 + 1) 40 #[.int .i64 2, .slice (some ⟨w.heap.size + 1 + 1, 0, none⟩) 2 2, .int .i64 2, .slice none 0 0] := (blk_at (by simp)).alloc _
theorem wA_4 (w : World) : Blk (wA w) (w.heap.size + 1 + 1 + 1 + 1) 25 #[.slice (some ⟨w.heap.size, 0, none⟩) 1 1, .slice (some ⟨w.heap.size + 1, 0, none⟩) 1 1, .slice (some ⟨w.heap.size + 1 + 1 + 1, 0, none⟩) 2 2, .int .i64 2] := blk_at (by simp)
theorem arr_blk {α : Type} {E : α → Value} {w : World} {b : Nat} {t : TypeId} {l : List α} {cs : Array Value} (h : Blk w b t cs) (hc : cs = (l.map E).toArray) (hl : l.length ≤ 4611686018427387904) : Arr E w (.slice (some ⟨b, 0, none⟩) l.length l.length) l := by
  refine ⟨⟨_, _, rfl, fun k x hx => ⟨b, 0, rfl, h.lt, ?_⟩⟩, hl, fun A n c e => by cases e; exact ⟨Nat.le_refl _, fun e => by cases e⟩⟩
  rw [Nat.zero_add, h.cell k, hc, List.getElem?_toArray, List.getElem?_map, hx]
  rfl
theorem wA_gram (w : World) : GrR (wA w) (.agg #[.slice (some ⟨w.heap.size, 0, none⟩) 1 1, .slice (some ⟨w.heap.size + 1, 0, none⟩) 1 1, .slice (some ⟨w.heap.size + 1 + 1 + 1, 0, none⟩) 2 2, .int .i64 2]) (gA (.slice (some ⟨w.heap.size + 1 + 1, 0, none⟩) 2 2) (.slice none 0 0)) := by
  refine ⟨⟨_, _, _, rfl, arr_blk (E := StrV) (l := ([⟨#[65]⟩] : List ByteArray)) (wA_0 w) rfl (by simp), arr_blk (E := StrV) (l := ([⟨#[115]⟩] : List ByteArray)) (wA_1 w) rfl (by simp), ⟨⟨_, _, rfl, fun k r hr => ⟨_, 0, rfl, (wA_3 w).lt, ?_⟩⟩, by simp [gA], fun A n c e => by cases e; exact ⟨Nat.le_refl _, fun e => by cases e⟩⟩⟩, gA_small _ _⟩
  have hk := (List.getElem?_eq_some_iff.1 hr).1
  have hk2 : k < 2 := hk
  have : k = 0 ∨ k = 1 := by omega
  rcases this with rfl | rfl
  · simp only [gA, List.getElem?_cons_zero, Option.some.injEq] at hr
    subst hr
    exact ⟨(wA_3 w).cell 0, (wA_3 w).cell 1, arr_blk (E := IntV) (l := ([1, 2] : List Int)) (wA_2 w) rfl (by simp)⟩
  · simp only [gA, List.getElem?_cons_zero, List.getElem?_cons_succ, Option.some.injEq] at hr
    subst hr
    exact ⟨(wA_3 w).cell 2, (wA_3 w).cell 3, .nil _ _ _ (fun _ => rfl)⟩
theorem wA_rule (w : World) : RuR (wA w) (.agg #[.int .i64 2, .slice (some ⟨w.heap.size + 1 + 1, 0, none⟩) 2 2]) ⟨2, .slice (some ⟨w.heap.size + 1 + 1, 0, none⟩) 2 2, [1, 2]⟩ := ⟨rfl, arr_blk (E := IntV) (l := ([1, 2] : List Int)) (wA_2 w) rfl (by simp)⟩
theorem wA_below (w : World) : Below w.heap.size w (wA w) := ((((below_alloc w _).alloc (below_alloc w _).size _).alloc ((below_alloc w _).alloc (below_alloc w _).size _).size _).alloc (by simp; omega) _).alloc (by simp; omega) _
set_option maxRecDepth 100000 in
set_option maxHeartbeats 1600000 in
theorem awake_any (w : World) : Calls Tryz.prog 8 #[] w (Says w true) := by
  have HS := Lib.hid (fun y (hy : Below (wA w).heap.size (wA w) y) => show_any ((wA_gram w).later hy) (gA_ints _ _))
  have HR := Lib.hid (fun y (hy : Below (wA w).heap.size (wA w) y) => rule_any ((wA_gram w).later hy) ((wA_rule w).later hy) (by simp) (by simp) (by simp))
  have HB := Lib.hid (wA_below w)
  have B4 := Lib.hid (wA_4 w)
  have B3 := Lib.hid (wA_3 w)
  rw [gA_show] at HS
  simp only [gA_rule] at HR
  go_enter Tryz.func8, Tryz.ntmps8
  go_wp2_with fail
  obtain ⟨I, hI1, hI2⟩ : ∃ I : World → Prop, (∀ w', I w' → Below (wA w).heap.size (wA w) w') ∧ (∀ w', Below (wA w).heap.size (wA w) w' → I w') := ⟨_, fun _ h => h, fun _ h => h⟩
  have hI : I (wA w).drew := hI2 _ (⟨rfl, rfl, rfl, Nat.le_refl _, fun _ _ => rfl⟩)
  have hne : Nonempty (Wd I) := ⟨⟨_, hI⟩⟩
  have XI := Lib.hid (fun x : Wd I => hI1 _ x.ok)
  have XJ := Lib.hid hI2
  clear hI1 hI2
  have g0 : ∀ y : Wd I, y.w.cell? ⟨w.heap.size + 1 + 1 + 1 + 1, 0, none⟩ = some (.slice (some ⟨w.heap.size, 0, none⟩) 1 1) := fun y => (B4.out.below (XI.out y) B4.out.lt).cell 0
  have g1 : ∀ y : Wd I, y.w.cell? ⟨w.heap.size + 1 + 1 + 1 + 1, 1, none⟩ = some (.slice (some ⟨w.heap.size + 1, 0, none⟩) 1 1) := fun y => (B4.out.below (XI.out y) B4.out.lt).cell 1
  have g2 : ∀ y : Wd I, y.w.cell? ⟨w.heap.size + 1 + 1 + 1 + 1, 2, none⟩ = some (.slice (some ⟨w.heap.size + 1 + 1 + 1, 0, none⟩) 2 2) := fun y => (B4.out.below (XI.out y) B4.out.lt).cell 2
  have g3 : ∀ y : Wd I, y.w.cell? ⟨w.heap.size + 1 + 1 + 1 + 1, 3, none⟩ = some (.int .i64 2) := fun y => (B4.out.below (XI.out y) B4.out.lt).cell 3
  have g4 : ∀ y : Wd I, y.w.cell? ⟨w.heap.size + 1 + 1 + 1, 0, none⟩ = some (.int .i64 2) := fun y => (B3.out.below (XI.out y) B3.out.lt).cell 0
  have g5 : ∀ y : Wd I, y.w.cell? ⟨w.heap.size + 1 + 1 + 1, 1, none⟩ = some (.slice (some ⟨w.heap.size + 1 + 1, 0, none⟩) 2 2) := fun y => (B3.out.below (XI.out y) B3.out.lt).cell 1
  have CS := Lib.hid (fun y : Wd I => wd_call (I := I) ((HS.out y.w (XI.out y)).mono fun e w' hh => ⟨hh.1, XJ.out _ ((XI.out y).trans (hh.2.mono (XI.out y).size))⟩))
  have CU := Lib.hid (fun y : Wd I => wd_call (I := I) ((HR.out y.w (XI.out y)).mono fun e w' hh => ⟨hh.1, XJ.out _ ((XI.out y).trans (hh.2.mono (XI.out y).size))⟩))
  refine wp_region_wd I (by kernel_rfl) (by kernel_rfl) hI ?_
  repeat (go_big_quiet_step ((first | (go_at_call 9; exact CS.out _) | (go_at_call 19; exact CU.out _))))
  refine wpQuiet_nil ?_
  intro _ hw'
  obtain ⟨x, rfl⟩ := hw'
  have HB5 := Lib.hid (HB.out.trans ((XI.out x).mono HB.out.size))
  clear g0 g1 g2 g3 g4 g5
  go_wp2
  go_ret
  exact ⟨rfl, HB5.out⟩
end Go.Proofs.YtdbmeocpjopdhaaGreat
