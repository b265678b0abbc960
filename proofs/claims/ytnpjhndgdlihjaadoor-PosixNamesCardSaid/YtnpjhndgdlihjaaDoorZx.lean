/- The POSIX grammar, by the document. PosixNames, walked. -/
import Derived.Test.YtnpjhndgdlihjaaDoorZw
import Derived.Test.YtnpjhndgdlihjaaDoorZu
namespace Go.Proofs.YtnpjhndgdlihjaaDoor
open Go.RowKit
set_option linter.unusedVariables false
def startsB (l : List UInt8) : Bool := match tokens l with
  | .error _ => false
  | .ok ts => match formL ts with
    | .error _ => false
    | .ok x => !x.starts.isEmpty
set_option maxRecDepth 1000000 in
theorem posix_starts : startsB posixT = true := by decide +kernel
theorem posix_starts_ne {ts : List Tk} {x : Txt} (ht : tokens posixT = .ok ts) (hx : formL ts = .ok x) : x.starts ≠ [] := by
  have h := posix_starts
  unfold startsB at h
  rw [ht] at h
  dsimp only at h
  rw [hx] at h
  dsimp only at h
  intro e
  rw [e] at h
  cases h
/-- The document's parser at the POSIX text: the program's grammar. -/
theorem parseP_any {w : World} {s : ByteArray} (hs : s.data.toList = posixT) : ∃ g, parseL posixT = .ok g ∧ Calls Tryd.prog 13 #[.string s] w (ParseEnd w g) := by
  obtain ⟨ts, x, g, h1, h2, h3, h4, h5, h6, h7, h8⟩ := posix_form
  exact ⟨g, h3, parseD_any (posix_size hs) (by rw [hs]; exact h1) h2 h4 h5 h6 h7 h8 (posix_starts_ne h1 h2)⟩
set_option maxRecDepth 1000000 in
theorem pText_any (w : World) : Calls Tryd.prog 14 #[] w fun e w' => ∃ s : ByteArray, s.data.toList = posixT ∧ e = .returned (.string s) ∧ w' = w := by
  go_enter Tryd.func14, Tryd.ntmps14
  go_wp2
  go_ret
  exact ⟨_, by kernel_rfl, rfl, rfl⟩
set_option maxRecDepth 1000000 in
theorem rText30_any (w : World) : Calls Tryd.prog 29 #[] w fun e w' => ∃ s : ByteArray, s.data.toList = posixT ∧ e = .returned (.string s) ∧ w' = w := by
  go_enter Tryd.func29, Tryd.ntmps29
  go_wp2
  go_ret
  exact ⟨_, by kernel_rfl, rfl, rfl⟩
/-- The document's grammar, as it lies. -/
def GramAt (w : World) (g : PG) (e : Ending) (w' : World) : Prop := Below w.heap.size w w' ∧ ∃ tv nv Rv R, e = .returned (.agg #[tv, nv, Rv, .int .i64 g.s]) ∧ Has w w' tv nv Rv g R
set_option maxRecDepth 100000 in
set_option maxHeartbeats 3200000 in
theorem rGram_any (w : World) : ∃ g, parseL posixT = .ok g ∧ Calls Tryd.prog 16 #[] w (GramAt w g) := by
  obtain ⟨ts, x, g, h1, h2, h3, h4, h5, h6, h7, h8⟩ := posix_form
  refine ⟨g, h3, ?_⟩
  have HP := Lib.hid (fun (y : World) (s : ByteArray) (hs : s.data.toList = posixT) => parseD_any (w := y) (posix_size hs) (by rw [hs]; exact h1) h2 h4 h5 h6 h7 h8 (posix_starts_ne h1 h2))
  have HT := Lib.hid rText30_any
  clear h1 h2 h3 h4 h5 h6 h7 h8
  go_enter Tryd.func16, Tryd.ntmps16
  go_wp2_with fail
  refine (HT.out _).mono ?_
  rintro e w1 ⟨s, hs, rfl, rfl⟩
  go_wp2_with fail
  refine (HP.out _ s hs).mono ?_
  rintro e w1 ⟨tv, nv, Rv, R, rfl, hhas, hb1⟩
  have hsz := hb1.size
  simp at hsz
  have hlt : w.heap.size < w1.heap.size := by omega
  have ck0 : Blk w1 w.heap.size 30 #[.slice none 0 0, .slice none 0 0, .slice none 0 0, .int .i64 0] := (Blk.new w 30 _).below hb1 (by simp)
  obtain ⟨c0, c1, c2, c3⟩ := blk4 ck0
  have f0 := ck0.frozen 0
  have f1 := ck0.frozen 1
  have f2 := ck0.frozen 2
  have f3 := ck0.frozen 3
  have HK := Lib.hid ck0
  have HH := Lib.hid hhas
  have HB := Lib.hid hb1
  obtain ⟨A1, c1', rfl⟩ := own_shape hhas.ft
  obtain ⟨A2, c2', rfl⟩ := own_shape hhas.fn
  obtain ⟨A3, c3', rfl⟩ := own_shape hhas.fR
  clear hb1 hhas ck0
  go_wp2
  have hbk : Blk ((((((w1.setCell ⟨w.heap.size, 0, none⟩ (.slice A1 g.T.length c1')).setCell ⟨w.heap.size, 1, none⟩ (.slice A2 g.N.length c2')).setCell ⟨w.heap.size, 2, none⟩ (.slice A3 R.length c3')).setCell ⟨w.heap.size, 3, none⟩ (.int .i64 g.s)).alloc (.cells #[.slice A1 g.T.length c1', .slice A2 g.N.length c2', .slice A3 R.length c3', .int .i64 g.s] 30)).alloc (.cells #[.int .i64 0, .int .i64 0] 34)) w.heap.size 30 #[.slice A1 g.T.length c1', .slice A2 g.N.length c2', .slice A3 R.length c3', .int .i64 g.s] := ((set4_blk HK.out).alloc _).alloc _
  have hX : Chg (fun k => k = w.heap.size) w1 ((((((w1.setCell ⟨w.heap.size, 0, none⟩ (.slice A1 g.T.length c1')).setCell ⟨w.heap.size, 1, none⟩ (.slice A2 g.N.length c2')).setCell ⟨w.heap.size, 2, none⟩ (.slice A3 R.length c3')).setCell ⟨w.heap.size, 3, none⟩ (.int .i64 g.s)).alloc (.cells #[.slice A1 g.T.length c1', .slice A2 g.N.length c2', .slice A3 R.length c3', .int .i64 g.s] 30)).alloc (.cells #[.int .i64 0, .int .i64 0] 34)) :=
    ((((((Chg.refl (fun k => k = w.heap.size) w1).set (p := ⟨w.heap.size, 0, none⟩) (.inr rfl) _).set (p := ⟨w.heap.size, 1, none⟩) (.inr rfl) _).set (p := ⟨w.heap.size, 2, none⟩) (.inr rfl) _).set (p := ⟨w.heap.size, 3, none⟩) (.inr rfl) _).alloc _).alloc _
  generalize ((((((w1.setCell ⟨w.heap.size, 0, none⟩ (.slice A1 g.T.length c1')).setCell ⟨w.heap.size, 1, none⟩ (.slice A2 g.N.length c2')).setCell ⟨w.heap.size, 2, none⟩ (.slice A3 R.length c3')).setCell ⟨w.heap.size, 3, none⟩ (.int .i64 g.s)).alloc (.cells #[.slice A1 g.T.length c1', .slice A2 g.N.length c2', .slice A3 R.length c3', .int .i64 g.s] 30)).alloc (.cells #[.int .i64 0, .int .i64 0] 34)) = FW at *
  obtain ⟨z0, z1, z2, z3⟩ := blk4 hbk
  refine bodyPost_ret (v := .agg #[.slice A1 g.T.length c1', .slice A2 g.N.length c2', .slice A3 R.length c3', .int .i64 g.s]) (by simp [results, Tryd.results16, go_sem, z0, z1, z2, z3]) rfl ?_
  exact ⟨((below_alloc w _).trans (HB.out.mono (by simp))).trans (hX.below (Nat.le_of_lt hlt) (fun k hk e => by omega)), _, _, _, R, rfl, (HH.out.chg hX (fun k hk e => by simp at hk; omega)).mono (by simp)⟩
end Go.Proofs.YtnpjhndgdlihjaaDoor

namespace Go.Proofs.YtnpjhndgdlihjaaDoor
open Go.RowKit
set_option linter.unusedVariables false
/-- The names at their numbers. -/
def namesB (g : PG) : Bool := (g.T ++ g.N)[0]? == some [87, 79, 82, 68] && (g.T ++ g.N)[1]? == some [65, 83, 83, 73, 71, 78] && (g.T ++ g.N)[2]? == some [78, 65, 77, 69] && (g.T ++ g.N)[3]? == some [78, 85, 77] && (g.T ++ g.N)[4]? == some [78, 69, 87, 76, 73, 78, 69] && (g.T ++ g.N)[37]? == some [73, 110] &&
  g.T.length == 38 && (List.range 17).all fun i => (g.T ++ g.N)[5 + i]? == some ([39] ++ (opersL.getD (i + 1) [] ++ [39]))
set_option maxRecDepth 1000000 in
theorem posix_names : (match parseL posixT with | .ok g => namesB g | .error _ => false) = true := by decide +kernel
theorem names_at {g : PG} (hg : parseL posixT = .ok g) : namesB g = true := by
  have h := posix_names
  rw [hg] at h
  exact h
theorem res_sp (k : Nat) (hk : k < 16) : resI (spT ((k : Int) + 23)) = (k : Int) + 23 := by
  have h : (List.range 16).all (fun k : Nat => decide ((if wordsL.findIdx (fun l => (bs l).data.toList == (spT ((k : Int) + 23)).data.toList) < 16 then (23 : Int) + ((wordsL.findIdx (fun l => (bs l).data.toList == (spT ((k : Int) + 23)).data.toList) : Nat) : Int) else 0) = (k : Int) + 23)) = true := by decide +kernel
  have h1 := List.all_eq_true.1 h k (List.mem_range.2 hk)
  unfold resI
  simp only [Lib.toList_data]
  exact of_decide_eq_true h1
theorem same_ofP {y : World} {u v : Value} {g : PG} {R1 R2 : List RuG} (l1 : Like g (R1.map RuG.ru)) (l2 : Like g (R2.map RuG.ru)) (g1 : GrR y u (Gm.ofP g (R1.map RuG.ru))) (g2 : GrR y v (Gm.ofP g (R2.map RuG.ru))) : Calls Tryd.prog 15 #[u, v] y (Says y true) :=
  same6_any g1 g2 rfl rfl rfl (like_same l1 l2).1 (like_same l1 l2).2
theorem res_at {t : Int} (h1 : 23 ≤ t) (h2 : t ≤ 38) : resI (spT t) = t := by
  have h := res_sp (t - 23).toNat (by omega)
  rwa [show (((t - 23).toNat : Nat) : Int) + 23 = t by omega] at h
theorem spell_op {op : Int} (h : 1 ≤ op ∧ op ≤ 17) : spT (opI op) = opT op := by
  unfold opI
  rw [if_pos h]
  unfold spT
  rw [if_neg (by omega), if_neg (by omega), if_neg (by omega), if_neg (by omega), if_neg (by omega), if_neg (by omega), if_pos (by omega), show 5 + op - 5 = op by omega]
theorem oper_small (k : Nat) : (bs (opersL.getD k [])).size ≤ 3 := by
  by_cases hk : k < 18
  · have h : (List.range 18).all (fun k => decide ((bs (opersL.getD k [])).size ≤ 3)) = true := by decide +kernel
    exact of_decide_eq_true (List.all_eq_true.1 h k (List.mem_range.2 hk))
  · rw [List.getD_eq_getElem?_getD, List.getElem?_eq_none (by show 18 ≤ k; omega)]
    decide
theorem opT_small (op : Int) : (opT op).size ≤ 3 := by
  unfold opT
  split
  · decide
  · exact oper_small _
theorem name_op {g : PG} {l : List Ru} (hN : namesB g = true) {op : Int} (h : 1 ≤ op ∧ op ≤ 17) : (((Gm.ofP g l).name (opI op)).toList == ((⟨#[39]⟩ : ByteArray) ++ opT op ++ ⟨#[39]⟩).toList) = true := by
  unfold namesB at hN
  simp only [Bool.and_eq_true] at hN
  have h1 := List.all_eq_true.1 hN.2 (op - 1).toNat (List.mem_range.2 (by omega))
  rw [beq_iff_eq] at h1
  have e : opI op = 5 + op := by unfold opI; rw [if_pos h]
  rw [e, name_ofP (g := g) (l := l) (s := 5 + op) (by omega) (by rw [show (5 + op - 1).toNat = 5 + (op - 1).toNat by omega]; exact h1), show (op - 1).toNat + 1 = op.toNat by omega]
  unfold opT
  rw [if_neg (by omega), beq_iff_eq]
  simp [Lib.toList_data, str, bs]
theorem name_six {g : PG} (hN : namesB g = true) (l : List Ru) : (((Gm.ofP g l).name 1).toList == [87, 79, 82, 68]) = true ∧ (((Gm.ofP g l).name 2).toList == [65, 83, 83, 73, 71, 78]) = true ∧ (((Gm.ofP g l).name 3).toList == [78, 65, 77, 69]) = true ∧ (((Gm.ofP g l).name 4).toList == [78, 85, 77]) = true ∧ (((Gm.ofP g l).name 5).toList == [78, 69, 87, 76, 73, 78, 69]) = true ∧ (((Gm.ofP g l).name 38).toList == [73, 110]) = true ∧ g.T.length = 38 := by
  unfold namesB at hN
  simp only [Bool.and_eq_true, beq_iff_eq] at hN
  obtain ⟨⟨⟨⟨⟨⟨⟨a1, a2⟩, a3⟩, a4⟩, a5⟩, a6⟩, a7⟩, -⟩ := hN
  refine ⟨?_, ?_, ?_, ?_, ?_, ?_, a7⟩
  · rw [name_ofP (by decide) a1, beq_iff_eq]; simp [Lib.toList_data, str]
  · rw [name_ofP (by decide) a2, beq_iff_eq]; simp [Lib.toList_data, str]
  · rw [name_ofP (by decide) a3, beq_iff_eq]; simp [Lib.toList_data, str]
  · rw [name_ofP (by decide) a4, beq_iff_eq]; simp [Lib.toList_data, str]
  · rw [name_ofP (by decide) a5, beq_iff_eq]; simp [Lib.toList_data, str]
  · rw [name_ofP (by decide) a6, beq_iff_eq]; simp [Lib.toList_data, str]
theorem gm_name {y : World} {v : Value} {gm : Gm} {s : Int} {n : ByteArray} (h : GrR y v gm) (hn : gm.name s = n) (hs : -9223372036854775808 ≤ s) : Calls Tryd.prog 18 #[v, .int .i64 s] y (Text y n) := hn ▸ rgname_any h s hs
set_option maxRecDepth 100000 in
set_option maxHeartbeats 6400000 in
theorem names_law0 (op term : Int) (ho : -9223372036854775808 ≤ op) (ht : -9223372036854775808 ≤ term) {w : World} (hm : HasMax w) (hT : HasTabs w) : Calls Tryd.prog 4 #[.int .i64 op, .int .i64 term] w (fun e w' => e = .returned (.bool true) ∧ Below w.heap.size w w') := by
  have HA := Lib.hid (fun y (hy : Below w.heap.size w y) => awake_any (hm.later hy) (hT.later hy))
  have HTB := Lib.hid (fun y (hy : Below w.heap.size w y) => hT.later hy)
  have HPG := Lib.hid (pGram_any hm)
  have HTX := Lib.hid pText_any
  have HPP := Lib.hid (fun (y : World) (s : ByteArray) (hs : s.data.toList = posixT) => parseP_any (w := y) hs)
  have HRG := Lib.hid rGram_any
  clear hm hT
  go_enter Tryd.func4, Tryd.ntmps4
  go_wp2_with fail
  refine HPG.out.mono ?_
  rintro e w1 ⟨hb1, tv, nv, Rv, R, g, hg, hB, rfl, hhas⟩
  have hgood := parse_good hg
  have HNB := Lib.hid (names_at hg)
  have HGR := Lib.hid (Has.gram hhas hgood)
  have HLK := Lib.hid (like_has hhas)
  obtain ⟨A1, c1, rfl⟩ := own_shape hhas.ft
  obtain ⟨A2, c2, rfl⟩ := own_shape hhas.fn
  obtain ⟨A3, c3, rfl⟩ := own_shape hhas.fR
  have HB1 := Lib.hid (hb1.alloc hb1.size (.cells #[.slice A1 g.T.length c1, .slice A2 g.N.length c2, .slice A3 R.length c3, .int .i64 g.s] 30))
  have HGB := Lib.hid (Blk.new w1 30 #[.slice A1 g.T.length c1, .slice A2 g.N.length c2, .slice A3 R.length c3, .int .i64 g.s])
  have HGR1 := Lib.hid (HGR.out.later (below_alloc w1 (.cells #[.slice A1 g.T.length c1, .slice A2 g.N.length c2, .slice A3 R.length c3, .int .i64 g.s] 30)))
  clear hb1 hhas hB
  go_wp2_with fail
  generalize w1.alloc (.cells #[.slice A1 g.T.length c1, .slice A2 g.N.length c2, .slice A3 R.length c3, .int .i64 g.s] 30) = W1 at *
  refine (HTX.out _).mono ?_
  rintro e w2 ⟨s, hs, rfl, rfl⟩
  go_wp2_with fail
  obtain ⟨g2, hg2, hp⟩ := HPP.out w2 s hs
  rw [hg] at hg2
  obtain rfl := Except.ok.inj hg2
  refine hp.mono ?_
  rintro e w3 ⟨tv3, nv3, Rv3, R3, rfl, hhas3, hb3⟩
  have HGR3 := Lib.hid (Has.gram hhas3 hgood)
  have HLK3 := Lib.hid (like_has hhas3)
  obtain ⟨A4, c4, rfl⟩ := own_shape hhas3.ft
  obtain ⟨A5, c5, rfl⟩ := own_shape hhas3.fn
  obtain ⟨A6, c6, rfl⟩ := own_shape hhas3.fR
  have HB3 := Lib.hid (HB1.out.trans (hb3.mono HB1.out.size))
  have HGB3 := Lib.hid (HGB.out.below hb3 HGB.out.lt)
  have HGR13 := Lib.hid (HGR1.out.later hb3)
  clear hb3 hhas3 hs hp hg2
  go_wp2_with fail
  have HBX1 := Lib.hid (below_alloc w3 (.cells #[.slice A4 g.T.length c4, .slice A5 g.N.length c5, .slice A6 R3.length c6, .int .i64 g.s] 30))
  have HBX2 := Lib.hid (below_alloc (w3.alloc (.cells #[.slice A4 g.T.length c4, .slice A5 g.N.length c5, .slice A6 R3.length c6, .int .i64 g.s] 30)) (.cells #[.int .i64 0, .int .i64 0] 34))
  have HBX := Lib.hid (HBX1.out.trans (HBX2.out.mono HBX1.out.size))
  have HWB := Lib.hid (HB3.out.trans (HBX.out.mono HB3.out.size))
  have HGX := Lib.hid (HGB3.out.below HBX.out HGB3.out.lt)
  have HHX := Lib.hid ((Blk.new w3 30 #[.slice A4 g.T.length c4, .slice A5 g.N.length c5, .slice A6 R3.length c6, .int .i64 g.s]).alloc (.cells #[.int .i64 0, .int .i64 0] 34))
  have HFX := Lib.hid (Blk.new (w3.alloc (.cells #[.slice A4 g.T.length c4, .slice A5 g.N.length c5, .slice A6 R3.length c6, .int .i64 g.s] 30)) 34 #[.int .i64 0, .int .i64 0])
  have HGRX := Lib.hid (HGR13.out.later HBX.out)
  have HHRX := Lib.hid (HGR3.out.later HBX.out)
  rw [show (w3.alloc (.cells #[.slice A4 g.T.length c4, .slice A5 g.N.length c5, .slice A6 R3.length c6, .int .i64 g.s] 30)).heap.size = w3.heap.size + 1 by simp] at HFX
  clear HBX1 HBX2 HBX HB1 HGB HGR1 HB3 HGB3 HGR13 HGR3 HGR HTX HPG HPP
  generalize (w3.alloc (.cells #[.slice A4 g.T.length c4, .slice A5 g.N.length c5, .slice A6 R3.length c6, .int .i64 g.s] 30)).alloc (.cells #[.int .i64 0, .int .i64 0] 34) = W at *
  generalize w3.heap.size = hb at *
  generalize w1.heap.size = gb at *
  have HSX : Hid (∀ y, Below W.heap.size W y → y.cell? ⟨gb, 0, none⟩ = some (.slice A1 g.T.length c1) ∧ y.cell? ⟨gb, 1, none⟩ = some (.slice A2 g.N.length c2) ∧ y.cell? ⟨gb, 2, none⟩ = some (.slice A3 R.length c3) ∧ y.cell? ⟨gb, 3, none⟩ = some (.int .i64 g.s) ∧ y.cell? ⟨hb, 0, none⟩ = some (.slice A4 g.T.length c4) ∧ y.cell? ⟨hb, 1, none⟩ = some (.slice A5 g.N.length c5) ∧ y.cell? ⟨hb, 2, none⟩ = some (.slice A6 R3.length c6) ∧ y.cell? ⟨hb, 3, none⟩ = some (.int .i64 g.s) ∧ y.cell? ⟨hb + 1, 0, none⟩ = some (.int .i64 0)) := Lib.hid (fun y hy => by
    obtain ⟨a0, a1, a2, a3⟩ := blk4 (HGX.out.below hy HGX.out.lt)
    obtain ⟨b0, b1, b2, b3⟩ := blk4 (HHX.out.below hy HHX.out.lt)
    obtain ⟨d0, -⟩ := blk2 (HFX.out.below hy HFX.out.lt)
    exact ⟨a0, a1, a2, a3, b0, b1, b2, b3, d0⟩)
  have HG0 := Lib.hid (HGRX.out.later (below_drewD W))
  have HH0 := Lib.hid (HHRX.out.later (below_drewD W))
  have HC0 := Lib.hid (below_drewD W)
  have HRE : Hid (∀ y, Calls Tryd.prog 16 #[] y (GramAt y g)) := Lib.hid (fun y => by
    obtain ⟨g5, hg5, hp5⟩ := HRG.out y
    rw [hg] at hg5
    exact (Except.ok.inj hg5) ▸ hp5)
  clear HRG
  have HSZ := Lib.hid (And.intro HGX.out.lt (And.intro HHX.out.lt HFX.out.lt))
  go_upto_region 3 with fail
  go_cut [29] (fun p wx => p = .bool false ∧ Hid (Below W.heap.size W wx))
  case first =>
    go_region_held3 (fun w' => w'.cell? ⟨gb, 0, none⟩ = some (.slice A1 g.T.length c1) ∧ w'.cell? ⟨gb, 1, none⟩ = some (.slice A2 g.N.length c2) ∧ w'.cell? ⟨gb, 2, none⟩ = some (.slice A3 R.length c3) ∧ w'.cell? ⟨gb, 3, none⟩ = some (.int .i64 g.s) ∧ w'.cell? ⟨hb, 0, none⟩ = some (.slice A4 g.T.length c4) ∧ w'.cell? ⟨hb, 1, none⟩ = some (.slice A5 g.N.length c5) ∧ w'.cell? ⟨hb, 2, none⟩ = some (.slice A6 R3.length c6) ∧ w'.cell? ⟨hb, 3, none⟩ = some (.int .i64 g.s) ∧ w'.cell? ⟨hb + 1, 0, none⟩ = some (.int .i64 0))
      (first | exact HSX.out _ HC0.out | exact HSX.out _ ⟨rfl, rfl, rfl, Nat.le_refl _, fun _ _ => rfl⟩)
      (first
        | (go_at_call 16
           refine (HRE.out _).mono ?_
           rintro e w5 ⟨hb5, t5, n5, V5, R5, rfl, hhas5⟩
           have HG5 := Lib.hid (Has.gram hhas5 hgood)
           have HLK5 := Lib.hid (like_has hhas5)
           have HG1 := Lib.hid (HG0.out.later hb5)
           have HH1 := Lib.hid (HH0.out.later hb5)
           have HC1 := Lib.hid (HC0.out.trans (hb5.mono HC0.out.size))
           clear HG0 HH0 HC0 hb5 hhas5
           have HG0 := HG1
           have HH0 := HH1
           have HC0 := HC1
           clear HG1 HH1 HC1)
        | (go_at_call 15
           first
             | (with_reducible refine (same_ofP HLK.out HLK5.out HG0.out HG5.out).mono ?_)
             | (with_reducible refine (same_ofP HLK.out HLK3.out HG0.out HH0.out).mono ?_)
           rintro e w6 ⟨rfl, hb6⟩
           have HG1 := Lib.hid (HG0.out.later hb6)
           have HH1 := Lib.hid (HH0.out.later hb6)
           have HC1 := Lib.hid (HC0.out.trans (hb6.mono HC0.out.size))
           try (have HG6 := Lib.hid (HG5.out.later hb6); clear HG5; have HG5 := HG6; clear HG6)
           clear HG0 HH0 HC0 hb6
           have HG0 := HG1
           have HH0 := HH1
           have HC0 := HC1
           clear HG1 HH1 HC1))
    all_goals go_wp2_with fail
    all_goals go_meet
    all_goals first
      | exact ⟨rfl, HC0⟩
      | trace_state
  case rest =>
    obtain ⟨rfl, HC1⟩ := hcut
    rename World => W4
    have HW4 := Lib.hid (HWB.out.trans (HC1.out.mono HWB.out.size))
    have HGB := Lib.hid (HGX.out.below HC1.out HGX.out.lt)
    have HGR := Lib.hid (HGRX.out.later HC1.out)
    clear HGX HHX HFX HGRX HHRX HSX HG0 HH0 HC0 HRE HSZ HC1 HWB HLK HLK3
    go_wp2_with fail
    refine (rText_any op W4).mono ?_
    rintro e w5 ⟨rfl, rfl⟩
    go_upto_region 6 with fail
    go_cut [50] (fun p wx => p = .bool false ∧ Hid (Below W4.heap.size W4 wx))
    case first =>
      obtain ⟨I, hI1, hI2⟩ : ∃ I : World → Prop, (∀ w', I w' → Below W4.heap.size W4 w') ∧ (∀ w', Below W4.heap.size W4 w' → I w') := ⟨_, fun _ h => h, fun _ h => h⟩
      have hI : I W4.drew := hI2 _ (below_drewD W4)
      have hne : Nonempty (Wd I) := ⟨⟨_, hI⟩⟩
      have XI := Lib.hid (fun x : Wd I => hI1 _ x.ok)
      have XJ := Lib.hid hI2
      clear hI1 hI2
      have g0 := fun y : Wd I => (HGB.out.below (XI.out y) HGB.out.lt).cell 0
      have g1 := fun y : Wd I => (HGB.out.below (XI.out y) HGB.out.lt).cell 1
      have g2 := fun y : Wd I => (HGB.out.below (XI.out y) HGB.out.lt).cell 2
      have g3 := fun y : Wd I => (HGB.out.below (XI.out y) HGB.out.lt).cell 3
      simp at g0 g1 g2 g3
      have TY := Lib.hid (fun y : Wd I => HTB.out y.w (HW4.out.trans ((XI.out y).mono HW4.out.size)))
      have q0 := opT_empty op
      by_cases hop : 1 ≤ op ∧ op ≤ 17
      · rw [decide_eq_true hop, Bool.not_true] at q0
        obtain ⟨q, hq⟩ : ∃ q, q = opI op := ⟨_, rfl⟩
        obtain ⟨n, hn⟩ : ∃ n, n = (Gm.ofP g (R.map RuG.ru)).name q := ⟨_, rfl⟩
        have hqb : -9223372036854775808 ≤ q := by rw [hq]; unfold opI; split <;> omega
        have hsp : spT q = opT op := by rw [hq]; exact spell_op hop
        have hz := opT_small op
        have z1 : ¬ (9223372036854775807 < 1 + (opT op).size) := by omega
        have z2 : 1 + (opT op).size ≤ 9223372036854775807 := by omega
        have z3 : ¬ (9223372036854775807 < 1 + (opT op).size + 1) := by omega
        have z4 : 1 + (opT op).size + 1 ≤ 9223372036854775807 := by omega
        have z5 : ¬ (9223372036854775807 < (opT op).size + 1) := by omega
        have z6 : (opT op).size + 1 ≤ 9223372036854775807 := by omega
        have z7 : ¬ (9223372036854775807 < (opT op).size + 2) := by omega
        have z8 : (opT op).size + 2 ≤ 9223372036854775807 := by omega
        have q1 : (n.toList == (({ data := #[39] } : ByteArray) ++ opT op ++ { data := #[39] }).toList) = true := by rw [hn, hq]; exact name_op HNB.out hop
        have CO := Lib.hid (fun y : Wd I => wd_call (I := I) (v := .int .i64 q) ((pOp_any op (TY.out y)).mono fun e w' hh => ⟨by rw [hq]; exact hh.1, hh.2 ▸ y.ok⟩))
        have CS := Lib.hid (fun y : Wd I => wd_call (I := I) (v := .string (opT op)) ((pSpell_any q hqb (TY.out y)).mono fun e w' hh => ⟨by rw [← hsp]; exact hh.1, hh.2 ▸ y.ok⟩))
        have CN := Lib.hid (fun y : Wd I => wd_call (I := I) (v := .string n) ((rgname_any (HGR.out.later (XI.out y)) q hqb).mono fun e w' hh => ⟨by rw [hn]; exact hh.1, XJ.out _ ((XI.out y).trans (hh.2.mono (XI.out y).size))⟩))
        clear hn hq hqb hsp hz
        generalize opT op = s0 at *
        refine wp_region_wd I (by kernel_rfl) (by kernel_rfl) hI ?_
        repeat (go_big_quiet_step (first | (go_at_call 6; exact CO.out _) | (go_at_call 10; exact CS.out _) | (go_at_call 18; exact CN.out _)))
        refine wpQuiet_nil ?_
        intro _ hw'
        obtain ⟨x, rfl⟩ := hw'
        go_wp2_with fail
        go_meet
        exact ⟨rfl, Lib.hid (XI.out x)⟩
      · rw [decide_eq_false hop, Bool.not_false] at q0
        generalize opT op = s0 at *
        refine wp_region_wd I (by kernel_rfl) (by kernel_rfl) hI ?_
        repeat (go_big_quiet_step (fail))
        refine wpQuiet_nil ?_
        intro _ hw'
        obtain ⟨x, rfl⟩ := hw'
        go_wp2_with fail
        go_meet
        exact ⟨rfl, Lib.hid (XI.out x)⟩
    case rest =>
      obtain ⟨rfl, HC5⟩ := hcut
      rename World => W5
      have HW5 := Lib.hid (HW4.out.trans (HC5.out.mono HW4.out.size))
      have HGB5 := Lib.hid (HGB.out.below HC5.out HGB.out.lt)
      have HGR5 := Lib.hid (HGR.out.later HC5.out)
      clear HGB HGR HC5 HW4
      go_upto_region 8 with fail
      go_cut [63] (fun p wx => p = .bool false ∧ wx = W5)
      case first =>
        have HT5 := HTB.out _ HW5.out
        have HPS := Lib.hid (pSpell_any term ht HT5)
        by_cases htm : 23 ≤ term ∧ term ≤ 38
        · have HPR := Lib.hid (pRes_any (spT term) HT5)
          rw [res_at htm.1 htm.2] at HPR
          clear HT5
          have k1 : 23 ≤ term := htm.1
          have k2 : term ≤ 38 := htm.2
          go_wp2_with (first | (go_at_call 10; refine HPS.out.mono ?_; rintro e wx ⟨rfl, rfl⟩) | (go_at_call 8; refine HPR.out.mono ?_; rintro e wx ⟨rfl, rfl⟩))
          go_meet
          exact ⟨rfl, rfl⟩
        · clear HT5
          by_cases k1 : 23 ≤ term
          · have k2 : ¬ term ≤ 38 := by omega
            go_wp2_with fail
            go_meet
            exact ⟨rfl, rfl⟩
          · go_wp2_with fail
            go_meet
            exact ⟨rfl, rfl⟩
      case rest =>
        obtain ⟨rfl, rfl⟩ := hcut
        rename World => W5
        obtain ⟨m1, m2, m3, m4, m5, m6, m7⟩ := name_six HNB.out (R.map RuG.ru)
        have HSX : Hid (∀ y, Below W5.heap.size W5 y → y.cell? ⟨gb, 0, none⟩ = some (.slice A1 g.T.length c1) ∧ y.cell? ⟨gb, 1, none⟩ = some (.slice A2 g.N.length c2) ∧ y.cell? ⟨gb, 2, none⟩ = some (.slice A3 R.length c3) ∧ y.cell? ⟨gb, 3, none⟩ = some (.int .i64 g.s)) := Lib.hid (fun y hy => blk4 (HGB5.out.below hy HGB5.out.lt))
        obtain ⟨z0, z1, z2, z3⟩ := blk4 HGB5.out
        rw [m7] at HGR5 HSX z0
        generalize Gm.ofP g (R.map RuG.ru) = gm at *
        have HA1 := Lib.hid (fun y (hy : Below W5.heap.size W5 y) => gm_name (s := 1) (HGR5.out.later hy) rfl (by decide))
        have HA2 := Lib.hid (fun y (hy : Below W5.heap.size W5 y) => gm_name (s := 2) (HGR5.out.later hy) rfl (by decide))
        have HA3 := Lib.hid (fun y (hy : Below W5.heap.size W5 y) => gm_name (s := 3) (HGR5.out.later hy) rfl (by decide))
        have HA4 := Lib.hid (fun y (hy : Below W5.heap.size W5 y) => gm_name (s := 4) (HGR5.out.later hy) rfl (by decide))
        have HA5 := Lib.hid (fun y (hy : Below W5.heap.size W5 y) => gm_name (s := 5) (HGR5.out.later hy) rfl (by decide))
        have HA6 := Lib.hid (fun y (hy : Below W5.heap.size W5 y) => gm_name (s := 38) (HGR5.out.later hy) rfl (by decide))
        generalize gm.name 1 = n1 at *
        generalize gm.name 2 = n2 at *
        generalize gm.name 3 = n3 at *
        generalize gm.name 4 = n4 at *
        generalize gm.name 5 = n5 at *
        generalize gm.name 38 = n6 at *
        have HC : Hid (Below W5.heap.size W5 W5) := Lib.hid (Below.refl _ _)
        clear HGB5 HGR5 HTB HNB m7
        go_wp2_with (first
          | (go_at_call 18
             first
               | (with_reducible refine (HA1.out _ HC.out).mono ?_)
               | (with_reducible refine (HA2.out _ HC.out).mono ?_)
               | (with_reducible refine (HA3.out _ HC.out).mono ?_)
               | (with_reducible refine (HA4.out _ HC.out).mono ?_)
               | (with_reducible refine (HA5.out _ HC.out).mono ?_)
               | (with_reducible refine (HA6.out _ HC.out).mono ?_)
             rintro e wy ⟨rfl, hby⟩
             have HC1 := Lib.hid (HC.out.trans (hby.mono HC.out.size))
             clear hby HC z0 z1 z2 z3
             have HC := HC1
             clear HC1
             obtain ⟨z0, z1, z2, z3⟩ := HSX.out _ HC.out)
          | (go_at_call 5
             refine (HA.out _ (HW5.out.trans (HC.out.mono HW5.out.size))).mono ?_
             rintro e wy ⟨rfl, hby⟩
             have HC1 := Lib.hid (HC.out.trans (hby.mono HC.out.size))
             clear hby HC z0 z1 z2 z3
             have HC := HC1
             clear HC1))
        go_ret
        exact ⟨rfl, HW5.out.trans (HC.out.mono HW5.out.size)⟩
end Go.Proofs.YtnpjhndgdlihjaaDoor
