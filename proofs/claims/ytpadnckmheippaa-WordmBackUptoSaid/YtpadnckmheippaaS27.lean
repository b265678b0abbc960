/- Cmds: the commands in parts, in their order. -/
import Derived.Test.YtpadnckmheippaaS26
namespace Go.Proofs.Ytpadnckmheippaa
open Go.RowKit
set_option linter.unusedVariables false
theorem Try.infoNodes : (Try.prog.info? 41).map (fun i => (i.zero, i.size, i.bytes)) = some (some (.slice none 0 0), 1, 24) := by kernel_rfl
theorem ElNodes : El Try.prog 27 41 1 24 := El.of Try.underlying27 Try.infoNodes rfl (by decide)
theorem own_below {w w' : World} {base : Nat} {e : TypeId} {size k : Nat} {v : Value} {xs : List Value} (h : w.ownsRow base e size v k xs) (hb : Below w.heap.size w w') : w'.ownsRow base e size v k xs :=
  own_same h (Nat.le_refl _) (fun b hv => hb.block b (h.lt b hv).2)
/-- Commands, collected. -/
def OutAt (w : World) (xs : List Value) (o : Value) (wr : World) : Prop := ∃ A c, o = .slice A xs.length c ∧ wr.ownsRow w.heap.size 41 1 (.slice A xs.length c) xs.length xs ∧ Below w.heap.size w wr
def CmdsEnd (w : World) (ps : List PT) (e : Ending) (w' : World) : Prop := ∃ o, e = .returned o ∧ OutAt w (cmdsOfL ps) o w'
def AllSlices (xs : List Value) : Prop := ∀ c ∈ xs, ∃ A n k, c = .slice A n k
theorem AllSlices.one {xs : List Value} (h : AllSlices xs) : ∀ u ∈ xs, u.oneCell' = true := fun u hu => by
  obtain ⟨A, n, k, rfl⟩ := h u hu
  rfl
theorem cmdsOf_eq (p : PT) : p.cmdsOf = (if p.k = 6 then [p.cmds] else []) ++ cmdsOfL p.kids := by cases p; rfl
theorem cmds_snoc (l : List (PT × Value)) (k : Nat) (h : k < l.length) : cmdsOfL ((l.take (k + 1)).map (·.1)) = cmdsOfL ((l.take k).map (·.1)) ++ ((if l[k].1.k = 6 then [l[k].1.cmds] else []) ++ cmdsOfL l[k].1.kids) := by
  rw [List.take_succ_eq_append_getElem h, List.map_append, cmdsOfL_app, ← cmdsOf_eq]
  simp [cmdsOfL]
theorem cmds_le (l : List (PT × Value)) (k : Nat) : (cmdsOfL ((l.take k).map (·.1))).length ≤ (cmdsOfL (l.map (·.1))).length := by
  conv => rhs; rw [← List.take_append_drop k l, List.map_append, cmdsOfL_app]
  simp
theorem cmds_mem (l : List (PT × Value)) (k : Nat) : ∀ c ∈ cmdsOfL ((l.take k).map (·.1)), c ∈ cmdsOfL (l.map (·.1)) := fun c hc => by
  rw [← List.take_append_drop k l, List.map_append, cmdsOfL_app]
  exact List.mem_append_left _ hc
theorem out_app {w wr w2 : World} {xs ys : List Value} {A : Option Addr} {N c : Nat} (hb : Below w.heap.size w wr) (hN : xs.length + ys.length = N) (r1 : w2.ownsRow w.heap.size 41 1 (.slice A N c) N (xs ++ ys)) (r2 : Keeps w.heap.size [41] wr w2) : OutAt w (xs ++ ys) (.slice A N c) w2 := by
  subst hN
  refine ⟨A, c, by rw [List.length_append], by rw [List.length_append]; exact r1, hb.trans (r2.below hb.size)⟩
theorem cmds_nil (w : World) : Calls Try.prog 10 #[.slice none 0 0] w (CmdsEnd w []) := by
  go_enter Try.func10, Try.ntmps10
  go_wp2
  go_loop [3, 4] (fun o i => o = .slice none 0 0 ∧ i = .int .i64 0) (fun _ _ => 0)
  case atStart => exact ⟨rfl, rfl⟩
  case round =>
    obtain ⟨rfl, rfl⟩ := hrel
    go_wp2
    go_ret
    exact ⟨_, rfl, none, 0, rfl, ⟨rfl, .inl ⟨rfl, rfl⟩⟩, Below.refl _ _⟩
set_option maxRecDepth 100000 in
set_option maxHeartbeats 3200000 in
theorem cmds_any {w0 : World} {F : List Nat} {v : Value} {ps : List PT} (h : Dead w0 F v ps) : AllSlices (cmdsOfL ps) → (cmdsOfL ps).length ≤ 1000 → ∀ w, Below w0.heap.size w0 w → Calls Try.prog 10 #[v] w (CmdsEnd w ps) := by
  induction h with
  | nil => exact fun _ _ w _ => cmds_nil w
  | row b c cur l hF hb hc hl hm hk ih =>
    intro hsl hn w hw
    unfold maxLen at hm
    have hll : l.length ≤ 9223372036854775807 := by omega
    have hcell : ∀ i j, ∀ hi : i < l.length, j < 5 → w0.cell? ⟨b, i * 5 + j, none⟩ = (partCells l[i])[j]? := fun i j hi hj => by
      rw [cell_of_row w0 b _ cur _ (0, 0) hb, ← fm_get partCells 5 partCells_len l i j hi hj, ← hc, ← Array.getElem?_toList]
      have : i * 5 + j < l.length * 5 := by
        have := Nat.mul_le_mul_right 5 (show i + 1 ≤ l.length by omega)
        omega
      rw [List.getElem?_take_of_lt this]
    have hb0 : b < w0.heap.size := (Array.getElem?_eq_some_iff.1 hb).1
    have HCELL := Lib.hid hcell
    have HIH := Lib.hid ih
    have HSL := Lib.hid hsl
    have HN := Lib.hid hn
    have HW := Lib.hid hw
    have HSN := Lib.hid (cmds_snoc l)
    have HLE := Lib.hid (cmds_le l)
    have HMEM := Lib.hid (cmds_mem l)
    have hws := hw.size
    clear hcell ih hsl hn hw hk hc hb hF
    go_enter Try.func10, Try.ntmps10
    go_wp2
    go_loopw [3, 4] (fun o i wr => ∃ k : Nat, k ≤ l.length ∧ i = .int .i64 k ∧ OutAt w (cmdsOfL ((l.take k).map (·.1))) o wr) (fun _ i _ => l.length - (intOf i).toNat)
    case atStart => exact ⟨0, Nat.zero_le _, rfl, none, 0, rfl, ⟨rfl, .inl ⟨rfl, rfl⟩⟩, Below.refl _ _⟩
    case round =>
      obtain ⟨k, hk, rfl, A, oc, rfl, ho, hbw⟩ := hrel
      by_cases hlt : k < l.length
      · have hw2 : Below w0.heap.size w0 wr := HW.out.trans (hbw.mono hws)
        have e0 := (hw2.cell (p := ⟨b, k * 5 + 0, none⟩) hb0).trans (HCELL.out k 0 hlt (by omega))
        have e3 := (hw2.cell (p := ⟨b, k * 5 + 3, none⟩) hb0).trans (HCELL.out k 3 hlt (by omega))
        have e4 := (hw2.cell (p := ⟨b, k * 5 + 4, none⟩) hb0).trans (HCELL.out k 4 hlt (by omega))
        simp only [partCells, List.getElem?_cons_zero, List.getElem?_cons_succ, Nat.add_zero] at e0 e3 e4
        have hsn := HSN.out k hlt
        have hle1 := Nat.le_trans (HLE.out k) HN.out
        have hle2 := Nat.le_trans (HLE.out (k + 1)) HN.out
        have hmm := HMEM.out (k + 1)
        rw [hsn] at hle2 hmm
        have hone : ∀ u ∈ (if l[k].1.k = 6 then [l[k].1.cmds] else []) ++ cmdsOfL l[k].1.kids, ∃ A n c, u = .slice A n c := fun u hu => HSL.out u (hmm u (List.mem_append_right _ hu))
        have hkid : ∀ y, Below w0.heap.size w0 y → Calls Try.prog 10 #[l[k].2] y (fun e w' => ∃ o, e = .returned o ∧ OutAt y (cmdsOfL l[k].1.kids) o w') := fun y hy => HIH.out l[k] (List.getElem_mem hlt) (fun u hu => hone u (List.mem_append_right _ hu)) (by simp only [List.length_append] at hle2; omega) y hy
        have HSNK := Lib.hid hsn
        have HKID := Lib.hid hkid
        have HO := Lib.hid ho
        have HB := Lib.hid hbw
        have HW2 := Lib.hid hw2
        have hwb := hbw.size
        have hNk := ElNodes
        have E30 := Lib.hid (HCELL.out k 3 hlt (by omega))
        have E30' := E30.out
        simp only [partCells, List.getElem?_cons_zero, List.getElem?_cons_succ] at E30'
        have E30 := Lib.hid E30'
        clear ho hbw hw2 hsn hkid hmm E30' HIH HCELL HSL HMEM HSN HLE HN HW
        generalize hp : l[k] = p at *
        generalize hx : cmdsOfL ((l.take k).map (·.1)) = xs at *
        generalize hy : cmdsOfL p.1.kids = ys at *
        have HX := Lib.hid hx
        have HY := Lib.hid hy
        have HP := Lib.hid hp
        clear hx hy hp
        by_cases h6 : p.1.k = 6
        · rw [h6] at e0
          rw [if_pos h6] at hone hle2 HSNK
          obtain ⟨CA, cn, cc, hcv⟩ := hone p.1.cmds (by simp)
          rw [hcv] at e4
          have hsc : ∀ y : World, SrcOK (y.alloc (.cells #[.slice CA cn cc] 41)) (.slice (some ⟨y.heap.size, 0, none⟩) 1 1) 1 1 [.slice CA cn cc] := fun y => SrcOK.blk (c := 1) (cs := [.slice CA cn cc]) (Blk.new y 41 _) rfl (fun u hu => by rw [List.mem_singleton.1 hu]; rfl)
          have hle3 : xs.length + 1 ≤ 1000 ∧ xs.length + 1 + ys.length ≤ 1000 := by simp only [List.length_append, List.length_cons, List.length_nil] at hle2; omega
          have HONE := Lib.hid hone
          have HCV := Lib.hid hcv
          have HSC := Lib.hid hsc
          clear hone hcv hsc h6 hle2
          go_wp2_with (first
            | (at_builtin; refine wpList_app ElNodes (.tmp 17) (.tmp 23) rfl rfl (base := w.heap.size) (n := xs.length) (m := 1) (N := xs.length + 1) (xs := xs) (news := [.slice CA cn cc]) rfl rfl (HO.out.alloc _) (HSC.out _) rfl (by unfold maxLen; omega) (by omega) (by simp; omega) ?_; intro A2 c2 w2 r1 r2 r3
               have HR1 := Lib.hid r1
               have hk2 := (Keeps.refl w.heap.size [41] wr).alloc (.cells #[.slice CA cn cc] 41) |>.trans r2
               have hw3 := HW2.out.trans ((hk2.below hwb).mono hws)
               have e3b := (hw3.cell (p := ⟨b, k * 5 + 3, none⟩) hb0).trans E30.out
               have HR2 := Lib.hid hk2
               have HW3 := Lib.hid hw3
               clear r1 r2 r3 hk2 hw3)
            | (go_at_call 10; refine (HKID.out _ HW3.out).mono ?_; rintro e w3 ⟨o, rfl, A3, c3, rfl, ho3, hb3⟩
               have hkk : Keeps w.heap.size [41] wr w3 := HR2.out.trans (Keeps.of_below hb3)
               have hbs : w.heap.size ≤ w3.heap.size := Nat.le_trans hwb hkk.size
               have HKK := Lib.hid hkk
               have HR3 := Lib.hid (own_below HR1.out hb3)
               have HS3 := Lib.hid (SrcOK.own ho3 (AllSlices.one (fun u hu => HONE.out u (List.mem_append_right _ hu))))
               clear hkk ho3 hb3)
            | (at_builtin; refine wpList_app ElNodes (.tmp 25) (.tmp 31) rfl rfl (base := w.heap.size) (n := (xs.length + 1)) (v := .slice A2 (xs.length + 1) c2) (src := .slice A3 ys.length c3) (m := ys.length) (N := (xs.length + 1) + ys.length) (xs := (xs ++ [.slice CA cn cc])) (news := ys) rfl rfl HR3.out HS3.out rfl (by unfold maxLen; omega) (by omega) hbs ?_; intro A4 c4 w4 r1 r2 r3
               have HF : Hid (OutAt w ((xs ++ [.slice CA cn cc]) ++ ys) (.slice A4 ((xs.length + 1) + ys.length) c4) w4) := Lib.hid (out_app HB.out (by simp) r1 (HKK.out.trans r2))
               clear r1 r2 r3))
          go_roundw
          case rel => exact ⟨k + 1, by omega, by go_num, by rw [HSNK.out, HCV.out, ← List.append_assoc]; exact HF.out⟩
          case measure => simp [intOf]; omega
        · have h6b : (p.1.k == 6) = false := by simpa using h6
          rw [if_neg h6] at hone hle2 HSNK
          have hle3 : xs.length + ys.length ≤ 1000 := by simp only [List.length_append, List.length_nil] at hle2; omega
          have HONE := Lib.hid hone
          have HW3 := HW2
          have HR1 := HO
          have HR2 := Lib.hid (Keeps.refl w.heap.size [41] wr)
          clear hone h6 hle2 HW2 HO
          generalize p.1.k = pk at *
          go_wp2_with (first
            | (go_at_call 10; refine (HKID.out _ HW3.out).mono ?_; rintro e w3 ⟨o, rfl, A3, c3, rfl, ho3, hb3⟩
               have hkk : Keeps w.heap.size [41] wr w3 := HR2.out.trans (Keeps.of_below hb3)
               have hbs : w.heap.size ≤ w3.heap.size := Nat.le_trans hwb hkk.size
               have HKK := Lib.hid hkk
               have HR3 := Lib.hid (own_below HR1.out hb3)
               have HS3 := Lib.hid (SrcOK.own ho3 (AllSlices.one (fun u hu => HONE.out u (List.mem_append_right _ hu))))
               clear hkk ho3 hb3)
            | (at_builtin; refine wpList_app ElNodes (.tmp 25) (.tmp 31) rfl rfl (base := w.heap.size) (n := xs.length) (v := .slice A xs.length oc) (src := .slice A3 ys.length c3) (m := ys.length) (N := xs.length + ys.length) (xs := xs) (news := ys) rfl rfl HR3.out HS3.out rfl (by unfold maxLen; omega) (by omega) hbs ?_; intro A4 c4 w4 r1 r2 r3
               have HF : Hid (OutAt w (xs ++ ys) (.slice A4 (xs.length + ys.length) c4) w4) := Lib.hid (out_app HB.out (by simp) r1 (HKK.out.trans r2))
               clear r1 r2 r3))
          go_roundw
          case rel => exact ⟨k + 1, by omega, by go_num, by rw [HSNK.out, List.nil_append]; exact HF.out⟩
          case measure => simp [intOf]; omega
      · obtain rfl : k = l.length := by omega
        have hall : l.take l.length = l := List.take_length
        rw [hall] at ho
        have HO := Lib.hid ho
        have HB := Lib.hid hbw
        rw [hall]
        clear ho hbw hall
        generalize hxs : cmdsOfL (l.map (·.1)) = xs at *
        have HXS := Lib.hid hxs
        clear hxs
        go_wp2
        go_ret
        unfold CmdsEnd
        rw [HXS.out]
        exact ⟨_, rfl, A, oc, rfl, HO.out, HB.out⟩
end Go.Proofs.Ytpadnckmheippaa
