/- conchlaw07's awake: two texts are read. The document's tokens: bytes, letters, what is quoted, comments, marks. The document's tokens: one token. The document's tokens: one token. The document's tokens: all of them. The document's tokens: all of them, walked. -/
import Derived.Test.YtdbmeocpjopdhaaDoorZs
import Derived.Test.YtdbmeocpjopdhaaDoorZt
import Derived.Test.YtdbmeocpjopdhaaDoorZd
namespace Go.Proofs.YtdbmeocpjopdhaaDoor
open Go.RowKit
set_option linter.unusedVariables false
def awG : PG := ⟨[[65], [39, 120, 39]], [[115]], 3, [(3, [1, 3]), (3, [2])]⟩
theorem aw_first : parseL (ByteArray.mk #[37, 116, 111, 107, 101, 110, 32, 65, 32, 37, 115, 116, 97, 114, 116, 32, 115, 32, 37, 37, 32, 115, 32, 58, 32, 65, 32, 115, 32, 124, 32, 39, 120, 39, 32, 59]).data.toList = .ok awG := by kernel_rfl
theorem aw_second : parseL (ByteArray.mk #[37, 37, 32, 115, 32, 58, 32, 116, 32, 59]).data.toList = .error (9, 7) := by kernel_rfl
theorem eql_err_nil (w : World) : (binOp .eql 29 .nilIface .nilIface).run Tryd.prog w = .ok (.bool true) w := by kernel_rfl
theorem err_of {w : World} {v : Value} {f : Flt} (h : ErrAt w v f) : Err w v (some ((f.1 : Nat), (f.2 : Nat))) := by
  obtain ⟨b, rfl, hk⟩ := h
  have c0 := hk.cell 0
  have c1 := hk.cell 1
  simp at c0 c1
  exact ⟨0, some b, .place b _ _ c0 c1, b, rfl, c0, c1⟩
set_option maxRecDepth 100000 in
set_option maxHeartbeats 3200000 in
theorem awake7_any {w : World} (hm : HasMax w) (hg : HasType w) : Calls Tryd.prog 6 #[] w (Says w true) := by
  have n3 := eql_err_nil
  have HP1 := Lib.hid (parse_any { data := #[37, 116, 111, 107, 101, 110, 32, 65, 32, 37, 115, 116, 97, 114, 116, 32, 115, 32, 37, 37, 32, 115, 32, 58, 32, 65, 32, 115, 32, 124, 32, 39, 120, 39, 32, 59] } (by decide) w hm)
  have HP2 := Lib.hid (fun y (hy : Below w.heap.size w y) => parse_any { data := #[37, 37, 32, 115, 32, 58, 32, 116, 32, 59] } (by decide) y (hm.later hy))
  rw [aw_first] at HP1
  rw [aw_second] at HP2
  have HT := Lib.hid hg
  clear hm hg
  go_enter Tryd.func6, Tryd.ntmps6
  go_wp2_with fail
  refine HP1.out.mono ?_
  rintro e w1 ⟨hb1, tv, nv, Rv, R, rfl, hhas⟩
  have HB1 := Lib.hid hb1
  have hw1 := hb1.size
  obtain ⟨A1, c1, rfl⟩ := own_shape hhas.ft
  obtain ⟨A2, c2, rfl⟩ := own_shape hhas.fn
  have hR := hhas.r
  have hRR := hhas.fR
  have hri := hhas.rights
  obtain ⟨q0, q1, rfl, hq0⟩ : ∃ q0 q1, R = [q0, q1] ∧ q0.r.length = 2 := by
    rcases R with _ | ⟨q0, _ | ⟨q1, _ | ⟨q2, R⟩⟩⟩
    · simp [awG] at hR
    · simp [awG] at hR
    · refine ⟨q0, q1, rfl, ?_⟩
      have h1 : q0.g = (3, [1, 3]) := (List.cons.inj hR).1
      have h2 : q0.r = [1, 3] := congrArg Prod.snd h1
      rw [h2]; rfl
    · simp [awG] at hR
  rcases own_form hRR with ⟨_, h0⟩ | ⟨bR, c3, rfl, hbR, hltR, _⟩
  · simp at h0
  have k1 := own_cell hRR 1 (by simp)
  obtain ⟨A0, c0, hv0⟩ := own_shape (hri q0 (by simp))
  rw [hq0] at hv0
  simp [RuG.cells] at k1
  rw [hv0] at k1
  have HX := Lib.hid (Blk.new w1 27 #[.slice A1 2 c1, .slice A2 1 c2, .slice (some ⟨bR, 0, none⟩) 2 c3, .int .i64 3])
  have hx1 : w1.heap.size < (w1.alloc (.cells #[.slice A1 2 c1, .slice A2 1 c2, .slice (some ⟨bR, 0, none⟩) 2 c3, .int .i64 3] 27)).heap.size := by simp
  have HBX := Lib.hid (HB1.out.trans ((below_alloc w1 (.cells #[.slice A1 2 c1, .slice A2 1 c2, .slice (some ⟨bR, 0, none⟩) 2 c3, .int .i64 3] 27)).mono hw1))
  have HV := Lib.hid (below_alloc w1 (.cells #[.slice A1 2 c1, .slice A2 1 c2, .slice (some ⟨bR, 0, none⟩) 2 c3, .int .i64 3] 27))
  have HK := Lib.hid k1
  have HLT := Lib.hid hltR
  clear hb1 hhas hR hRR hri hbR hltR k1 hv0 hq0
  go_wp2_with fail
  refine (HP2.out _ HBX.out).mono ?_
  rintro e w2 ⟨hb2, v, rfl, hv⟩
  have HB2 := Lib.hid (HBX.out.trans (hb2.mono HBX.out.size))
  have HV2 := Lib.hid (HV.out.trans (hb2.mono HV.out.size))
  have HX2 := Lib.hid (HX.out.below hb2 hx1)
  have HE := Lib.hid (err_of hv)
  have k1 := (HV2.out.cell (p := ⟨bR, 1, none⟩) HLT.out).trans HK.out
  obtain ⟨b, rfl, _⟩ := hv
  have HC := Lib.hid (fun y (hy : Below w2.heap.size w2 y) => code_some (HE.out.later hy) (HT.out.later (HB2.out.trans (hy.mono HB2.out.size))))
  have HAT := Lib.hid (fun y (hy : Below w2.heap.size w2 y) => at_some (HE.out.later hy) (HT.out.later (HB2.out.trans (hy.mono HB2.out.size))))
  have x0 := HX2.out.cell 0
  have x1 := HX2.out.cell 1
  have x2 := HX2.out.cell 2
  have x3 := HX2.out.cell 3
  simp at x0 x1 x2 x3
  have HZ := Lib.hid (below_alloc w2 (.cells #[.slice none 0 0, .slice none 0 0, .slice none 0 0, .int .i64 0] 27))
  have y0 := (HZ.out.cell (p := ⟨w1.heap.size, 0, none⟩) HX2.out.lt).trans x0
  have y1 := (HZ.out.cell (p := ⟨w1.heap.size, 1, none⟩) HX2.out.lt).trans x1
  have y2 := (HZ.out.cell (p := ⟨w1.heap.size, 2, none⟩) HX2.out.lt).trans x2
  have y3 := (HZ.out.cell (p := ⟨w1.heap.size, 3, none⟩) HX2.out.lt).trans x3
  have y4 := (HZ.out.cell (p := ⟨bR, 1, none⟩) (World.block_lt_of_cell? w2 _ k1)).trans k1
  clear hb2 x0 x1 x2 x3 k1
  go_wp2_with fail
  refine (HC.out _ HZ.out).mono ?_
  rintro e w3 ⟨rfl, hb3⟩
  have HB3 := Lib.hid ((HB2.out.trans (HZ.out.mono HB2.out.size)).trans (hb3.mono (by have := HB2.out.size; simp; omega)))
  have HZ3 := Lib.hid (HZ.out.trans (hb3.mono HZ.out.size))
  clear hb3 y0 y1 y2 y3 y4
  go_wp2_with fail
  refine (HAT.out _ HZ3.out).mono ?_
  rintro e w4 ⟨rfl, hb4⟩
  have HB4 := Lib.hid (HB3.out.trans (hb4.mono HB3.out.size))
  clear hb4
  go_wp2
  go_ret
  exact ⟨rfl, HB4.out⟩
end Go.Proofs.YtdbmeocpjopdhaaDoor

namespace Go.Proofs.YtdbmeocpjopdhaaDoor
open Go.RowKit
set_option linter.unusedVariables false
theorem rwhite_any (c : UInt8) (w : World) : Calls Tryd.prog 27 #[.int .u8 c.toNat] w fun e w' => e = .returned (.bool (whiteB c)) ∧ w = w' := by
  have hw : whiteB c = ((c.toNat : Int) == 32 || (c.toNat : Int) == 9 || (c.toNat : Int) == 10 || (c.toNat : Int) == 13) := by
    rw [show ((c.toNat : Int) == 32) = (c == 32) from byte_eq c 32 (by decide), show ((c.toNat : Int) == 9) = (c == 9) from byte_eq c 9 (by decide), show ((c.toNat : Int) == 10) = (c == 10) from byte_eq c 10 (by decide), show ((c.toNat : Int) == 13) = (c == 13) from byte_eq c 13 (by decide)]
    rfl
  rw [hw]
  generalize (c.toNat : Int) = n
  clear hw
  cases h1 : (n == 32) <;> cases h2 : (n == 9) <;> cases h3 : (n == 10) <;> cases h4 : (n == 13) <;>
    (go_enter Tryd.func27, Tryd.ntmps27
     go_wp2
     go_ret
     exact ⟨rfl, rfl⟩)
def SpanLet (s : ByteArray) (p k : Nat) : Prop := p + k ≤ s.size ∧ spanBy letB (s.data.toList.drop p) = k + spanBy letB (s.data.toList.drop (p + k))
set_option maxRecDepth 100000 in
set_option maxHeartbeats 1600000 in
theorem rletters_any (s : ByteArray) (hs : s.size ≤ 4611686018427387904) (p : Nat) (hp : p ≤ s.size) (w : World) : Calls Tryd.prog 30 #[.string s, .int .i64 p] w fun e w' => e = .returned (.int .i64 (spanBy letB (s.data.toList.drop p))) ∧ w = w' := by
  go_enter Tryd.func30, Tryd.ntmps30
  go_wp2
  go_loop [5] (fun n => ∃ k : Nat, p + k ≤ s.size ∧ n = .int .i64 k ∧ Hid (SpanLet s p k)) (fun n => s.size - (intOf n).toNat)
  case atStart => exact ⟨0, by omega, rfl, Lib.hid ⟨by omega, by simp⟩⟩
  case round =>
    obtain ⟨k, hk, rfl, HS⟩ := hrel
    by_cases hlt : p + k < s.size
    · have HD := Lib.hid (drop_at s (p + k) hlt)
      have HI := Lib.hid (rclass_any s[p + k] w)
      cases hb : letB s[p + k] with
      | true =>
        have HN : Hid (SpanLet s p (k + 1)) := Lib.hid ⟨by omega, by
          have h1 := HS.out.2
          rw [HD.out, spanBy_cons, if_pos hb] at h1
          rw [h1]
          show k + (spanBy letB (s.data.toList.drop (p + k + 1)) + 1) = k + 1 + spanBy letB (s.data.toList.drop (p + (k + 1)))
          rw [Nat.add_assoc p k 1]; omega⟩
        unfold letB at hb
        generalize classOf s[p + k] = cl at *
        cases h4 : (cl == 4) with
        | true =>
          have q4 : ((cl : Int) != 4) = false := by rw [beq_iff_eq] at h4; subst h4; rfl
          clear hb h4
          go_wp2_with (go_at_call 29; refine HI.out.mono ?_; rintro e w' ⟨rfl, rfl⟩)
          go_round
          case rel => exact ⟨k + 1, by omega, by go_num, HN⟩
          case measure => simp [intOf]; omega
        | false =>
          have q4 : ((cl : Int) != 4) = true := by rw [beq_eq_false_iff_ne] at h4; exact bne_iff_ne.2 (by omega)
          have q3 : ((cl : Int) != 3) = false := by rw [h4, Bool.false_or, beq_iff_eq] at hb; subst hb; rfl
          clear hb h4
          go_wp2_with (go_at_call 29; refine HI.out.mono ?_; rintro e w' ⟨rfl, rfl⟩)
          go_round
          case rel => exact ⟨k + 1, by omega, by go_num, HN⟩
          case measure => simp [intOf]; omega
      | false =>
        have HN : Hid (spanBy letB (s.data.toList.drop p) = k) := Lib.hid (by
          have h1 := HS.out.2
          rw [HD.out, spanBy_cons, hb] at h1
          simpa using h1)
        unfold letB at hb
        generalize classOf s[p + k] = cl at *
        rw [Bool.or_eq_false_iff, beq_eq_false_iff_ne, beq_eq_false_iff_ne] at hb
        have q4 : ((cl : Int) != 4) = true := bne_iff_ne.2 (by omega)
        have q3 : ((cl : Int) != 3) = true := bne_iff_ne.2 (by omega)
        clear hb
        go_wp2_with (go_at_call 29; refine HI.out.mono ?_; rintro e w' ⟨rfl, rfl⟩)
        go_ret
        exact ⟨ret_nat HN.out.symm, rfl⟩
    · have HN : Hid (spanBy letB (s.data.toList.drop p) = k) := Lib.hid (by
        have h1 := HS.out.2
        rw [show s.data.toList.drop (p + k) = [] from List.drop_of_length_le (by simp; omega)] at h1
        simpa [spanBy] using h1)
      go_wp2
      go_ret
      exact ⟨ret_nat HN.out.symm, rfl⟩
/-- How many bytes, or what is wrong; the document's. -/
def RPair (w : World) (r : Except Flt (Nat × Nat)) (e : Ending) (w' : World) : Prop :=
  Below w.heap.size w w' ∧ match r with
  | .ok (k, n) => e = .returned (.tuple #[.int .i64 n, .agg #[.int .i64 0, .int .i64 0]])
  | .error f => e = .returned (.tuple #[.int .i64 0, .agg #[.int .i64 f.1, .int .i64 f.2]])
theorem RPair.errI (w w' : World) (e p : Nat) (q : Int) (h : q = p) (hb : Below w.heap.size w w') : RPair w (.error (e, p)) (.returned (.tuple #[.int .i64 0, .agg #[.int .i64 e, .int .i64 q]])) w' := by subst h; exact ⟨hb, rfl⟩
theorem RPair.yesI (w w' : World) (k n : Nat) (q : Int) (h : q = n) (hb : Below w.heap.size w w') : RPair w (.ok (k, n)) (.returned (.tuple #[.int .i64 q, .agg #[.int .i64 0, .int .i64 0]])) w' := by subst h; exact ⟨hb, rfl⟩
set_option maxRecDepth 100000 in
set_option maxHeartbeats 3200000 in
theorem rquoted_at (s : ByteArray) (hs : s.size ≤ 4611686018427387904) (p : Nat) (hp : p < s.size) (w : World) : Calls Tryd.prog 31 #[.string s, .int .i64 p] w (RPair w (quoteL s.size p (s.data.toList.drop (p + 1)))) := by
  have hd := drop_at s p hp
  go_enter Tryd.func31, Tryd.ntmps31
  go_wp2
  go_loop [6] (fun n => ∃ k : Nat, p + 1 + k ≤ s.size ∧ n = .int .i64 (1 + (k : Int)) ∧ Hid (SpanAt s (p + 1) k)) (fun n => s.size + 1 - (intOf n).toNat)
  case atStart => exact ⟨0, by omega, rfl, Lib.hid ⟨by omega, by simp⟩⟩
  case round =>
    obtain ⟨k, hk, rfl, HS⟩ := hrel
    by_cases hlt : p + (1 + k) < s.size
    · have HD : Hid (s.data.toList.drop (p + 1 + k) = s[p + (1 + k)] :: s.data.toList.drop (p + 1 + k + 1)) := Lib.hid (by
        have := drop_at s (p + 1 + k) (by omega)
        rw [this]
        congr 2
        omega)
      have q1 : ¬ (s.size : Int) ≤ (p : Int) + (1 + (k : Int)) := by omega
      have q2 : (p : Int) + (1 + (k : Int)) < (s.size : Int) := by omega
      have HI := Lib.hid (rinside_any s[p + (1 + k)] (w.alloc (.cells #[.int .i64 0, .int .i64 0] 39)))
      cases hb : insideB s[p + (1 + k)] with
      | true =>
        rw [hb] at HI
        have HN : Hid (SpanAt s (p + 1) (k + 1)) := Lib.hid ⟨by omega, by
          have h1 := HS.out.2
          rw [HD.out, spanL_cons, if_pos hb] at h1
          rw [h1]
          show k + (spanL (s.data.toList.drop (p + 1 + k + 1)) + 1) = k + 1 + spanL (s.data.toList.drop (p + 1 + (k + 1)))
          rw [Nat.add_assoc (p + 1) k 1]; omega⟩
        clear hb hd
        go_wp2_with (go_at_call 58; refine HI.out.mono ?_; rintro e w' ⟨rfl, rfl⟩)
        go_round
        case rel => exact ⟨k + 1, by omega, by go_num, HN⟩
        case measure => simp [intOf]; omega
      | false =>
        rw [hb] at HI
        have hN : spanL (s.data.toList.drop (p + 1)) = k := by
          have h1 := HS.out.2
          rw [HD.out, spanL_cons, hb] at h1
          simpa using h1
        have hg := rest_get s p k hlt
        clear hb hd
        by_cases hc : s[p + (1 + k)] = 39
        · have h6 : ((s[p + (1 + k)].toNat : Int) != 39) = false := by rw [hc]; rfl
          by_cases h3 : k = 0
          · subst h3
            have HQ : Hid (quoteL s.size p (s.data.toList.drop (p + 1)) = .error (2, p + 1 + 0)) := Lib.hid (by
              unfold quoteL
              rw [hN, if_neg (by omega), if_pos (.inr rfl)])
            clear hc hg hN
            go_wp2_with (go_at_call 58; refine HI.out.mono ?_; rintro e w' ⟨rfl, rfl⟩)
            rw [HQ.out]
            refine bodyPost_ret (v := .tuple #[.int .i64 0, .agg #[.int .i64 2, .int .i64 ((p : Int) + 1)]]) (by simp [results, Tryd.results31, go_sem]) rfl (RPair.errI _ _ 2 _ _ (by omega) (below_alloc _ _))
          · have h7 : ((1 : Int) + (k : Int) == 1) = false := beq_eq_false_iff_ne.2 (by omega)
            by_cases h4 : 24 ≤ 1 + k
            · have h5 : 24 < (1 : Int) + (k : Int) + 1 := by omega
              have HQ : Hid (quoteL s.size p (s.data.toList.drop (p + 1)) = .error (5, p)) := Lib.hid (by
                unfold quoteL
                rw [hN, hg, hc, if_neg (by omega), if_neg (by rintro (h | h) <;> simp_all), if_pos h4])
              clear hc hg hN h3 h4
              go_wp2_with (go_at_call 58; refine HI.out.mono ?_; rintro e w' ⟨rfl, rfl⟩)
              rw [HQ.out]
              refine bodyPost_ret (v := .tuple #[.int .i64 0, .agg #[.int .i64 5, .int .i64 (p : Int)]]) (by simp [results, Tryd.results31, go_sem]) rfl (RPair.errI _ _ 5 _ _ rfl (below_alloc _ _))
            · have h5 : ¬ 24 < (1 : Int) + (k : Int) + 1 := by omega
              have HQ : Hid (quoteL s.size p (s.data.toList.drop (p + 1)) = .ok (2, k + 2)) := Lib.hid (by
                unfold quoteL
                rw [hN, hg, hc, if_neg (by omega), if_neg (by rintro (h | h) <;> simp_all), if_neg h4])
              clear hc hg hN h3 h4
              go_wp2_with (go_at_call 58; refine HI.out.mono ?_; rintro e w' ⟨rfl, rfl⟩)
              rw [HQ.out]
              refine bodyPost_ret (v := .tuple #[.int .i64 ((1 : Int) + (k : Int) + 1), .agg #[.int .i64 0, .int .i64 0]]) (by simp [results, Tryd.results31, go_sem]) rfl (RPair.yesI _ _ 2 _ _ (by omega) (below_alloc _ _))
        · have h6 : ((s[p + (1 + k)].toNat : Int) != 39) = true := by
            rw [bne_iff_ne]
            intro e
            exact hc (UInt8.toNat_inj.1 (by show s[p + (1 + k)].toNat = 39; omega))
          have HQ : Hid (quoteL s.size p (s.data.toList.drop (p + 1)) = .error (2, p + 1 + k)) := Lib.hid (by
            unfold quoteL
            rw [hN, if_neg (by omega), if_pos (.inl (by rw [hg]; simpa using hc))])
          clear hc hg hN
          go_wp2_with (go_at_call 58; refine HI.out.mono ?_; rintro e w' ⟨rfl, rfl⟩)
          rw [HQ.out]
          refine bodyPost_ret (v := .tuple #[.int .i64 0, .agg #[.int .i64 2, .int .i64 ((p : Int) + (1 + (k : Int)))]]) (by simp [results, Tryd.results31, go_sem]) rfl (RPair.errI _ _ 2 _ _ (by omega) (below_alloc _ _))
    · have hN : spanL (s.data.toList.drop (p + 1)) = k := by
        have h1 := HS.out.2
        rw [show s.data.toList.drop (p + 1 + k) = [] from List.drop_of_length_le (by simp; omega)] at h1
        simpa [spanL] using h1
      have HQ : Hid (quoteL s.size p (s.data.toList.drop (p + 1)) = .error (4, s.size)) := Lib.hid (by
        unfold quoteL
        rw [hN, if_pos (by omega)])
      have q1 : (s.size : Int) ≤ (p : Int) + (1 + (k : Int)) := by omega
      have q2 : ¬ (p : Int) + (1 + (k : Int)) < (s.size : Int) := by omega
      clear hN hd
      go_wp2
      rw [HQ.out]
      refine bodyPost_ret (v := .tuple #[.int .i64 0, .agg #[.int .i64 4, .int .i64 (s.size : Int)]]) (by simp [results, Tryd.results31, go_sem]) rfl (RPair.errI _ _ 4 _ _ rfl (below_alloc _ _))
/-- No end of a comment from here up to there. -/
def NoEnd (s : ByteArray) (p k : Nat) : Prop := ∀ j, j < k → Lib.occAt (s.data.toList.drop (p + 2)) [42, 47] j = false
theorem occ_two (l : List UInt8) (j : Nat) : Lib.occAt l [42, 47] j = (l[j]? == some 42 && l[j + 1]? == some 47) := by
  unfold Lib.occAt
  rw [← List.head?_drop, ← List.head?_drop (i := j + 1), ← List.drop_drop]
  cases l.drop j with
  | nil => rfl
  | cons a t =>
    cases t with
    | nil => simp [List.isPrefixOf]
    | cons b u => simp [List.isPrefixOf, Bool.beq_comm (a := a), Bool.beq_comm (a := b)]
theorem index_found {l : List UInt8} {k : Nat} (h1 : Lib.occAt l [42, 47] k = true) (h2 : ∀ j, j < k → Lib.occAt l [42, 47] j = false) : Lib.index l [42, 47] = k := by
  rcases Lib.index_spec l [42, 47] with ⟨_, h⟩ | ⟨i, h, _, h3, h4⟩
  · have := h k (by rcases Lib.occAt_room h1 with h | h <;> first | (simp at h; omega) | cases h)
    rw [h1] at this; cases this
  · rw [h]
    have a1 : ¬ k < i := fun hk => by have := h4 k hk; rw [h1] at this; cases this
    have a2 : ¬ i < k := fun hk => by have := h2 i hk; rw [h3] at this; cases this
    omega
theorem index_none {l : List UInt8} {k : Nat} (hk : l.length ≤ k + 1) (h2 : ∀ j, j < k → Lib.occAt l [42, 47] j = false) : Lib.index l [42, 47] < 0 := by
  rcases Lib.index_spec l [42, 47] with ⟨h, _⟩ | ⟨i, h, _, h3, h4⟩
  · omega
  · exfalso
    have := h2 i (by rcases Lib.occAt_room h3 with h | h <;> first | (simp at h; omega) | cases h)
    rw [h3] at this; cases this
set_option maxRecDepth 100000 in
set_option maxHeartbeats 3200000 in
theorem rcomment_at (s : ByteArray) (hs : s.size ≤ 8192) (p : Nat) (hp : p < s.size) (w : World) : Calls Tryd.prog 28 #[.string s, .int .i64 p] w (RPair w (commentL s.size p (s.data.toList.drop (p + 1)))) := by
  by_cases h1 : p + 1 < s.size
  · have hh : (s.data.toList.drop (p + 1)).head? = some s[p + 1] := by rw [List.head?_drop]; exact get_some s _ h1
    have q1 : ¬ (s.size : Int) ≤ (p : Int) + 1 := by omega
    by_cases hc : s[p + 1] = 42
    · have h6 : ((s[p + 1].toNat : Int) != 42) = false := by rw [hc]; rfl
      have HC : Hid (commentL s.size p (s.data.toList.drop (p + 1)) = if Lib.index (s.data.toList.drop (p + 2)) [42, 47] < 0 then .error (4, s.size) else .ok (0, (Lib.index (s.data.toList.drop (p + 2)) [42, 47]).toNat + 4)) := Lib.hid (by
        unfold commentL
        rw [if_pos (by rw [hh, hc]), drop_two])
      clear hh hc
      go_enter Tryd.func28, Tryd.ntmps28
      go_wp2
      go_loop [6] (fun n => ∃ q : Nat, p + 2 ≤ q ∧ q ≤ s.size + 1 ∧ n = .int .i64 q ∧ Hid (NoEnd s p (q - (p + 2)))) (fun n => s.size + 1 - (intOf n).toNat)
      case atStart => exact ⟨p + 2, by omega, by omega, by go_num, Lib.hid (fun j hj => absurd hj (by omega))⟩
      case round =>
        obtain ⟨q, hq2, hk, rfl, HS⟩ := hrel
        by_cases hlt : q + 1 < s.size
        · have q2 : (q : Int) + 1 < (s.size : Int) := by omega
          have q3 : (q : Int) < (s.size : Int) := by omega
          have hocc : Lib.occAt (s.data.toList.drop (p + 2)) [42, 47] (q - (p + 2)) = (s[q] == 42 && s[q + 1] == 47) := by
            rw [occ_two, List.getElem?_drop, List.getElem?_drop, show p + 2 + (q - (p + 2)) = q by omega, get_some s q (by omega), show p + 2 + (q - (p + 2) + 1) = q + 1 by omega, get_some s (q + 1) hlt]
            simp
          have e42 : ((s[q].toNat : Int) == 42) = (s[q] == 42) := byte_eq _ 42 (by decide)
          have e47 : ((s[q + 1].toNat : Int) == 47) = (s[q + 1] == 47) := byte_eq _ 47 (by decide)
          cases b1 : (s[q] == 42) with
          | false =>
            rw [b1] at e42 hocc
            have HN : Hid (NoEnd s p (q + 1 - (p + 2))) := Lib.hid (fun j hj => by
              rcases Nat.lt_or_ge j (q - (p + 2)) with h | h
              · exact HS.out j h
              · obtain rfl : j = q - (p + 2) := by omega
                rw [hocc]; rfl)
            clear hocc b1 e47
            go_wp2
            go_round
            case rel => exact ⟨q + 1, by omega, by omega, by go_num, HN⟩
            case measure => simp [intOf]; omega
          | true =>
            cases b2 : (s[q + 1] == 47) with
            | false =>
              rw [b1] at e42
              rw [b2] at e47
              rw [b1, b2] at hocc
              have HN : Hid (NoEnd s p (q + 1 - (p + 2))) := Lib.hid (fun j hj => by
                rcases Nat.lt_or_ge j (q - (p + 2)) with h | h
                · exact HS.out j h
                · obtain rfl : j = q - (p + 2) := by omega
                  rw [hocc]; rfl)
              clear hocc b1 b2
              go_wp2
              go_round
              case rel => exact ⟨q + 1, by omega, by omega, by go_num, HN⟩
              case measure => simp [intOf]; omega
            | true =>
              rw [b1] at e42
              rw [b2] at e47
              rw [b1, b2] at hocc
              have HI : Hid (commentL s.size p (s.data.toList.drop (p + 1)) = .ok (0, q - (p + 2) + 4)) := Lib.hid (by
                rw [HC.out, index_found hocc HS.out, if_neg (by omega)]
                rfl)
              clear hocc b1 b2
              go_wp2
              rw [HI.out]
              refine bodyPost_ret (v := .tuple #[.int .i64 ((q : Int) + 2 - (p : Int)), .agg #[.int .i64 0, .int .i64 0]]) (by simp [results, Tryd.results28, go_sem]) rfl (RPair.yesI _ _ 0 _ _ (by omega) (below_alloc _ _))
        · have HI : Hid (commentL s.size p (s.data.toList.drop (p + 1)) = .error (4, s.size)) := Lib.hid (by
            rw [HC.out, if_pos (index_none (k := q - (p + 2)) (by simp; omega) HS.out)])
          have q2 : ¬ (q : Int) + 1 < (s.size : Int) := by omega
          go_wp2
          rw [HI.out]
          refine bodyPost_ret (v := .tuple #[.int .i64 0, .agg #[.int .i64 4, .int .i64 (s.size : Int)]]) (by simp [results, Tryd.results28, go_sem]) rfl (RPair.errI _ _ 4 _ _ rfl (below_alloc _ _))
    · have h6 : ((s[p + 1].toNat : Int) != 42) = true := by
        rw [bne_iff_ne]
        intro e
        exact hc (UInt8.toNat_inj.1 (by show s[p + 1].toNat = 42; omega))
      have HC : Hid (commentL s.size p (s.data.toList.drop (p + 1)) = .error (2, p)) := Lib.hid (by
        unfold commentL
        rw [if_neg (by rw [hh]; simpa using hc)])
      clear hh hc
      go_enter Tryd.func28, Tryd.ntmps28
      go_wp2
      rw [HC.out]
      refine bodyPost_ret (v := .tuple #[.int .i64 0, .agg #[.int .i64 2, .int .i64 (p : Int)]]) (by simp [results, Tryd.results28, go_sem]) rfl (RPair.errI _ _ 2 _ _ rfl (below_alloc _ _))
  · have hh : (s.data.toList.drop (p + 1)).head? = none := by rw [List.head?_drop]; simp; omega
    have q1 : (s.size : Int) ≤ (p : Int) + 1 := by omega
    have HC : Hid (commentL s.size p (s.data.toList.drop (p + 1)) = .error (2, p)) := Lib.hid (by
      unfold commentL
      rw [if_neg (by rw [hh]; simp)])
    clear hh
    go_enter Tryd.func28, Tryd.ntmps28
    go_wp2
    rw [HC.out]
    refine bodyPost_ret (v := .tuple #[.int .i64 0, .agg #[.int .i64 2, .int .i64 (p : Int)]]) (by simp [results, Tryd.results28, go_sem]) rfl (RPair.errI _ _ 2 _ _ rfl (below_alloc _ _))
end Go.Proofs.YtdbmeocpjopdhaaDoor

namespace Go.Proofs.YtdbmeocpjopdhaaDoor
open Go.RowKit
set_option linter.unusedVariables false
/-- A kind, how many bytes, or what is wrong; the document's. -/
def ROne (w : World) (r : Except Flt (Nat × Nat)) (e : Ending) (w' : World) : Prop :=
  Below w.heap.size w w' ∧ match r with
  | .ok (k, n) => e = .returned (.tuple #[.int .i64 k, .int .i64 n, .agg #[.int .i64 0, .int .i64 0]])
  | .error f => ∃ k : Int, e = .returned (.tuple #[.int .i64 k, .int .i64 0, .agg #[.int .i64 f.1, .int .i64 f.2]])
theorem ROne.errI (w w' : World) (k : Int) (e p : Nat) (q : Int) (h : q = p) (hb : Below w.heap.size w w') : ROne w (.error (e, p)) (.returned (.tuple #[.int .i64 k, .int .i64 0, .agg #[.int .i64 e, .int .i64 q]])) w' := by subst h; exact ⟨hb, k, rfl⟩
theorem ROne.yesI (w w' : World) (k n : Nat) (q : Int) (h : q = n) (hb : Below w.heap.size w w') : ROne w (.ok (k, n)) (.returned (.tuple #[.int .i64 k, .int .i64 q, .agg #[.int .i64 0, .int .i64 0]])) w' := by subst h; exact ⟨hb, rfl⟩
set_option maxRecDepth 100000 in
set_option maxHeartbeats 1600000 in
theorem rmark_at (s : ByteArray) (hs : s.size ≤ 8192) (p : Nat) (hp : p < s.size) (w : World) : Calls Tryd.prog 32 #[.string s, .int .i64 p] w (ROne w (markL p (s.data.toList.drop (p + 1)))) := by
  have HSP := Lib.hid (rletters_any s (by omega) (p + 1) (by omega) (w.alloc (.cells #[.int .i64 0, .int .i64 0] 39)))
  have hk : spanBy letB (s.data.toList.drop (p + 1)) ≤ s.size - (p + 1) := by
    have := spanBy_le letB (s.data.toList.drop (p + 1))
    simp only [List.length_drop, len_size] at this
    omega
  have hlen : (s.data.toList.drop (p + 1)).length = s.size - (p + 1) := by rw [List.length_drop, len_size]
  have htk := extract_take s (p + 1) (spanBy letB (s.data.toList.drop (p + 1)))
  have hi1 : (p : Int) + 1 = ((p + 1 : Nat) : Int) := by omega
  rw [← hi1] at HSP
  have body : (s.data.toList.drop (p + 1)).head? ≠ some 37 → (∀ h : p + 1 < s.size, ((s[p + 1].toNat : Int) == 37) = false) → Calls Tryd.prog 32 #[.string s, .int .i64 p] w (ROne w (markL p (s.data.toList.drop (p + 1)))) := by
    intro h37 hq
    have h5 : (s.data.toList.drop (p + 1)).take (spanBy letB (s.data.toList.drop (p + 1))) = [116, 111, 107, 101, 110] → spanBy letB (s.data.toList.drop (p + 1)) = 5 := fun h => by
      have := congrArg List.length h
      rw [List.length_take] at this
      simp only [List.length_cons, List.length_nil] at this
      omega
    have h6 : (s.data.toList.drop (p + 1)).take (spanBy letB (s.data.toList.drop (p + 1))) = [115, 116, 97, 114, 116] → spanBy letB (s.data.toList.drop (p + 1)) = 5 := fun h => by
      have := congrArg List.length h
      rw [List.length_take] at this
      simp only [List.length_cons, List.length_nil] at this
      omega
    unfold markL
    rw [if_neg h37]
    clear h37 hlen
    generalize spanBy letB (s.data.toList.drop (p + 1)) = k at *
    rw [← htk]
    rw [← htk] at h5 h6
    have b1 : (p : Int) + 1 + (k : Int) ≤ (s.size : Int) := by omega
    have b2 : p + 1 + k ≤ s.size := by omega
    generalize hx : s.extract (p + 1) (p + 1 + k) = x at *
    have hxx : x.toList = x.data.toList := Lib.toList_data x
    cases hT : (x.toList == [116, 111, 107, 101, 110]) with
    | true =>
      have hx5 := beq_iff_eq.1 hT
      rw [hxx] at hx5
      rw [if_pos hx5, h5 hx5]
      subst hx
      clear hxx htk hi1 h5 h6 hx5
      by_cases h1 : p + 1 < s.size
      · have q0 := hq h1
        have q1 : (p : Int) + 1 < (s.size : Int) := by omega
        clear hq
        go_enter Tryd.func32, Tryd.ntmps32
        go_wp2_with (go_at_call 30; refine HSP.out.mono ?_; rintro e w' ⟨rfl, rfl⟩)
        refine bodyPost_ret (v := .tuple #[.int .i64 7, .int .i64 6, .agg #[.int .i64 0, .int .i64 0]]) (by simp [results, Tryd.results32, go_sem]) rfl (ROne.yesI _ _ 7 _ _ rfl (below_alloc _ _))
      · have q1 : ¬ (p : Int) + 1 < (s.size : Int) := by omega
        clear hq
        go_enter Tryd.func32, Tryd.ntmps32
        go_wp2_with (go_at_call 30; refine HSP.out.mono ?_; rintro e w' ⟨rfl, rfl⟩)
        refine bodyPost_ret (v := .tuple #[.int .i64 7, .int .i64 6, .agg #[.int .i64 0, .int .i64 0]]) (by simp [results, Tryd.results32, go_sem]) rfl (ROne.yesI _ _ 7 _ _ rfl (below_alloc _ _))
    | false =>
      rw [if_neg (by rw [← hxx]; simpa using hT)]
      cases hS : (x.toList == [115, 116, 97, 114, 116]) with
      | true =>
        have hx5 := beq_iff_eq.1 hS
        rw [hxx] at hx5
        rw [if_pos hx5, h6 hx5]
        subst hx
        clear hxx htk hi1 h5 h6 hx5
        by_cases h1 : p + 1 < s.size
        · have q0 := hq h1
          have q1 : (p : Int) + 1 < (s.size : Int) := by omega
          clear hq
          go_enter Tryd.func32, Tryd.ntmps32
          go_wp2_with (go_at_call 30; refine HSP.out.mono ?_; rintro e w' ⟨rfl, rfl⟩)
          refine bodyPost_ret (v := .tuple #[.int .i64 8, .int .i64 6, .agg #[.int .i64 0, .int .i64 0]]) (by simp [results, Tryd.results32, go_sem]) rfl (ROne.yesI _ _ 8 _ _ rfl (below_alloc _ _))
        · have q1 : ¬ (p : Int) + 1 < (s.size : Int) := by omega
          clear hq
          go_enter Tryd.func32, Tryd.ntmps32
          go_wp2_with (go_at_call 30; refine HSP.out.mono ?_; rintro e w' ⟨rfl, rfl⟩)
          refine bodyPost_ret (v := .tuple #[.int .i64 8, .int .i64 6, .agg #[.int .i64 0, .int .i64 0]]) (by simp [results, Tryd.results32, go_sem]) rfl (ROne.yesI _ _ 8 _ _ rfl (below_alloc _ _))
      | false =>
        rw [if_neg (by rw [← hxx]; simpa using hS)]
        subst hx
        clear hxx htk hi1 h5 h6
        by_cases h1 : p + 1 < s.size
        · have q0 := hq h1
          have q1 : (p : Int) + 1 < (s.size : Int) := by omega
          clear hq
          go_enter Tryd.func32, Tryd.ntmps32
          go_wp2_with (go_at_call 30; refine HSP.out.mono ?_; rintro e w' ⟨rfl, rfl⟩)
          refine bodyPost_ret (v := .tuple #[.int .i64 0, .int .i64 0, .agg #[.int .i64 2, .int .i64 (p : Int)]]) (by simp [results, Tryd.results32, go_sem]) rfl (ROne.errI _ _ 0 2 _ _ rfl (below_alloc _ _))
        · have q1 : ¬ (p : Int) + 1 < (s.size : Int) := by omega
          clear hq
          go_enter Tryd.func32, Tryd.ntmps32
          go_wp2_with (go_at_call 30; refine HSP.out.mono ?_; rintro e w' ⟨rfl, rfl⟩)
          refine bodyPost_ret (v := .tuple #[.int .i64 0, .int .i64 0, .agg #[.int .i64 2, .int .i64 (p : Int)]]) (by simp [results, Tryd.results32, go_sem]) rfl (ROne.errI _ _ 0 2 _ _ rfl (below_alloc _ _))
  by_cases h1 : p + 1 < s.size
  · have hh : (s.data.toList.drop (p + 1)).head? = some s[p + 1] := by rw [List.head?_drop]; exact get_some s _ h1
    have e37 : ((s[p + 1].toNat : Int) == 37) = (s[p + 1] == 37) := byte_eq _ 37 (by decide)
    cases hc : (s[p + 1] == 37) with
    | true =>
      rw [hc] at e37
      have hcc := beq_iff_eq.1 hc
      unfold markL
      rw [if_pos (by rw [hh, hcc])]
      have q1 : (p : Int) + 1 < (s.size : Int) := by omega
      clear hh hc hcc body HSP hk hlen htk hi1
      go_enter Tryd.func32, Tryd.ntmps32
      go_wp2
      refine bodyPost_ret (v := .tuple #[.int .i64 6, .int .i64 2, .agg #[.int .i64 0, .int .i64 0]]) (by simp [results, Tryd.results32, go_sem]) rfl (ROne.yesI _ _ 6 _ _ rfl (below_alloc _ _))
    | false =>
      rw [hc] at e37
      exact body (by rw [hh]; simpa using hc) (fun _ => e37)
  · exact body (by rw [List.head?_drop, List.getElem?_eq_none (by simp; omega)]; simp) (fun h => absurd h h1)
end Go.Proofs.YtdbmeocpjopdhaaDoor

namespace Go.Proofs.YtdbmeocpjopdhaaDoor
open Go.RowKit
set_option linter.unusedVariables false
/-- The token at a place; white bytes are passed over one by one. -/
def oneD (sz p : Nat) : List UInt8 → Except Flt (Nat × Nat)
  | [] => .ok (0, 0)
  | c :: r => if whiteB c then .ok (0, 1) else oneL sz p (c :: r)
/-- A callee's world behind the result's own cell. -/
theorem res_facts {w w1 : World} {x0 x1 : Value} {T : TypeId} (hb : Below (w.alloc (.cells #[x0, x1] T)).heap.size (w.alloc (.cells #[x0, x1] T)) w1) :
    Below w.heap.size w w1 ∧ w.heap.size < w1.heap.size ∧ w1.cell? ⟨w.heap.size, 0, none⟩ = some x0 ∧ w1.cell? ⟨w.heap.size, 1, none⟩ = some x1 ∧ w1.frozen? ⟨w.heap.size, 0, none⟩ = false ∧ w1.frozen? ⟨w.heap.size, 1, none⟩ = false := by
  have hs := hb.size
  simp at hs
  refine ⟨(below_alloc w _).trans (hb.mono (by simp)), by omega, ?_, ?_, ?_, ?_⟩
  · rw [hb.cell (p := ⟨w.heap.size, 0, none⟩) (by simp)]; simp
  · rw [hb.cell (p := ⟨w.heap.size, 1, none⟩) (by simp)]; simp
  · rw [hb.frozen (p := ⟨w.heap.size, 0, none⟩) (by simp)]; simp
  · rw [hb.frozen (p := ⟨w.heap.size, 1, none⟩) (by simp)]; simp
/-- The result's cell, behind its two stores and a new block. -/
theorem res_cells {w1 : World} {b : Nat} {x0 x1 x y : Value} (hlt : b < w1.heap.size) (c0 : w1.cell? ⟨b, 0, none⟩ = some x0) (c1 : w1.cell? ⟨b, 1, none⟩ = some x1) (o : Obj) :
    ((((w1.setCell ⟨b, 0, none⟩ x).setCell ⟨b, 1, none⟩ y).alloc o).drew).cell? ⟨b, 0, none⟩ = some x ∧ ((((w1.setCell ⟨b, 0, none⟩ x).setCell ⟨b, 1, none⟩ y).alloc o).drew).cell? ⟨b, 1, none⟩ = some y := by
  have h1 : ((w1.setCell ⟨b, 0, none⟩ x).setCell ⟨b, 1, none⟩ y).cell? ⟨b, 0, none⟩ = some x := by
    rw [World.cell?_setCell_other _ _ _ _ (by simp), World.cell?_setCell_same _ _ _ c0]
  have h2 : ((w1.setCell ⟨b, 0, none⟩ x).setCell ⟨b, 1, none⟩ y).cell? ⟨b, 1, none⟩ = some y :=
    World.cell?_setCell_same _ _ _ (u := x1) (by rw [World.cell?_setCell_other _ _ _ _ (by simp), c1])
  exact ⟨((below_alloc _ o).cell (p := ⟨b, 0, none⟩) (World.block_lt_of_cell? _ _ h1)).trans h1, ((below_alloc _ o).cell (p := ⟨b, 1, none⟩) (World.block_lt_of_cell? _ _ h2)).trans h2⟩
theorem res_below {w w1 : World} {x y : Value} (hb : Below w.heap.size w w1) (o : Obj) : Below w.heap.size w ((((w1.setCell ⟨w.heap.size, 0, none⟩ x).setCell ⟨w.heap.size, 1, none⟩ y).alloc o).drew) :=
  ((((hb.setCell (by simp) _).setCell (by simp) _).alloc (by simpa using hb.size) _).trans ⟨rfl, rfl, rfl, Nat.le_refl _, fun _ _ => rfl⟩)
set_option maxRecDepth 100000 in
set_option maxHeartbeats 3200000 in
theorem rone_at (s : ByteArray) (hs : s.size ≤ 8192) (p : Nat) (hp : p < s.size) (w : World) : Calls Tryd.prog 16 #[.string s, .int .i64 p] w (ROne w (oneD s.size p (s.data.toList.drop p))) := by
  have HW := Lib.hid (rwhite_any s[p] (w.alloc (.cells #[.int .i64 0, .int .i64 0] 39)))
  have e47 : ((s[p].toNat : Int) == 47) = (s[p] == 47) := byte_eq s[p] 47 (by decide)
  have e39 : ((s[p].toNat : Int) == 39) = (s[p] == 39) := byte_eq s[p] 39 (by decide)
  have e37 : ((s[p].toNat : Int) == 37) = (s[p] == 37) := byte_eq s[p] 37 (by decide)
  have e58 : ((s[p].toNat : Int) == 58) = (s[p] == 58) := byte_eq s[p] 58 (by decide)
  have e124 : ((s[p].toNat : Int) == 124) = (s[p] == 124) := byte_eq s[p] 124 (by decide)
  have e59 : ((s[p].toNat : Int) == 59) = (s[p] == 59) := byte_eq s[p] 59 (by decide)
  have hd := drop_at s p hp
  unfold oneD
  rw [hd]
  simp only
  cases hw : whiteB s[p] with
  | true =>
    rw [hw] at HW
    rw [if_pos rfl]
    clear hw hd e47 e39 e37 e58 e124 e59
    go_enter Tryd.func16, Tryd.ntmps16
    go_wp2_with (go_at_call 27; refine HW.out.mono ?_; rintro e w' ⟨rfl, rfl⟩)
    refine bodyPost_ret (v := .tuple #[.int .i64 0, .int .i64 1, .agg #[.int .i64 0, .int .i64 0]]) (by simp [results, Tryd.results16, go_sem]) rfl (ROne.yesI _ _ 0 1 _ rfl (below_alloc _ _))
  | false =>
  rw [hw] at HW
  rw [if_neg (by decide)]
  unfold oneL
  simp only
  rw [hw, if_neg (by decide), ← hd]
  clear hw hd
  by_cases h47 : s[p] = 47
  · rw [if_pos h47]
    rw [show (s[p] == 47) = true from beq_iff_eq.2 h47] at e47
    have HC := Lib.hid (rcomment_at s hs p hp (w.alloc (.cells #[.int .i64 0, .int .i64 0] 39)))
    have hk := @commentL_kind s.size p (s.data.toList.drop (p + 1))
    generalize commentL s.size p (s.data.toList.drop (p + 1)) = res at *
    clear h47 e39 e37 e58 e124 e59
    cases res with
    | ok q =>
      obtain ⟨k, n⟩ := q
      obtain rfl := hk k n rfl
      go_enter Tryd.func16, Tryd.ntmps16
      go_wp2_with (first
        | (go_at_call 27; refine HW.out.mono ?_; rintro e w' ⟨rfl, rfl⟩)
        | (go_at_call 28; refine HC.out.mono ?_; rintro e w1 ⟨hb, rfl⟩; obtain ⟨hB, hlt, c0, c1, f0, f1⟩ := res_facts hb; have HB := Lib.hid hB; clear hb hB))
      go_region
      go_wp2
      refine bodyPost_ret (v := .tuple #[.int .i64 0, .int .i64 n, .agg #[.int .i64 0, .int .i64 0]]) (by have hz := res_cells (x := .int .i64 0) (y := .int .i64 0) hlt c0 c1 (.cells #[.int .i64 0, .int .i64 0] 39); simp [results, Tryd.results16, go_sem, hz.1, hz.2]) rfl (ROne.yesI _ _ 0 n _ rfl (res_below HB.out _))
    | error f =>
      obtain ⟨f1', f2'⟩ := f
      go_enter Tryd.func16, Tryd.ntmps16
      go_wp2_with (first
        | (go_at_call 27; refine HW.out.mono ?_; rintro e w' ⟨rfl, rfl⟩)
        | (go_at_call 28; refine HC.out.mono ?_; rintro e w1 ⟨hb, rfl⟩; obtain ⟨hB, hlt, c0, c1, f0, f1⟩ := res_facts hb; have HB := Lib.hid hB; clear hb hB))
      go_region
      go_wp2
      refine bodyPost_ret (v := .tuple #[.int .i64 0, .int .i64 0, .agg #[.int .i64 (f1' : Int), .int .i64 (f2' : Int)]]) (by have hz := res_cells (x := .int .i64 (f1' : Int)) (y := .int .i64 (f2' : Int)) hlt c0 c1 (.cells #[.int .i64 (f1' : Int), .int .i64 (f2' : Int)] 39); simp [results, Tryd.results16, go_sem, hz.1, hz.2]) rfl (ROne.errI _ _ _ _ _ _ rfl (res_below HB.out _))
  rw [if_neg h47]
  rw [show (s[p] == 47) = false from beq_eq_false_iff_ne.2 h47] at e47
  have HCL := Lib.hid (rclass_any s[p] (w.alloc (.cells #[.int .i64 0, .int .i64 0] 39)))
  by_cases h39 : s[p] = 39
  · rw [if_pos h39]
    rw [show (s[p] == 39) = true from beq_iff_eq.2 h39] at e39
    rw [show classOf s[p] = 6 by rw [h39]; decide] at HCL
    have HC := Lib.hid (rquoted_at s (by omega) p hp (w.alloc (.cells #[.int .i64 0, .int .i64 0] 39)))
    have hk := @quoteL_kind s.size p (s.data.toList.drop (p + 1))
    generalize quoteL s.size p (s.data.toList.drop (p + 1)) = res at *
    clear h47 h39 e37 e58 e124 e59
    cases res with
    | ok q =>
      obtain ⟨k, n⟩ := q
      obtain rfl := hk k n rfl
      go_enter Tryd.func16, Tryd.ntmps16
      go_wp2_with (first
        | (go_at_call 27; refine HW.out.mono ?_; rintro e w' ⟨rfl, rfl⟩)
        | (go_at_call 29; refine HCL.out.mono ?_; rintro e w' ⟨rfl, rfl⟩)
        | (go_at_call 31; refine HC.out.mono ?_; rintro e w1 ⟨hb, rfl⟩; obtain ⟨hB, hlt, c0, c1, f0, f1⟩ := res_facts hb; have HB := Lib.hid hB; clear hb hB))
      go_region
      go_wp2
      refine bodyPost_ret (v := .tuple #[.int .i64 2, .int .i64 n, .agg #[.int .i64 0, .int .i64 0]]) (by have hz := res_cells (x := .int .i64 0) (y := .int .i64 0) hlt c0 c1 (.cells #[.int .i64 0, .int .i64 0] 39); simp [results, Tryd.results16, go_sem, hz.1, hz.2]) rfl (ROne.yesI _ _ 2 n _ rfl (res_below HB.out _))
    | error f =>
      obtain ⟨f1', f2'⟩ := f
      go_enter Tryd.func16, Tryd.ntmps16
      go_wp2_with (first
        | (go_at_call 27; refine HW.out.mono ?_; rintro e w' ⟨rfl, rfl⟩)
        | (go_at_call 29; refine HCL.out.mono ?_; rintro e w' ⟨rfl, rfl⟩)
        | (go_at_call 31; refine HC.out.mono ?_; rintro e w1 ⟨hb, rfl⟩; obtain ⟨hB, hlt, c0, c1, f0, f1⟩ := res_facts hb; have HB := Lib.hid hB; clear hb hB))
      go_region
      go_wp2
      refine bodyPost_ret (v := .tuple #[.int .i64 2, .int .i64 0, .agg #[.int .i64 (f1' : Int), .int .i64 (f2' : Int)]]) (by have hz := res_cells (x := .int .i64 (f1' : Int)) (y := .int .i64 (f2' : Int)) hlt c0 c1 (.cells #[.int .i64 (f1' : Int), .int .i64 (f2' : Int)] 39); simp [results, Tryd.results16, go_sem, hz.1, hz.2]) rfl (ROne.errI _ _ _ _ _ _ rfl (res_below HB.out _))
  rw [if_neg h39]
  rw [show (s[p] == 39) = false from beq_eq_false_iff_ne.2 h39] at e39
  by_cases h37 : s[p] = 37
  · rw [if_pos h37]
    rw [show (s[p] == 37) = true from beq_iff_eq.2 h37] at e37
    rw [show (s[p] == 58) = false by rw [h37]; rfl] at e58
    rw [show (s[p] == 124) = false by rw [h37]; rfl] at e124
    rw [show (s[p] == 59) = false by rw [h37]; rfl] at e59
    rw [show classOf s[p] = 8 by rw [h37]; decide] at HCL
    have HC := Lib.hid (rmark_at s hs p hp (w.alloc (.cells #[.int .i64 0, .int .i64 0] 39)))
    generalize markL p (s.data.toList.drop (p + 1)) = res at *
    clear h47 h39 h37
    cases res with
    | ok q =>
      obtain ⟨k, n⟩ := q
      go_enter Tryd.func16, Tryd.ntmps16
      go_wp2_with (first
        | (go_at_call 27; refine HW.out.mono ?_; rintro e w' ⟨rfl, rfl⟩)
        | (go_at_call 29; refine HCL.out.mono ?_; rintro e w' ⟨rfl, rfl⟩)
        | (go_at_call 32; refine HC.out.mono ?_; rintro e w1 ⟨hb, rfl⟩; obtain ⟨hB, hlt, c0, c1, f0, f1⟩ := res_facts hb; have HB := Lib.hid hB; clear hb hB))
      refine bodyPost_ret (v := .tuple #[.int .i64 k, .int .i64 n, .agg #[.int .i64 0, .int .i64 0]]) (by simp [results, Tryd.results16, go_sem, c0, c1]) rfl (ROne.yesI _ _ k n _ rfl ((HB.out.setCell (by simp) _).setCell (by simp) _))
    | error f =>
      obtain ⟨f1', f2'⟩ := f
      go_enter Tryd.func16, Tryd.ntmps16
      go_wp2_with (first
        | (go_at_call 27; refine HW.out.mono ?_; rintro e w' ⟨rfl, rfl⟩)
        | (go_at_call 29; refine HCL.out.mono ?_; rintro e w' ⟨rfl, rfl⟩)
        | (go_at_call 32; refine HC.out.mono ?_; rintro e w1 ⟨hb, k, rfl⟩; obtain ⟨hB, hlt, c0, c1, f0, f1⟩ := res_facts hb; have HB := Lib.hid hB; clear hb hB))
      refine bodyPost_ret (v := .tuple #[.int .i64 k, .int .i64 0, .agg #[.int .i64 (f1' : Int), .int .i64 (f2' : Int)]]) (by simp [results, Tryd.results16, go_sem, c0, c1]) rfl (ROne.errI _ _ _ _ _ _ rfl ((HB.out.setCell (by simp) _).setCell (by simp) _))
  rw [if_neg h37]
  rw [show (s[p] == 37) = false from beq_eq_false_iff_ne.2 h37] at e37
  by_cases h4 : classOf s[p] = 4
  · rw [if_pos h4]
    rw [h4] at HCL
    have HSP := Lib.hid (rletters_any s (by omega) p (by omega) (w.alloc (.cells #[.int .i64 0, .int .i64 0] 39)))
    generalize spanBy letB (s.data.toList.drop p) = k at *
    clear h47 h39 h37 h4 e39 e37 e58 e124 e59
    by_cases h24 : 24 < k
    · rw [if_pos h24]
      have q24 : (24 : Int) < (k : Int) := by omega
      clear h24
      go_enter Tryd.func16, Tryd.ntmps16
      go_wp2_with (first
        | (go_at_call 27; refine HW.out.mono ?_; rintro e w' ⟨rfl, rfl⟩)
        | (go_at_call 29; refine HCL.out.mono ?_; rintro e w' ⟨rfl, rfl⟩)
        | (go_at_call 30; refine HSP.out.mono ?_; rintro e w' ⟨rfl, rfl⟩))
      refine bodyPost_ret (v := .tuple #[.int .i64 0, .int .i64 0, .agg #[.int .i64 5, .int .i64 (p : Int)]]) (by simp [results, Tryd.results16, go_sem]) rfl (ROne.errI _ _ 0 5 _ _ rfl (below_alloc _ _))
    · rw [if_neg h24]
      have q24 : ¬ (24 : Int) < (k : Int) := by omega
      clear h24
      go_enter Tryd.func16, Tryd.ntmps16
      go_wp2_with (first
        | (go_at_call 27; refine HW.out.mono ?_; rintro e w' ⟨rfl, rfl⟩)
        | (go_at_call 29; refine HCL.out.mono ?_; rintro e w' ⟨rfl, rfl⟩)
        | (go_at_call 30; refine HSP.out.mono ?_; rintro e w' ⟨rfl, rfl⟩))
      refine bodyPost_ret (v := .tuple #[.int .i64 1, .int .i64 (k : Int), .agg #[.int .i64 0, .int .i64 0]]) (by simp [results, Tryd.results16, go_sem]) rfl (ROne.yesI _ _ 1 k _ rfl (below_alloc _ _))
  rw [if_neg h4]
  have q4 : ((classOf s[p] : Int) == 4) = false := beq_eq_false_iff_ne.2 (by omega)
  generalize classOf s[p] = cl at *
  clear h47 h39 h37 h4
  unfold signL
  by_cases h58 : s[p] = 58
  · rw [show (s[p] == 58) = true from beq_iff_eq.2 h58] at e58
    rw [if_pos h58, if_pos (by decide)]
    clear h58 e124 e59
    go_enter Tryd.func16, Tryd.ntmps16
    go_wp2_with (first
      | (go_at_call 27; refine HW.out.mono ?_; rintro e w' ⟨rfl, rfl⟩)
      | (go_at_call 29; refine HCL.out.mono ?_; rintro e w' ⟨rfl, rfl⟩))
    refine bodyPost_ret (v := .tuple #[.int .i64 3, .int .i64 1, .agg #[.int .i64 0, .int .i64 0]]) (by simp [results, Tryd.results16, go_sem]) rfl (ROne.yesI _ _ 3 1 _ rfl (below_alloc _ _))
  rw [if_neg h58]
  rw [show (s[p] == 58) = false from beq_eq_false_iff_ne.2 h58] at e58
  by_cases h124 : s[p] = 124
  · rw [show (s[p] == 124) = true from beq_iff_eq.2 h124] at e124
    rw [if_pos h124, if_pos (by decide)]
    clear h58 h124 e59
    go_enter Tryd.func16, Tryd.ntmps16
    go_wp2_with (first
      | (go_at_call 27; refine HW.out.mono ?_; rintro e w' ⟨rfl, rfl⟩)
      | (go_at_call 29; refine HCL.out.mono ?_; rintro e w' ⟨rfl, rfl⟩))
    refine bodyPost_ret (v := .tuple #[.int .i64 4, .int .i64 1, .agg #[.int .i64 0, .int .i64 0]]) (by simp [results, Tryd.results16, go_sem]) rfl (ROne.yesI _ _ 4 1 _ rfl (below_alloc _ _))
  rw [if_neg h124]
  rw [show (s[p] == 124) = false from beq_eq_false_iff_ne.2 h124] at e124
  by_cases h59 : s[p] = 59
  · rw [show (s[p] == 59) = true from beq_iff_eq.2 h59] at e59
    rw [if_pos h59, if_pos (by decide)]
    clear h58 h124 h59
    go_enter Tryd.func16, Tryd.ntmps16
    go_wp2_with (first
      | (go_at_call 27; refine HW.out.mono ?_; rintro e w' ⟨rfl, rfl⟩)
      | (go_at_call 29; refine HCL.out.mono ?_; rintro e w' ⟨rfl, rfl⟩))
    refine bodyPost_ret (v := .tuple #[.int .i64 5, .int .i64 1, .agg #[.int .i64 0, .int .i64 0]]) (by simp [results, Tryd.results16, go_sem]) rfl (ROne.yesI _ _ 5 1 _ rfl (below_alloc _ _))
  rw [if_neg h59]
  rw [show (s[p] == 59) = false from beq_eq_false_iff_ne.2 h59] at e59
  rw [if_neg (by decide)]
  clear h58 h124 h59
  go_enter Tryd.func16, Tryd.ntmps16
  go_wp2_with (first
    | (go_at_call 27; refine HW.out.mono ?_; rintro e w' ⟨rfl, rfl⟩)
    | (go_at_call 29; refine HCL.out.mono ?_; rintro e w' ⟨rfl, rfl⟩))
  refine bodyPost_ret (v := .tuple #[.int .i64 0, .int .i64 0, .agg #[.int .i64 2, .int .i64 (p : Int)]]) (by simp [results, Tryd.results16, go_sem]) rfl (ROne.errI _ _ 0 2 _ _ rfl (below_alloc _ _))
end Go.Proofs.YtdbmeocpjopdhaaDoor

namespace Go.Proofs.YtdbmeocpjopdhaaDoor
open Go.RowKit
set_option linter.unusedVariables false
theorem toks_fuel (sz : Nat) : ∀ (f f' p : Nat) (l : List UInt8), sz = p + l.length → l.length < f → l.length < f' → toksL sz f p l = toksL sz f' p l := by
  intro f
  induction f with
  | zero => intro f' p l _ h; omega
  | succ f ih =>
    intro f' p l hsz h1 h2
    cases f' with
    | zero => omega
    | succ f' =>
      simp only [toksL]
      cases l with
      | nil => rfl
      | cons c r =>
        cases ho : oneL sz p (c :: r) with
        | error e => rfl
        | ok q =>
          obtain ⟨k, n⟩ := q
          have a1 := (one_ok ho).2 (by simp)
          have a2 := one_len ho hsz
          simp only [List.length_cons] at a2 h1 h2 hsz
          simp only
          rw [ih f' (p + n) ((c :: r).drop n) (by simp; omega) (by simp; omega) (by simp; omega)]
theorem toks_white {sz f p m : Nat} {l : List UInt8} (hl : l ≠ []) (ho : oneL sz p l = .ok (0, m)) : toksL sz (f + 1) p l = toksL sz f (p + m) (l.drop m) := by
  have he : l.isEmpty = false := by cases l with | nil => exact absurd rfl hl | cons a r => rfl
  simp only [toksL, he, ho]
  cases toksL sz f (p + m) (l.drop m) <;> rfl
theorem TokAt.white {s : ByteArray} {p : Nat} {acc : List Tk} (h : TokAt s p acc) (hp : p < s.size) (hw : whiteB s[p] = true) : TokAt s (p + 1) acc := by
  obtain ⟨f, hf, h⟩ := h
  refine ⟨s.size, by omega, ?_⟩
  rw [h]
  congr 1
  have hd := drop_at s p hp
  have hlen : (s.data.toList.drop (p + 1)).length = s.size - (p + 1) := by rw [List.length_drop, len_size]
  generalize s.data.toList.drop (p + 1) = r at *
  rw [hd]
  obtain ⟨g, rfl⟩ : ∃ g, f = g + 1 := ⟨f - 1, by omega⟩
  have ho : oneL s.size p (s[p] :: r) = .ok (0, spanBy whiteB r + 1) := by
    unfold oneL
    simp only
    rw [hw, if_pos rfl, spanBy_cons, if_pos hw]
  rw [toks_white (by simp) ho, List.drop_succ_cons]
  have hsp := spanBy_le whiteB r
  cases r with
  | nil => exact toks_fuel _ _ _ _ _ (by simp [spanBy] at hlen ⊢; omega) (by simp [spanBy] at hlen ⊢; omega) (by simp [spanBy] at hlen ⊢; omega)
  | cons c t =>
    simp only [List.length_cons] at hlen hsp
    cases hc : whiteB c with
    | false =>
      have h0 : spanBy whiteB (c :: t) = 0 := by rw [spanBy_cons, hc]; rfl
      rw [h0]
      exact toks_fuel _ _ _ _ _ (by simp; omega) (by simp; omega) (by simp; omega)
    | true =>
      have ho2 : oneL s.size (p + 1) (c :: t) = .ok (0, spanBy whiteB (c :: t)) := by
        unfold oneL
        simp only
        rw [hc, if_pos rfl]
      obtain ⟨g2, hg2⟩ : ∃ g2, s.size = g2 + 1 := ⟨s.size - 1, by omega⟩
      have hr : toksL s.size s.size (p + 1) (c :: t) = toksL s.size (g2 + 1) (p + 1) (c :: t) := by rw [← hg2]
      rw [hr, toks_white (by simp) ho2, show p + (spanBy whiteB (c :: t) + 1) = p + 1 + spanBy whiteB (c :: t) by omega]
      have h1 : 1 ≤ spanBy whiteB (c :: t) := by rw [spanBy_cons, hc]; simp
      exact toks_fuel _ _ _ _ _ (by simp; omega) (by simp; omega) (by simp; omega)
theorem one_err {sz p : Nat} {l : List UInt8} {f : Flt} (h : oneL sz p l = .error f) : f.1 ≠ 0 := by
  unfold oneL at h
  cases l with
  | nil => cases h
  | cons c r =>
    simp only at h
    unfold commentL quoteL markL at h
    repeat' (first | (cases h; done) | (cases h; simp; done) | split at h)
/-- A step of the document's. -/
theorem TokAt.stepD {s : ByteArray} {p : Nat} {acc : List Tk} (h : TokAt s p acc) (hp : p < s.size) :
    match oneD s.size p (s.data.toList.drop p) with
    | .error e => e.1 ≠ 0 ∧ toksL s.size (s.size + 1) 0 s.data.toList = .error e
    | .ok (k, n) => 0 < n ∧ p + n ≤ s.size ∧ TokAt s (p + n) (if k = 0 then acc else acc ++ [⟨k, (s.data.toList.drop p).take n, p⟩]) := by
  have hd := drop_at s p hp
  cases hw : whiteB s[p] with
  | true =>
    have ho : oneD s.size p (s.data.toList.drop p) = .ok (0, 1) := by rw [hd]; unfold oneD; simp only; rw [hw]; rfl
    rw [ho]
    exact ⟨by omega, by omega, h.white hp hw⟩
  | false =>
    have ho : oneD s.size p (s.data.toList.drop p) = oneL s.size p (s.data.toList.drop p) := by rw [hd]; unfold oneD; simp only; rw [hw]; rfl
    rw [ho]
    have hs := h.step hp
    cases he : oneL s.size p (s.data.toList.drop p) with
    | error e => rw [he] at hs; exact ⟨one_err he, hs⟩
    | ok q => obtain ⟨k, n⟩ := q; rw [he] at hs; exact hs
/-- What the document's tokens come to: an error, or none. -/
def RAll (w : World) (r : Except Flt (List Tk)) (e : Ending) (w' : World) : Prop :=
  Below w.heap.size w w' ∧ ∃ v, match r with
  | .ok _ => e = .returned (.tuple #[v, .agg #[.int .i64 0, .int .i64 0]])
  | .error f => f.1 ≠ 0 ∧ e = .returned (.tuple #[v, .agg #[.int .i64 f.1, .int .i64 f.2]])
end Go.Proofs.YtdbmeocpjopdhaaDoor

namespace Go.Proofs.YtdbmeocpjopdhaaDoor
open Go.RowKit
set_option linter.unusedVariables false
theorem blk_facts {w : World} {b : Nat} {t : TypeId} {x0 x1 : Value} (h : Blk w b t #[x0, x1]) : w.cell? ⟨b, 0, none⟩ = some x0 ∧ w.cell? ⟨b, 1, none⟩ = some x1 ∧ w.frozen? ⟨b, 0, none⟩ = false ∧ w.frozen? ⟨b, 1, none⟩ = false := by
  have c0 := h.cell 0
  have c1 := h.cell 1
  simp at c0 c1
  exact ⟨c0, c1, h.frozen 0, h.frozen 1⟩
theorem src_tok2 (y : World) (o : Obj) (a c : Int) (b : ByteArray) : SrcOK ((y.alloc o).alloc (.cells #[.int .i64 a, .string b, .int .i64 c] 68)) (.slice (some ⟨y.heap.size + 1, 0, none⟩) 1 1) 1 3 [.int .i64 a, .string b, .int .i64 c] := by
  have h : (y.alloc o).heap.size = y.heap.size + 1 := by simp
  rw [← h]
  exact src_tok _ _ _ _
set_option maxRecDepth 100000 in
set_option maxHeartbeats 3200000 in
theorem rall_any (s : ByteArray) (hs : s.size ≤ 4611686018427387904) (w : World) : Calls Tryd.prog 9 #[.string s] w (RAll w (tokens s.data.toList)) := by
  unfold tokens
  rw [len_size]
  by_cases hlong : 8192 < s.size
  · rw [if_pos hlong]
    have q1 : (8192 : Int) < (s.size : Int) := by omega
    clear hlong
    go_enter Tryd.func9, Tryd.ntmps9
    go_wp2
    refine bodyPost_ret (v := .tuple #[.slice none 0 0, .agg #[.int .i64 5, .int .i64 0]]) (by simp [results, Tryd.results9, go_sem]) rfl ⟨below_alloc _ _, .slice none 0 0, by decide, rfl⟩
  rw [if_neg hlong]
  have q1 : ¬ (8192 : Int) < (s.size : Int) := by omega
  have hs2 : s.size ≤ 8192 := by omega
  clear hlong
  go_enter Tryd.func9, Tryd.ntmps9
  go_wp2
  go_loopw [4, 5] (fun v i wr => ∃ (p : Nat) (acc : List Tk), p ≤ s.size ∧ i = .int .i64 p ∧ acc.length ≤ p ∧ (∃ A c, v = .slice A acc.length c) ∧ Hid (wr.ownsRow (w.heap.size + 1) 68 3 v acc.length (acc.flatMap Tk.cells)) ∧ Hid (Below w.heap.size w wr) ∧ Hid (Blk wr w.heap.size 39 #[.int .i64 0, .int .i64 0]) ∧ Hid (TokAt s p acc)) (fun _ i _ => s.size - (intOf i).toNat)
  case atStart => exact ⟨0, [], Nat.zero_le _, rfl, Nat.le_refl _, ⟨none, 0, rfl⟩, Lib.hid (World.ownsRow_nil _ _ _ _), Lib.hid (below_alloc _ _), Lib.hid (Blk.new _ _ _), Lib.hid (TokAt.start s)⟩
  case round =>
    obtain ⟨p, acc, hp, rfl, hacc, ⟨A, c, rfl⟩, HO, HB, HK, HT⟩ := hrel
    by_cases hlt : p < s.size
    · have hq2 : (p : Int) < (s.size : Int) := by omega
      have HONE := Lib.hid (rone_at s hs2 p hlt wr)
      have hstep := HT.out.stepD hlt
      have hwl := HK.out.lt
      cases ho : oneD s.size p (s.data.toList.drop p) with
      | error f =>
        obtain ⟨fe, fp⟩ := f
        rw [ho] at HONE hstep
        have HS := Lib.hid hstep.2
        have qe : ((fe : Int) != 0) = true := bne_iff_ne.2 (by have := hstep.1; simp at this; omega)
        have HE := Lib.hid hstep.1
        clear hstep ho
        go_wp2_with (go_at_call 16; refine HONE.out.mono ?_; rintro e w1 ⟨hb, k, rfl⟩; have HB1 := Lib.hid hb; have HK1 := Lib.hid (HK.out.below hb hwl); have hw1 := hb.size; have hwl1 := HK1.out.lt; obtain ⟨c0, c1, f0, f1⟩ := blk_facts HK1.out; clear hb)
        go_region
        go_wp2
        rw [HS.out]
        refine bodyPost_ret (v := .tuple #[.slice none 0 0, .agg #[.int .i64 fe, .int .i64 fp]]) (by have hz := res_cells (x := .int .i64 fe) (y := .int .i64 fp) hwl1 c0 c1 (.cells #[.int .i64 fe, .int .i64 fp] 39); simp [results, Tryd.results9, go_sem, hz.1, hz.2]) rfl ⟨?_, .slice none 0 0, HE.out, rfl⟩
        first | exact res_below (HB.out.trans (HB1.out.mono HB.out.size)) _ | trace_state
      | ok q =>
        obtain ⟨k, n⟩ := q
        rw [ho] at HONE hstep
        obtain ⟨hn0, hn1, hn2⟩ := hstep
        have HN := Lib.hid hn2
        have b1 : (p : Int) + (n : Int) ≤ (s.size : Int) := by omega
        have hstr : str ((s.data.toList.drop p).take n) = s.extract p (p + n) := by rw [← extract_take, str_data]
        have HSTR := Lib.hid hstr
        clear ho hn2 hstr
        by_cases hk : k = 0
        · subst hk
          have HN2 : Hid (TokAt s (p + n) acc) := Lib.hid HN.out
          go_wp2_with (go_at_call 16; refine HONE.out.mono ?_; rintro e w1 ⟨hb, rfl⟩; have HB1 := Lib.hid hb; have HK1 := Lib.hid (HK.out.below hb hwl); have hw1 := hb.size; have hwl1 := HK1.out.lt; clear hb)
          go_roundw
          case rel => exact ⟨p + n, acc, by omega, by go_num, by omega, ⟨_, _, rfl⟩, Lib.hid (((Keeps.of_below (B := 0) (T := []) HB1.out).own HO.out (.inr (by simp))).alloc _), Lib.hid ((HB.out.trans (HB1.out.mono HB.out.size)).alloc (by have := HB.out.size; omega) _), Lib.hid (HK1.out.alloc _), HN2⟩
          case measure => simp [intOf]; omega
        · have HN2 : Hid (TokAt s (p + n) (acc ++ [⟨k, (s.data.toList.drop p).take n, p⟩])) := Lib.hid (by have := HN.out; rw [if_neg hk] at this; exact this)
          have q0 : ((k : Int) != 0) = true := bne_iff_ne.2 (by omega)
          clear hk
          go_wp2_with (first
            | (go_at_call 16; refine HONE.out.mono ?_; rintro e w1 ⟨hb, rfl⟩; have HB1 := Lib.hid hb; have HK1 := Lib.hid (HK.out.below hb hwl); have HO1 := Lib.hid (((Keeps.of_below (B := 0) (T := []) hb).own HO.out (.inr (by simp))).alloc (.cells #[.int .i64 0, .int .i64 0] 39)); have hsz1 := HB.out.size; have hsz2 := hb.size; have hwl1 := HK1.out.lt; clear hb)
            | (at_builtin; (refine wpList_app ElTok (.tmp 30) (.tmp 40) rfl rfl (base := w.heap.size + 1) (n := acc.length) (m := 1) (N := acc.length + 1) (xs := acc.flatMap Tk.cells) (news := [.int .i64 k, .string (s.extract p (p + n)), .int .i64 p]) rfl rfl (HO1.out.alloc _) (src_tok2 w1 _ _ _ _) rfl (by unfold maxLen; omega) (by omega) (by simp; omega) ?_; intro A2 c2 w2 r1 r2 r3; have HR1 := Lib.hid r1; have HK2 := Lib.hid (below_app r2 (by simp; omega)); clear r1 r2 r3)))
          go_roundw
          case rel =>
            refine ⟨p + n, acc ++ [⟨k, (s.data.toList.drop p).take n, p⟩], by omega, by go_num, by simp; omega, ⟨A2, c2, by simp⟩, Lib.hid ?_, Lib.hid (((HB.out.trans (HB1.out.mono HB.out.size)).alloc (by omega) _).trans (HK2.out.mono (by omega))), Lib.hid ((HK1.out.alloc _).below HK2.out (by omega)), HN2⟩
            have := HR1.out
            rw [← HSTR.out] at this
            simpa [Tk.cells] using this
          case measure => simp [intOf]; omega
    · obtain rfl : p = s.size := by omega
      have HL := Lib.hid (HT.out.last rfl)
      have hsz1 := HB.out.size
      have hwl := HK.out.lt
      go_wp2_with (at_builtin; refine wpList_app ElTok (.tmp 45) (.tmp 49) rfl rfl (base := w.heap.size + 1) (n := acc.length) (m := 1) (N := acc.length + 1) (xs := acc.flatMap Tk.cells) (news := [.int .i64 0, .string ⟨#[]⟩, .int .i64 s.size]) rfl rfl (HO.out.alloc _) (src_tok wr _ _ _) rfl (by unfold maxLen; omega) (by omega) (by simp; omega) ?_; intro A2 c2 w2 r1 r2 r3; have HK2 := Lib.hid (below_app r2 (by omega)); have HK3 := Lib.hid (HK.out.below HK2.out (by omega)); obtain ⟨c0, c1, f0, f1⟩ := blk_facts HK3.out; clear r1 r2 r3)
      rw [HL.out]
      refine bodyPost_ret (v := .tuple #[.slice A2 (acc.length + 1) c2, .agg #[.int .i64 0, .int .i64 0]]) (by simp [results, Tryd.results9, go_sem, c0, c1]) rfl ⟨?_, _, rfl⟩
      exact ((HB.out.trans (HK2.out.mono (by omega))).setCell (by simp) _).setCell (by simp) _
end Go.Proofs.YtdbmeocpjopdhaaDoor
