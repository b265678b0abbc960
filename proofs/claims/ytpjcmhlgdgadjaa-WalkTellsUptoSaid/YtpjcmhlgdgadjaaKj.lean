/- Where the first = stands, behind a name: both sides. A row of parts: a clone, and one more ahead of it: that the call ends, and where it writes. One part more ahead of parts. -/
import Derived.Test.YtpjcmhlgdgadjaaKh
import Derived.Laws.CopyRow
import Derived.Lib.AppendZeros
import Derived.Lib.Overlaps
import Derived.Laws.Externs
namespace Go.Proofs.Ytpjcmhlgdgadjaa
open Go.RowKit
set_option linter.unusedVariables false
/-- Where the first = stands. -/
def eqAt (s : ByteArray) : Int := Lib.indexByte s.data.toList 61
def assignI (s : ByteArray) : Int := if eqAt s < 0 then -1 else if nameB (s.data.toList.take (eqAt s).toNat) = true then eqAt s else -1
theorem index_lt (l : List UInt8) (c : UInt8) : Lib.indexByte l c < l.length := by
  induction l with
  | nil => simp [Lib.indexByte]
  | cons b l ih =>
    unfold Lib.indexByte
    simp only [List.length_cons]
    split
    · omega
    · split <;> omega
theorem take_extract (s : ByteArray) (n : Nat) : (s.extract 0 n).data.toList = s.data.toList.take n := by
  rw [Lib.extract_data]; simp
theorem assignI_lt (s : ByteArray) : -1 ≤ assignI s ∧ assignI s < s.size := by
  have h1 := index_lt s.data.toList 61
  have h2 : s.data.toList.length = s.size := by simp
  have h3 := Lib.indexByte_ge s.data.toList 61
  unfold assignI eqAt
  split
  · omega
  · split <;> omega
theorem cassign_any (s : ByteArray) (hs : s.size ≤ 1048576) (w : World) : Calls Try.prog 55 #[.string s] w fun e w' => e = .returned (.int .i64 (assignI s)) ∧ Below w.heap.size w w' := by
  have HI := Lib.hid (sindex_any s 61 w)
  have h61 : (61 : Int).toNat.toUInt8 = 61 := rfl
  rw [h61] at HI
  have hlt := index_lt s.data.toList 61
  have hge := Lib.indexByte_ge s.data.toList 61
  have h2 : s.data.toList.length = s.size := by simp
  rw [h2] at hlt
  unfold assignI eqAt
  generalize Lib.indexByte s.data.toList 61 = i at *
  by_cases h0 : i < 0
  · obtain rfl : i = -1 := by omega
    rw [if_pos h0]
    clear h0 hlt hge
    go_enter Try.func55, Try.ntmps55
    go_wp2_with (go_at_call 67; refine HI.out.mono ?_; rintro e w' ⟨rfl, rfl⟩)
    go_ret
    exact ⟨rfl, Below.refl _ _⟩
  · rw [if_neg h0]
    obtain ⟨k, rfl⟩ : ∃ k : Nat, i = k := ⟨i.toNat, by omega⟩
    rw [Int.toNat_natCast]
    have hk : k < s.size := by omega
    have HN := Lib.hid (name_any (s.extract 0 k) (by rw [ByteArray.size_extract]; omega) w)
    rw [take_extract] at HN
    have hneg : ¬ ((k : Int) < 0) := by omega
    cases hn : nameB (s.data.toList.take k) with
    | true =>
      rw [hn] at HN
      rw [if_pos rfl]
      clear hn h0 hge
      go_enter Try.func55, Try.ntmps55
      go_wp2_with (first
        | (go_at_call 67; refine HI.out.mono ?_; rintro e w' ⟨rfl, rfl⟩)
        | (go_at_call 65; refine HN.out.mono ?_; rintro e w' ⟨rfl, hb⟩))
      go_ret
      exact ⟨rfl, hb⟩
    | false =>
      rw [hn] at HN
      rw [if_neg (by simp)]
      clear hn h0 hge
      go_enter Try.func55, Try.ntmps55
      go_wp2_with (first
        | (go_at_call 67; refine HI.out.mono ?_; rintro e w' ⟨rfl, rfl⟩)
        | (go_at_call 65; refine HN.out.mono ?_; rintro e w' ⟨rfl, hb⟩))
      go_ret
      exact ⟨rfl, hb⟩
/-- The place of the first one, from place k on. -/
theorem index_drop (s : ByteArray) (k : Nat) (hk : k < s.size) (h : Lib.indexByte s.data.toList 61 = (if Lib.indexByte (s.data.toList.drop k) 61 = -1 then -1 else k + Lib.indexByte (s.data.toList.drop k) 61)) :
    (s[k] = 61 → Lib.indexByte s.data.toList 61 = k) ∧ (s[k] ≠ 61 → Lib.indexByte s.data.toList 61 = (if Lib.indexByte (s.data.toList.drop (k + 1)) 61 = -1 then -1 else (k + 1 : Nat) + Lib.indexByte (s.data.toList.drop (k + 1)) 61)) := by
  have hd := drop_at s k hk
  have e : Lib.indexByte (s.data.toList.drop k) 61 = if s[k] == 61 then 0 else if Lib.indexByte (s.data.toList.drop (k + 1)) 61 == -1 then -1 else Lib.indexByte (s.data.toList.drop (k + 1)) 61 + 1 := by rw [hd]; rfl
  rw [e] at h
  constructor
  · intro h1
    rw [h, h1]; simp
  · intro h1
    have h2 : (s[k] == 61) = false := by simpa using h1
    rw [h, h2]
    have hg := Lib.indexByte_ge (s.data.toList.drop (k + 1)) 61
    by_cases h3 : Lib.indexByte (s.data.toList.drop (k + 1)) 61 = -1
    · rw [h3]; simp
    · have h4 : (Lib.indexByte (s.data.toList.drop (k + 1)) 61 == -1) = false := by simpa using h3
      rw [h4, if_neg h3]
      simp only [Bool.false_eq_true, if_false]
      rw [if_neg (by omega)]
      omega
set_option maxHeartbeats 1600000 in
theorem rassign_any (s : ByteArray) (hs : s.size ≤ 1048576) (w : World) : Calls Try.prog 58 #[.string s] w fun e w' => e = .returned (.int .i64 (assignI s)) ∧ w = w' := by
  go_enter Try.func58, Try.ntmps58
  go_wp2
  go_loop [3] (fun i => ∃ k : Nat, k ≤ s.size ∧ i = .int .i64 k ∧ Hid (Lib.indexByte s.data.toList 61 = (if Lib.indexByte (s.data.toList.drop k) 61 = -1 then -1 else k + Lib.indexByte (s.data.toList.drop k) 61))) (fun i => s.size - (intOf i).toNat)
  case atStart => exact ⟨0, Nat.zero_le _, rfl, Lib.hid (by
    have := Lib.indexByte_ge s.data.toList 61
    rw [List.drop_zero]
    split <;> omega)⟩
  case round =>
    obtain ⟨k, hk, rfl, HL⟩ := hrel
    by_cases hlt : k < s.size
    · obtain ⟨hp1, hp2⟩ := index_drop s k hlt HL.out
      by_cases h61 : s[k] = 61
      · have hi := hp1 h61
        have HN := Lib.hid (rname_any (s.extract 0 k) (by rw [ByteArray.size_extract]; omega) w)
        rw [take_extract] at HN
        have hv : assignI s = if nameB (s.data.toList.take k) = true then (k : Int) else -1 := by
          unfold assignI eqAt
          rw [hi, if_neg (by omega), Int.toNat_natCast]
        have h61n : s[k].toNat = 61 := by rw [h61]; rfl
        have h61i : (s[k].toNat : Int) = 61 := by omega
        cases hn : nameB (s.data.toList.take k) with
        | true =>
          rw [hn] at HN hv
          have HV : Hid (assignI s = k) := Lib.hid (by rw [hv, if_pos rfl])
          clear hp1 hp2 hi hv hn h61
          go_wp2_with (go_at_call 66; refine HN.out.mono ?_; rintro e w' ⟨rfl, rfl⟩)
          go_ret
          exact ⟨by rw [HV.out]; rfl, rfl⟩
        | false =>
          rw [hn] at HN hv
          have HV : Hid (assignI s = -1) := Lib.hid (by rw [hv, if_neg (by simp)])
          clear hp1 hp2 hi hv hn h61
          go_wp2_with (go_at_call 66; refine HN.out.mono ?_; rintro e w' ⟨rfl, rfl⟩)
          go_ret
          exact ⟨by rw [HV.out]; rfl, rfl⟩
      · have HS := Lib.hid (hp2 h61)
        have h61n : (s[k].toNat : Int) ≠ 61 := fun h => h61 (by
          apply UInt8.toNat.inj
          show s[k].toNat = 61
          omega)
        have h61b : ((s[k].toNat : Int) != 61) = true := by simpa using h61n
        clear hp1 hp2 h61 h61n
        go_wp2
        go_round
        case rel => exact ⟨k + 1, by omega, by go_num, HS⟩
        case measure => simp [intOf]; omega
    · obtain rfl : k = s.size := by omega
      have HV : Hid (assignI s = -1) := Lib.hid (by
        unfold assignI eqAt
        rw [HL.out, drop_end]
        simp [Lib.indexByte])
      go_wp2
      go_ret
      exact ⟨by rw [HV.out]; rfl, rfl⟩
end Go.Proofs.Ytpjcmhlgdgadjaa

namespace Go.Proofs.Ytpjcmhlgdgadjaa
open Go.RowKit
set_option linter.unusedVariables false
theorem run_copy_sz {P : Program} (w : World) (dT sT ty elem : TypeId) (sz g o dLen dCap : Nat) (sp : Option Addr) (m sc k ck : Nat) (cur : Array Value) (t : TypeId) (news : List Value)
    (hu : P.underlying dT = some (.slice elem)) (hs : (P.info? elem).map (·.size) = some sz) (hg : w.heap[g]? = some (.cells cur t (0, 0))) (hk : Nat.min m dLen = k) (hsrc : SrcOK w (.slice sp k ck) k sz news) (hfit : o + k * sz ≤ cur.size) :
    ∃ w' cur', (Builtin.copy_ #[dT, sT] ty #[.slice (some ⟨g, o, none⟩) dLen dCap, .slice sp m sc]).run P w = .ok (goInt k) w' ∧ Chg (· = g) w w' ∧ Blk w' g t cur' ∧ cur'.size = cur.size := by
  obtain ⟨i, hq, hi⟩ : ∃ i, P.info? elem = some i ∧ i.size = sz := by
    cases hq : P.info? elem with
    | none => simp [hq] at hs
    | some i => exact ⟨i, rfl, by simpa [hq] using hs⟩
  obtain ⟨h1, ⟨he, hk0, rfl⟩ | ⟨ad, c, he, hl, hc⟩⟩ := hsrc
  · cases he
    refine ⟨w, cur, ?_, Chg.refl _ _, hg, rfl⟩
    simp [Builtin.copy_, run_underlying hu, Builtin.lenOf, Builtin.firstCells, sizeOf, typeInfo, hq, storeCells, hk]
  · cases he
    have hload := run_loadCells_list (P := P) w ad news hc
    have hst := run_storeCells_at P g o t news 0 cur w hg (by rw [hl]; omega) h1
    rw [hl] at hload
    obtain ⟨cur', hcur⟩ : ∃ cur', (cur.toList.take (o + 0) ++ news ++ cur.toList.drop (o + 0 + news.length)).toArray = cur' := ⟨_, rfl⟩
    rw [hcur] at hst
    refine ⟨w.setRow g cur', cur', ?_, ?_, setRow_heap w g cur cur' t _ hg, ?_⟩
    · simp [Builtin.copy_, run_underlying hu, Builtin.lenOf, Builtin.firstCells, sizeOf, typeInfo, hq, hi, hk, hload, hst]
    · exact ⟨rfl, rfl, rfl, by simp [World.setRow], fun k hk hx => setRow_other w g k _ hx⟩
    · rw [← hcur, List.size_toArray, List.length_append, List.length_append, hl, List.length_take, List.length_drop, Array.length_toList]
      omega
theorem wpList_copy {P : Program} {w : World} {ops : Array Oper} {rest : List Oper} {o : Oper} {a : Act} {Q : Exit → Act → World → Prop} (hgd : o.guard = none) (d s : Operand) (dT sT : TypeId)
    (ho : o.op = .call { callee := .builtin .copy, args := #[d, s], argTypes := #[dT, sT] }) (elem : TypeId) (sz g off dLen dCap : Nat) (sp : Option Addr) (m sc k ck : Nat) (cur : Array Value) (t : TypeId) (news : List Value)
    (hd : a.eval d = .slice (some ⟨g, off, none⟩) dLen dCap) (hs : a.eval s = .slice sp m sc)
    (hu : P.underlying dT = some (.slice elem)) (hz : (P.info? elem).map (·.size) = some sz) (hg : Blk w g t cur) (hk : Nat.min m dLen = k) (hsrc : SrcOK w (.slice sp k ck) k sz news) (hfit : off + k * sz ≤ cur.size)
    (h : ∀ w' cur', Chg (· = g) w w' → Blk w' g t cur' → cur'.size = cur.size → wpList P ops Q rest (a.put o.dst (goInt k)) w') : wpList P ops Q (o :: rest) a w := by
  refine wpList_plain hgd fun K hK => ?_
  obtain ⟨w', cur', hrun, h1, h2, h3⟩ := run_copy_sz (P := P) w dT sT o.type elem sz g off dLen dCap sp m sc k ck cur t news hu hz hg hk hsrc hfit
  unfold Oper.wp
  simp [execOp, ho, resolve, invoke, builtin, hd, hs, hrun, Result.andThen]
  exact hK _ _ (h w' cur' h1 h2 h3)
theorem step_copy {P : Program} {ops : Array Oper} {o : Oper} {a : Act} {w : World} {K : Act → World → Prop} {Q : Exit → Act → World → Prop} {E : Prop} (hgd : o.guard = none) (d s : Operand) (dT sT : TypeId)
    (ho : o.op = .call { callee := .builtin .copy, args := #[d, s], argTypes := #[dT, sT] }) (elem : TypeId) (sz g off dLen dCap : Nat) (sp : Option Addr) (m sc k ck : Nat) (cur : Array Value) (t : TypeId) (news : List Value)
    (hd : a.eval d = .slice (some ⟨g, off, none⟩) dLen dCap) (hs : a.eval s = .slice sp m sc)
    (hu : P.underlying dT = some (.slice elem)) (hz : (P.info? elem).map (·.size) = some sz) (hg : Blk w g t cur) (hk : Nat.min m dLen = k) (hsrc : SrcOK w (.slice sp k ck) k sz news) (hfit : off + k * sz ≤ cur.size)
    (h : ∀ w' cur', Chg (· = g) w w' → Blk w' g t cur' → cur'.size = cur.size → K (a.put o.dst (goInt k)) w') :
    if Region.wanted o (yielded ops a.tmps) = true then Oper.wp P o a w K Q else E := by
  have hw : Region.wanted o (yielded ops a.tmps) = true := by simp [Region.wanted, hgd]
  rw [if_pos hw]
  obtain ⟨w', cur', hrun, h1, h2, h3⟩ := run_copy_sz (P := P) w dT sT o.type elem sz g off dLen dCap sp m sc k ck cur t news hu hz hg hk hsrc hfit
  unfold Oper.wp
  simp [execOp, ho, resolve, invoke, builtin, hd, hs, hrun, Result.andThen]
  exact h w' cur' h1 h2 h3
/-- append(s[:0], make([]T, n)...), where there is no room. -/
theorem run_append_zeros_grow {P : Program} (w : World) (t tn ty e : TypeId) (i : TypeInfo) (z : Value) (k kn : IntKind) (ht : P.underlying t = some (.slice e)) (htn : P.underlying tn = some (.int kn)) (hi : P.info? e = some i) (hz : i.zero = some z)
    (ad : Addr) (n c : Nat) (hc : c < n) (hs : 0 < i.size) (h63 : (n : Int) ≤ 9223372036854775807) (h48 : n * i.bytes ≤ 140737488355328) :
    (Builtin.append_ #[t, tn] ty #[.slice (some ad) 0 c, .int k n]).run P w =
      .ok (.slice (some ⟨w.heap.size, 0, none⟩) n (grownCap w n c e)) (w.drew.alloc (.cells (Builtin.zeroCells z.cells n ++ Builtin.zeroCells z.cells (grownCap w n c e - n)) e)) := by
  have hn : n ≠ 0 := by omega
  have hw : IntKind.i64.wrap (n : Int) = n := by rw [IntKind.wrap_i64]; omega
  have h63' : ¬ (9223372036854775807 < (n : Int)) := by omega
  have h48' : ¬ (281474976710656 < Builtin.nextslicecap n c * i.bytes) := by have := growslice_fits hc h48; omega
  have h48i : ¬ (281474976710656 < (n : Int) * (i.bytes : Int)) := by
    rw [← Int.natCast_mul]
    omega
  have hneg : ¬ ((n : Int) < 0) := by omega
  have hns : ¬ (n * i.size = 0) := Nat.mul_ne_zero hn (by omega)
  have hnc : ¬ (n ≤ c) := by omega
  have hload := run_loadCells_list (P := P) w.drew ad [] (fun j v hj => by cases hj)
  simp at hload
  simp [Builtin.append_, run_underlying ht, run_underlying htn, sizeOf, typeInfo, zeroValue, hi, hz, asInt, asIntOf, hw, hneg, hns, h63', h48', h48i, hnc, Question.forced, Builtin.firstCells, hload, newRow, grownCap]
theorem Try.infoPart : (Try.prog.info? 52).map (fun i => (i.zero, i.size, i.bytes)) = some (some (.agg #[.int .i64 0, .string ⟨#[]⟩, .string ⟨#[]⟩, .slice none 0 0, .slice none 0 0]), 5, 88) := by kernel_rfl
set_option maxRecDepth 100000 in
theorem clone_any {w : World} {ad : Addr} {n c : Nat} {xs : List Value} (hs : ∀ y, Below w.heap.size w y → SrcOK y (.slice (some ad) n c) n 5 xs) (hn : n ≤ 1048576) :
    Calls Try.prog 56 #[.slice (some ad) n c] w fun e w' => ∃ o, e = .returned o ∧ OutAt 52 5 w n xs o w' := by
  have HS := Lib.hid hs
  have hEl := ElPart
  have hm : Hid (∀ y : World, y = w.alloc (.cells #[] 52) → y.ownsRow w.heap.size 52 5 (.slice (some ⟨w.heap.size, 0, none⟩) 0 0) 0 []) := Lib.hid (fun y hy => by rw [hy]; exact own_made (W := w) rfl (Nat.le_refl _) (by decide) rfl)
  have hnil : ∀ (y : World) (ad : Addr) (n c : Nat), (binOp BinOp.eql 39 (.slice (some ad) n c) (.slice none 0 0)).run Try.prog y = .ok (.bool false) y := fun _ _ _ _ => by kernel_rfl
  clear hs
  go_enter Try.func56, Try.ntmps56
  go_wp2_with (at_builtin; refine wpList_app ElPart (.tmp 5) (.tmp 6) rfl rfl (base := w.heap.size) (n := 0) (m := n) (N := n) (xs := []) (news := xs) rfl rfl (hm.out _ rfl) (HS.out _ (below_alloc w _)) (by omega) (by unfold maxLen; omega) (by omega) (by simp) ?_
               intro A2 c2 w2 r1 r2 r3
               have HF : Hid (OutAt 52 5 w n xs (.slice A2 n c2) w2) := Lib.hid ⟨A2, c2, rfl, by simpa using r1, (below_alloc w _).trans (r2.below (by simp))⟩
               clear r1 r2 r3)
  go_ret
  exact ⟨_, rfl, HF.out⟩
end Go.Proofs.Ytpjcmhlgdgadjaa

namespace Go.Proofs.Ytpjcmhlgdgadjaa
open Go.RowKit
set_option linter.unusedVariables false
def InsEnd (B : Nat) (w : World) (e : Ending) (w' : World) : Prop := (∃ A N C, e = .returned (.slice A N C)) ∧ Below B w w'
theorem own_cap {w : World} {base : Nat} {e : TypeId} {size n g c : Nat} {xs : List Value} (h : w.ownsRow base e size (.slice (some ⟨g, 0, none⟩) n c) n xs) : n ≤ c ∧ c ≤ maxLen := by
  rcases own_form h with ⟨e, _⟩ | ⟨b, c', e, _, _, h3, h4, _⟩
  · cases e
  · cases e; exact ⟨h3, h4⟩
theorem own_cur {w : World} {base : Nat} {e : TypeId} {size n g c : Nat} {xs : List Value} (h : w.ownsRow base e size (.slice (some ⟨g, 0, none⟩) n c) n xs) : ∃ cur, Blk w g e cur ∧ cur.size = c * size := by
  rcases h.2 with ⟨hh, _⟩ | ⟨g', cap, cur, hh, h1, h2, h3, h4, h5, h6⟩
  · cases hh
  · cases hh
    exact ⟨cur, h2, h5⟩
set_option maxRecDepth 100000 in
theorem insert0_any {w : World} {B vb c : Nat} {A : Option Addr} {u : Tr} {xs : List Value} (ho : w.ownsRow B 52 5 (.slice A 0 c) 0 xs) (hB : B ≤ w.heap.size) (hv : SrcOK w (.slice (some ⟨vb, 0, none⟩) 1 1) 1 5 u.cs) :
    Calls Try.prog 57 #[.slice A 0 c, .int .i64 0, .slice (some ⟨vb, 0, none⟩) 1 1] w (InsEnd B w) := by
  have HO := Lib.hid ho
  have HV := Lib.hid hv
  have hEl := ElPart
  rcases own_form ho with ⟨he, -⟩ | ⟨g, c', he, h1, h2, h3, h4, -⟩
  · cases he
    clear ho hv
    go_enter Try.func57, Try.ntmps57
    go_wp2_with (at_builtin; refine wpList_app ElPart (.tmp 23) (.tmp 24) rfl rfl (base := B) (n := 0) (m := 1) (N := 1) (xs := xs) (news := u.cs) rfl rfl HO.out HV.out rfl (by unfold maxLen; omega) (by omega) hB ?_
                 intro A2 c2 w2 r1 r2 r3
                 have HF : Hid (Below B w w2) := Lib.hid (r2.below hB)
                 clear r1 r2 r3)
    go_ret
    exact ⟨⟨_, _, _, rfl⟩, HF.out⟩
  · cases he
    clear ho hv
    go_enter Try.func57, Try.ntmps57
    go_wp2_with (at_builtin; refine wpList_app ElPart (.tmp 23) (.tmp 24) rfl rfl (base := B) (n := 0) (m := 1) (N := 1) (xs := xs) (news := u.cs) rfl rfl HO.out HV.out rfl (by unfold maxLen; omega) (by omega) hB ?_
                 intro A2 c2 w2 r1 r2 r3
                 have HF : Hid (Below B w w2) := Lib.hid (r2.below hB)
                 clear r1 r2 r3)
    all_goals go_ret
    all_goals exact ⟨⟨_, _, _, rfl⟩, HF.out⟩
theorem part_und : Try.prog.underlying 39 = some (.slice 52) := Try.underlying39
theorem part_size : (Try.prog.info? 52).map (·.size) = some 5 := by
  have := Try.infoPart
  cases h : Try.prog.info? 52 with
  | none => rw [h] at this; cases this
  | some i => rw [h] at this; simp at this ⊢; exact this.2.1
set_option maxRecDepth 100000 in
set_option maxHeartbeats 1600000 in
theorem insert1_any {w : World} {B vb g n c : Nat} {u : Tr} {xs : List Value} {vcs : Array Value} (ho : w.ownsRow B 52 5 (.slice (some ⟨g, 0, none⟩) n c) n xs) (h1 : ∀ x ∈ xs, x.oneCell' = true) (hB : B ≤ w.heap.size) (hv : SrcOK w (.slice (some ⟨vb, 0, none⟩) 1 1) 1 5 u.cs) (hvb : Blk w vb 52 vcs) (hne : vb ≠ g) (hBv : B ≤ vb)
    (hn0 : 0 < n) (hn : n ≤ 1048576) (hroom : n + 1 ≤ c) :
    Calls Try.prog 57 #[.slice (some ⟨g, 0, none⟩) n c, .int .i64 0, .slice (some ⟨vb, 0, none⟩) 1 1] w (InsEnd B w) := by
  have hcm := own_cap ho
  obtain ⟨cur, hg, hcz⟩ := own_cur ho
  have hov : ∀ lb cb, (callFunc 68 #[.slice (some ⟨vb, 0, none⟩) 1 1, .slice (some ⟨g, 5, none⟩) lb cb]).run Try.prog w = .ok (.value (.bool false)) w := fun lb cb => by
    rw [run_callFunc_extern Try.func68 (by kernel_rfl) (by kernel_rfl) (by kernel_rfl) (e := Extern.SlicesOverlaps.overlaps #[39, 39] #[4]) (by kernel_rfl),
      Lib.run_overlaps_apart w 39 4 52 part_und 5 (fun _ => by kernel_rfl) ⟨vb, 0, none⟩ ⟨g, 5, none⟩ 1 1 lb cb hne 52 52 vcs.size cur.size ?_ ?_ (by rw [hcz]; omega) (hvb.frozen 0) (hvb.frozen vcs.size)]
    · rfl
    · simp [World.shape?, show w.heap[vb]? = some (.cells vcs 52 (0, 0)) from hvb]
    · simp [World.shape?, show w.heap[g]? = some (.cells cur 52 (0, 0)) from hg]
  have hsrc1 := SrcOK.own ho h1
  have HG := Lib.hid hg
  have HVB := Lib.hid hvb
  have HSRC := Lib.hid hsrc1
  have HV := Lib.hid hv
  have hge : B ≤ g := by
    rcases own_form ho with ⟨e, _⟩ | ⟨b, c', e, h, _⟩
    · cases e
    · cases e; exact h
  have hn2 : ¬ ((0 : Int) = (n : Int)) := by omega
  have hn3 : ((n : Int) == 0) = false := by simp; omega
  have hn4 : ((0 : Int) == (n : Int)) = false := by simp; omega
  have hw1 : IntKind.i64.wrap ((n : Int) + 1) = (n : Int) + 1 := by rw [IntKind.wrap_i64]; omega
  have hw2 : IntKind.i64.wrap (1 : Int) = 1 := by decide
  have hw3 : (1 : Int) ≤ (n : Int) + 1 := by omega
  have hw4 : (0 : Int) ≤ (n : Int) + 1 := by omega
  have hw5 : (0 : Int) ≤ 1 := by decide
  have hc5 : ¬ (c = 1) := by omega
  have hc6 : ¬ (c = 0) := by omega
  have hEl := ElPart
  obtain ⟨hc1, hc2⟩ := hcm
  unfold maxLen at hc2
  clear ho hg hsrc1 hv hvb h1
  go_enter Try.func57, Try.ntmps57
  go_wp2_with (simp only [hov])
  go_region_law (first
    | (refine step_copy ?_ (.tmp 73) (.tmp 76) 39 39 ?_ 52 5 g 5 n (c - 1) (some ⟨g, 0, none⟩) (n + 1) c n c cur 52 xs ?_ ?_ part_und part_size ?_ ?_ ?_ ?_ ?_
       · rfl
       · rfl
       · simp [Act.eval, Act.put]
       · simp [Act.eval, Act.put]
       · exact HG.out
       · simp only [Nat.min_def]; split <;> omega
       · exact HSRC.out
       · rw [hcz]; omega
       intro w2 cur2 k1 k2 k3
       have HK := Lib.hid (show Chg (· = g) w w2 from ((Chg.refl _ w).drew).next k1)
       have HG2 := Lib.hid k2
       have HV2 := Lib.hid (HV.out.keep (w' := w2) (fun a ha => k1.block a (by
         have : a = vb := by cases ha; rfl
         subst this
         exact HVB.out.lt) (by
         have : a = vb := by cases ha; rfl
         subst this
         exact hne)))
       have hz2 := k3
       clear k1 k2 k3))
  all_goals
    go_wp2_with (refine wpList_copy rfl (.tmp 80) (.tmp 81) 39 39 rfl 52 5 g 0 (n + 1) c (some ⟨vb, 0, none⟩) 1 1 1 1 cur2 52 u.cs (by simp [Act.eval]) (by simp [Act.eval]) part_und part_size HG2.out (by simp only [Nat.min_def]; split <;> omega) HV2.out (by omega) ?_
                 intro w3 cur3 k1 k2 k3
                 have HK3 := Lib.hid (HK.out.next k1)
                 clear k1 k2 k3)
    go_ret
    exact ⟨⟨_, _, _, rfl⟩, HK3.out.below hB (fun k hk h => by omega)⟩
set_option maxRecDepth 100000 in
set_option maxHeartbeats 1600000 in
theorem insert2_any {w : World} {B vb g n c : Nat} {u : Tr} {xs : List Value} {vcs : Array Value} (ho : w.ownsRow B 52 5 (.slice (some ⟨g, 0, none⟩) n c) n xs) (h1 : ∀ x ∈ xs, x.oneCell' = true) (hB : B ≤ w.heap.size) (hv : SrcOK w (.slice (some ⟨vb, 0, none⟩) 1 1) 1 5 u.cs) (hvb : Blk w vb 52 vcs)
    (hn0 : 0 < n) (hn : n ≤ 1048576) (hroom : c < n + 1) :
    Calls Try.prog 57 #[.slice (some ⟨g, 0, none⟩) n c, .int .i64 0, .slice (some ⟨vb, 0, none⟩) 1 1] w (InsEnd B w) := by
  obtain ⟨hc1, hc2⟩ := own_cap ho
  have hsrc1 := SrcOK.own ho h1
  have hgl : g < w.heap.size := (own_lt ho rfl).2
  obtain ⟨i, hi, hz0, hz1, hz2⟩ := info_parts Try.infoPart
  have hr : (Builtin.append_ #[39, 3] 39 #[.slice (some ⟨g, 0, none⟩) 0 c, .int .i64 ((n : Int) + 1)]).run Try.prog w = _ := run_append_zeros_grow (P := Try.prog) w 39 3 39 52 i (.agg #[.int .i64 0, .string ⟨#[]⟩, .string ⟨#[]⟩, .slice none 0 0, .slice none 0 0]) .i64 .i64 Try.underlying39 Try.underlying3 hi hz0 ⟨g, 0, none⟩ (n + 1) c hroom (by omega) (by omega) (by rw [hz2]; omega)
  have hge := grownCap_ge w (n + 1) c 52
  have hcm : grownCap w (n + 1) c 52 ≤ maxLen := grownCap_le_maxLen w (n + 1) c 52 (by unfold maxLen; omega)
  generalize grownCap w (n + 1) c 52 = cap at *
  have hc0 : (Builtin.zeroCells (Value.agg #[.int .i64 0, .string ⟨#[]⟩, .string ⟨#[]⟩, .slice none 0 0, .slice none 0 0]).cells (n + 1) ++ Builtin.zeroCells (Value.agg #[.int .i64 0, .string ⟨#[]⟩, .string ⟨#[]⟩, .slice none 0 0, .slice none 0 0]).cells (cap - (n + 1))).size = cap * 5 := by
    simp [Builtin.zeroCells, Value.cells]; omega
  generalize Builtin.zeroCells (Value.agg #[.int .i64 0, .string ⟨#[]⟩, .string ⟨#[]⟩, .slice none 0 0, .slice none 0 0]).cells (n + 1) ++ Builtin.zeroCells (Value.agg #[.int .i64 0, .string ⟨#[]⟩, .string ⟨#[]⟩, .slice none 0 0, .slice none 0 0]).cells (cap - (n + 1)) = cs at *
  obtain ⟨W, hW⟩ : ∃ W, w.drew.alloc (.cells cs 52) = W := ⟨_, rfl⟩
  rw [hW] at hr
  have hgW : Blk W w.heap.size 52 cs := by rw [← hW]; exact Blk.new w.drew 52 cs
  have hbW : Below w.heap.size w W := by rw [← hW]; exact below_drew (below_alloc w _)
  have hvW := hv.keep (w' := W) (fun a ha => hbW.block a (by
    have : a = vb := by cases ha; rfl
    subst this
    exact hvb.lt))
  have hsW := hsrc1.keep (w' := W) (fun a ha => hbW.block a (by
    have : a = g := by cases ha; rfl
    subst this
    exact hgl))
  have HR := Lib.hid hr
  have HGW := Lib.hid hgW
  have HBW := Lib.hid hbW
  have HVW := Lib.hid hvW
  have HSW := Lib.hid hsW
  have hn2 : ¬ ((0 : Int) = (n : Int)) := by omega
  have hn3 : ((n : Int) == 0) = false := by simp; omega
  have hn4 : ((0 : Int) == (n : Int)) = false := by simp; omega
  have hw1 : IntKind.i64.wrap ((n : Int) + 1) = (n : Int) + 1 := by rw [IntKind.wrap_i64]; omega
  have hw2 : IntKind.i64.wrap (1 : Int) = 1 := by decide
  have hw3 : (1 : Int) ≤ (n : Int) + 1 := by omega
  have hw4 : (0 : Int) ≤ (n : Int) + 1 := by omega
  have hw5 : (0 : Int) ≤ 1 := by decide
  have hc5 : ¬ (cap = 1) := by omega
  have hc6 : ¬ (cap = 0) := by omega
  have hc7 : ¬ (c = 0) := by omega
  have hEl := ElPart
  have hgz : w.heap.size ≠ g := by omega
  unfold maxLen at hc2 hcm
  clear ho hv hvb h1 hsrc1 hr hgW hbW hvW hsW hW hi hz0 hz1 hz2
  go_enter Try.func57, Try.ntmps57
  go_wp2_with (first
    | (at_builtin; refine Lib.wpList_append_run _ rfl _ _ _ _ rfl _ _ (by simp [Act.eval]) (by simp [Act.eval]) _ _ HR.out ?_)
    | (refine wpList_copy rfl (.tmp 43) (.tmp 44) 39 39 rfl 52 5 w.heap.size 0 (n + 1) cap (some ⟨vb, 0, none⟩) 1 1 1 1 cs 52 u.cs (by simp [Act.eval]) (by simp [Act.eval]) part_und part_size HGW.out (by simp only [Nat.min_def]; split <;> omega) HVW.out (by omega) ?_
       intro w3 cur3 k1 k2 k3
       have HK3 := Lib.hid k1
       have HG3 := Lib.hid k2
       have hz3 := k3
       have HS3 := Lib.hid (HSW.out.keep (w' := w3) (fun a ha => k1.block a (by
         have h2 := HBW.out.size
         have : a = g := by cases ha; rfl
         omega) (by
         have : a = g := by cases ha; rfl
         omega)))
       clear k1 k2 k3))
  go_region_law (first
    | (refine step_copy ?_ (.tmp 50) (.tmp 53) 39 39 ?_ 52 5 w.heap.size 5 n (cap - 1) (some ⟨g, 0, none⟩) n c n c cur3 52 xs ?_ ?_ part_und part_size ?_ ?_ ?_ ?_ ?_
       · rfl
       · rfl
       · simp [Act.eval, Act.put]
       · simp [Act.eval, Act.put]
       · exact HG3.out
       · simp only [Nat.min_def]; split <;> omega
       · exact HS3.out
       · omega
       intro w4 cur4 k1 k2 k3
       have HK4 := Lib.hid (show Chg (· = w.heap.size) w3 w4 from ((Chg.refl _ w3).drew).next k1)
       clear k1 k2 k3))
  all_goals
    go_wp2
    go_ret
    exact ⟨⟨_, _, _, rfl⟩, (HBW.out.mono hB).trans ((HK3.out.next HK4.out).below (Nat.le_trans hB HBW.out.size) (fun k hk h => by omega))⟩
/-- One part more ahead of parts. -/
theorem insert_any {w : World} {B vb n c : Nat} {A : Option Addr} {u : Tr} {xs : List Value} {vcs : Array Value} (ho : w.ownsRow B 52 5 (.slice A n c) n xs) (h1 : ∀ x ∈ xs, x.oneCell' = true) (hB : B ≤ w.heap.size) (hv : SrcOK w (.slice (some ⟨vb, 0, none⟩) 1 1) 1 5 u.cs) (hvb : Blk w vb 52 vcs)
    (hne : ∀ g, A = some ⟨g, 0, none⟩ → vb ≠ g) (hBv : B ≤ vb) (hn : n ≤ 1048576) : Calls Try.prog 57 #[.slice A n c, .int .i64 0, .slice (some ⟨vb, 0, none⟩) 1 1] w (InsEnd B w) := by
  cases n with
  | zero => exact insert0_any ho hB hv
  | succ n =>
    obtain ⟨g, rfl, h2, h3⟩ := own_some ho
    by_cases hc : n + 1 + 1 ≤ c
    · exact insert1_any ho h1 hB hv hvb (hne g rfl) hBv (by omega) hn hc
    · exact insert2_any ho h1 hB hv hvb (by omega) hn (by omega)
end Go.Proofs.Ytpjcmhlgdgadjaa
