/- WordmCmds, the ways on which nothing waits. -/
import Derived.Test.YtpadnckmheippaaS27
import Derived.Test.YtpadnckmheippaaP6
namespace Go.Proofs.Ytpadnckmheippaa
open Go.RowKit
set_option linter.unusedVariables false
theorem str2 (s : ByteArray) (r : List UInt8) : (s ++ ⟨r.toArray⟩ : ByteArray).data.toList = s.data.toList ++ r := by simp
theorem size2 (s : ByteArray) (r : List UInt8) : (s ++ ⟨r.toArray⟩ : ByteArray).size = s.size + r.length := by rw [ByteArray.size_append]; rfl
/-- What the law says. -/
def LawEnd (w : World) : Ending → World → Prop := fun e w' => e = .returned (.bool true) ∧ Below w.heap.size w w'
/-- Fed, with a few bytes behind. -/
theorem fed_with (s : ByteArray) (r : List UInt8) (hs : s.size ≤ 1000) (hr : r.length ≤ 60000) (w : World) : Calls Try.prog 13 #[.string (s ++ ⟨r.toArray⟩)] w (FedEnd w ⟨w.heap.size, []⟩ (s.data.toList ++ r)) := by
  have h := fed_any (s ++ ⟨r.toArray⟩) (by rw [size2]; omega) w ⟨w.heap.size, []⟩ (Nat.le_refl _) (fun b hb => by cases hb)
  rw [str2] at h
  exact h
theorem fed_went (s : ByteArray) (r : List UInt8) (hs : s.size ≤ 1000) (hr : r.length ≤ 60000) (hg : ({} : MS).goes (s.data.toList ++ r)) (w : World) : Calls Try.prog 13 #[.string (s ++ ⟨r.toArray⟩)] w fun e w' =>
    e = .returned (.tuple #[.pointer (some ⟨w.heap.size + 1, 0, none⟩), .int .i64 ((s.size : Int) + (r.length : Int)), .int .i64 0]) ∧ Made w ⟨w.heap.size, []⟩ (w.heap.size + 1) (({} : MS).run (s.data.toList ++ r)) w' := by
  have h := fed_with s r hs hr w
  unfold FedEnd at h
  rw [fed_all _ _ hg, List.length_append, show s.data.toList.length = s.size by simp] at h
  simpa using h
theorem cmds_good (s : ByteArray) (hs : s.size ≤ 300) (hg : ({} : MS).goes (s.data.toList ++ [36, 40])) {m : MS} (hm : ({} : MS).run (s.data.toList ++ [36, 40]) = m) : Good 4000 m ∧ m.kind ≤ 14 := by
  subst hm
  exact ⟨(Good.run Good.new _).mono (by simp; omega), goes_live Good.new.ok (by decide) _ hg⟩
section
variable (s t : ByteArray) (n : Int) (w : World)
set_option maxRecDepth 100000 in
set_option maxHeartbeats 3200000 in
theorem cmds_far (hs : s.size ≤ 9223372036854775807) (ht : t.size ≤ 9223372036854775807) (h : 300 < s.size ∨ 300 < t.size) : Calls Try.prog 6 #[.string s, .string t, .int .u8 n] w (LawEnd w) := by
  by_cases h1 : 300 < s.size
  · clear h
    go_enter Try.func6, Try.ntmps6
    go_wp2_with (go_at_call 11; refine (awake_any _).mono ?_; rintro e w3 ⟨rfl, hb⟩; have HB3 := Lib.hid hb; clear hb)
    go_ret
    exact ⟨rfl, HB3.out⟩
  · have h2 : 300 < t.size := by omega
    clear h
    go_enter Try.func6, Try.ntmps6
    go_wp2_with (go_at_call 11; refine (awake_any _).mono ?_; rintro e w3 ⟨rfl, hb⟩; have HB3 := Lib.hid hb; clear hb)
    go_ret
    exact ⟨rfl, HB3.out⟩
set_option maxRecDepth 100000 in
set_option maxHeartbeats 3200000 in
theorem cmds_stops (hs : s.size ≤ 300) (ht : t.size ≤ 300) (h : ¬ (({} : MS).fed (s.data.toList ++ [36, 40])).2.2 = 0) : Calls Try.prog 6 #[.string s, .string t, .int .u8 n] w (LawEnd w) := by
  have hne : (((({} : MS).fed (s.data.toList ++ [36, 40])).2.2 : Int) != 0) = true := by simp; omega
  have HF2 := fed_with s [36, 40] (by omega) (by simp) w
  unfold FedEnd at HF2
  have HF3 := Lib.hid HF2
  clear HF2
  generalize ({} : MS).fed (s.data.toList ++ [36, 40]) = r at *
  clear h
  go_enter Try.func6, Try.ntmps6
  go_wp2_with fail
  refine HF3.out.mono ?_
  rintro e w1 ⟨rfl, hm⟩
  have HM := Lib.hid hm.frame
  clear hm
  go_wp2_with (go_at_call 11; refine (awake_any _).mono ?_; rintro e w3 ⟨rfl, hb⟩; have HB3 := Lib.hid hb; clear hb)
  go_ret
  exact ⟨rfl, HM.out.trans (HB3.out.mono HM.out.size)⟩
variable (hs : s.size ≤ 300) (ht : t.size ≤ 300) (hg : ({} : MS).goes (s.data.toList ++ [36, 40])) {m : MS} (hm : ({} : MS).run (s.data.toList ++ [36, 40]) = m)
include hs ht hg hm
set_option maxRecDepth 100000 in
set_option maxHeartbeats 3200000 in
theorem cmds_raw (hr : m.raw = true) : Calls Try.prog 6 #[.string s, .string t, .int .u8 n] w (LawEnd w) := by
  obtain ⟨hgd, hk⟩ := cmds_good s hs hg hm
  have HF2 := fed_went s [36, 40] (by omega) (by simp) hg w
  rw [hm] at HF2
  have HF := Lib.hid HF2
  have HR := Lib.hid hr
  have HK := Lib.hid hk
  clear hgd hk hg hm hr HF2
  go_enter Try.func6, Try.ntmps6
  go_wp2_with fail
  refine HF.out.mono ?_
  rintro e w1 ⟨rfl, hm⟩
  have HM := Lib.hid hm
  clear hm
  go_wp2_with fail
  refine (alive_raw HM.out.alive (Nat.le_trans HK.out (by decide))).mono ?_
  rw [HR.out]
  rintro e w2 ⟨rfl, rfl⟩
  have HB := Lib.hid HM.out.frame
  clear HM
  go_wp2_with (go_at_call 11; refine (awake_any _).mono ?_; rintro e w3 ⟨rfl, hb⟩; have HB3 := Lib.hid hb; clear hb)
  go_ret
  exact ⟨rfl, HB.out.trans (HB3.out.mono HB.out.size)⟩
set_option maxRecDepth 100000 in
set_option maxHeartbeats 3200000 in
theorem cmds_none (hr : m.raw = false) (hrest : m.rest = []) : Calls Try.prog 6 #[.string s, .string t, .int .u8 n] w (LawEnd w) := by
  obtain ⟨hgd, hk⟩ := cmds_good s hs hg hm
  have HF2 := fed_went s [36, 40] (by omega) (by simp) hg w
  rw [hm] at HF2
  have HF := Lib.hid HF2
  have HR := Lib.hid hr
  have HRS := Lib.hid hrest
  have HK := Lib.hid hk
  have HGD := Lib.hid hgd
  clear hgd hk hg hm hr HF2 hrest
  go_enter Try.func6, Try.ntmps6
  go_wp2_with fail
  refine HF.out.mono ?_
  rintro e w1 ⟨rfl, hm⟩
  have HM := Lib.hid hm
  clear hm
  go_wp2_with fail
  refine (alive_raw HM.out.alive (Nat.le_trans HK.out (by decide))).mono ?_
  rw [HR.out]
  rintro e w2 ⟨rfl, rfl⟩
  go_wp2_with fail
  refine (made_rest HM.out HGD.out (by decide) (Nat.le_trans HK.out (by decide))).mono ?_
  rw [HRS.out]
  rintro e w2 ⟨rfl, hm⟩
  have HB := Lib.hid hm.frame
  clear HM hm
  go_wp2_with (go_at_call 11; refine (awake_any _).mono ?_; rintro e w3 ⟨rfl, hb⟩; have HB3 := Lib.hid hb; clear hb)
  go_ret
  exact ⟨rfl, HB.out.trans (HB3.out.mono HB.out.size)⟩
set_option maxRecDepth 100000 in
set_option maxHeartbeats 3200000 in
theorem cmds_other (hr : m.raw = false) {c0 : UInt8} {rs : List UInt8} (hrest : m.rest = c0 :: rs) (hc : c0 ≠ 40) : Calls Try.prog 6 #[.string s, .string t, .int .u8 n] w (LawEnd w) := by
  obtain ⟨hgd, hk⟩ := cmds_good s hs hg hm
  have HF2 := fed_went s [36, 40] (by omega) (by simp) hg w
  rw [hm] at HF2
  have hne : ((((⟨(c0 :: rs).toArray⟩ : ByteArray)[0]'(by show 0 < (c0 :: rs).length; simp)).toNat : Int) != 40) = true := by
    have h1 : c0.toNat ≠ 40 := fun e => hc (UInt8.toNat_inj.1 e)
    have h2 : ((c0.toNat : Int) != 40) = true := by simp; omega
    exact h2
  have HF := Lib.hid HF2
  have HR := Lib.hid hr
  have HRS := Lib.hid hrest
  have HK := Lib.hid hk
  have HGD := Lib.hid hgd
  clear hgd hk hg hm hr HF2 hrest hc
  go_enter Try.func6, Try.ntmps6
  go_wp2_with fail
  refine HF.out.mono ?_
  rintro e w1 ⟨rfl, hm⟩
  have HM := Lib.hid hm
  clear hm
  go_wp2_with fail
  refine (alive_raw HM.out.alive (Nat.le_trans HK.out (by decide))).mono ?_
  rw [HR.out]
  rintro e w2 ⟨rfl, rfl⟩
  go_wp2_with fail
  refine (made_rest HM.out HGD.out (by decide) (Nat.le_trans HK.out (by decide))).mono ?_
  rw [HRS.out]
  rintro e w2 ⟨rfl, hm⟩
  have HM2 := Lib.hid hm
  clear HM hm
  go_wp2_with fail
  refine (made_rest HM2.out HGD.out (by decide) (Nat.le_trans HK.out (by decide))).mono ?_
  rw [HRS.out]
  rintro e w4 ⟨rfl, hm⟩
  have HB := Lib.hid hm.frame
  clear HM2 hm
  go_wp2_with (go_at_call 11; refine (awake_any _).mono ?_; rintro e w3 ⟨rfl, hb⟩; have HB3 := Lib.hid hb; clear hb)
  go_ret
  exact ⟨rfl, HB.out.trans (HB3.out.mono HB.out.size)⟩
end
end Go.Proofs.Ytpadnckmheippaa
