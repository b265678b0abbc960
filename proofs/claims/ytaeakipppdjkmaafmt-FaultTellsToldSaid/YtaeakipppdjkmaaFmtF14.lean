/- conchlaw02.made, walked: another error. -/
import Derived.Test.YtaeakipppdjkmaaFmtF13
namespace Go.Proofs.YtaeakipppdjkmaaFmt
open Go.RowKit Go.Extern.Stop Go.Stop Go.Extern
set_option linter.unusedVariables false
theorem E3.other (w : World) (m : ByteArray) (hm : m.size ≤ 20) : E3 (w.alloc (.cells #[.string m] 64)) (.iface 62 (.pointer (some ⟨w.heap.size, 0, none⟩))) none none 20 :=
  ⟨⟨0, none, .estr w.heap.size m (by simp), rfl⟩, ⟨0, none, .estr w.heap.size m (by simp), rfl⟩, m, .estr w.heap.size m (by simp), hm⟩

set_option maxRecDepth 100000 in
set_option maxHeartbeats 4000000 in
theorem made_other_zero (F : Interp) {w : World} (hF : F.told.answers w.tape) (at_ : Int) (A : Option Addr) (n c : Nat) (hn : n ≤ 30) (hN : NArg w A n) :
    Calls Tryf.prog 14 #[.int .i64 0, .int .i64 at_, .bool true, .slice A n c] w (MadeEnd w none 0 at_ true) := by
  have hb2 : Below w.heap.size w ((w.alloc (.cells #[.int .i64 0, .int .i64 0, .slice none 0 0, .bool false] 37)).alloc (.cells #[.int .i64 0, .int .i64 at_, .slice none 0 0, .bool true] 37)) := ((Below.refl _ w).alloc (Nat.le_refl _) _).alloc (by simp) _
  have hb0 := hb2.alloc (by simp; omega) (.cells #[.string ⟨#[111, 116, 104, 101, 114]⟩] 64)
  have he0 := E3.other ((w.alloc (.cells #[.int .i64 0, .int .i64 0, .slice none 0 0, .bool false] 37)).alloc (.cells #[.int .i64 0, .int .i64 at_, .slice none 0 0, .bool true] 37)) ⟨#[111, 116, 104, 101, 114]⟩ (by decide)
  have hz2 : ((w.alloc (.cells #[.int .i64 0, .int .i64 0, .slice none 0 0, .bool false] 37)).alloc (.cells #[.int .i64 0, .int .i64 at_, .slice none 0 0, .bool true] 37)).heap.size = w.heap.size + 1 + 1 := by simp
  rw [hz2] at he0
  have HE0 := Lib.hid he0
  have HRB := Lib.hid (((Blk.new w 37 #[.int .i64 0, .int .i64 0, .slice none 0 0, .bool false]).alloc (.cells #[.int .i64 0, .int .i64 at_, .slice none 0 0, .bool true] 37)).alloc (.cells #[.string ⟨#[111, 116, 104, 101, 114]⟩] 64))
  have hfb := (Blk.new (w.alloc (.cells #[.int .i64 0, .int .i64 0, .slice none 0 0, .bool false] 37)) 37 #[.int .i64 0, .int .i64 at_, .slice none 0 0, .bool true]).alloc (.cells #[.string ⟨#[111, 116, 104, 101, 114]⟩] 64)
  rw [World.size_alloc] at hfb
  have HFB := Lib.hid hfb
  have HB0 := Lib.hid hb0
  have HN := Lib.hid hN
  have HNZ : Hid (∀ e' a, (none : Option (Int × Int)) = some (e', a) → e' ≠ 0) := Lib.hid (by intro e' a h; cases h)
  have HF := Lib.hid hF
  skip
  clear hN hF hfb hb0 hb2 he0 hz2
  go_enter Tryf.func14, Tryf.ntmps14
  go_wp2_with (first
    | (go_at_call 5; refine (new_zero _ _).mono ?_; rintro en w' ⟨rfl, rfl⟩)
    | (go_at_call 20; refine (enew_any _ _).mono ?_; rintro en w' ⟨rfl, rfl⟩))
  go_loopw [11, 12] (fun v i wr => ∃ (j : Nat) (T : TypeId) (b : Nat) (nv : Value), j ≤ n ∧ i = .int .i64 j ∧ v = .iface T (.pointer (some ⟨b, 0, none⟩)) ∧ Hid (∃ ns nm, E3 wr v none nm (20 + j * 140737488351240) ∧ wr.ownsRow (w.heap.size + 2) 9 1 nv ns.length ns ∧ LastOf ns nm ∧ ns.length ≤ j ∧ ∀ u ∈ ns, u.oneCell' = true) ∧
        Hid (Blk wr (w.heap.size + 1) 37 #[.int .i64 0, .int .i64 at_, nv, .bool true]) ∧ Hid (Blk wr w.heap.size 37 #[.int .i64 0, .int .i64 0, .slice none 0 0, .bool false]) ∧ Hid (Below w.heap.size w wr)) (fun _ i _ => 30 - (intOf i).toNat)
  case atStart => exact ⟨0, _, _, _, Nat.zero_le _, rfl, rfl, Lib.hid ⟨[], none, HE0.out, World.ownsRow_nil _ _ _ _, .inl ⟨rfl, rfl⟩, Nat.zero_le _, by simp⟩, HFB, HRB, HB0⟩
  case round =>
    obtain ⟨j, T, b, nv, hj, rfl, rfl, HI, HFB1, HRB1, HB1⟩ := hrel
    generalize hfb : w.heap.size + 1 = fb at *
    have hfb2 : fb < w.heap.size + 2 := by omega
    have hfb3 : w.heap.size < fb := by omega
    have HFBE := Lib.hid hfb
    clear hfb
    have fb0 := HFB1.out.cell 0
    have fb1 := HFB1.out.cell 1
    have fb2 := HFB1.out.cell 2
    have fb3 := HFB1.out.cell 3
    have ff2 := HFB1.out.frozen 2
    simp at fb0 fb1 fb2 fb3
    by_cases hlt : (j : Int) < n
    · obtain ⟨nb, off, s, rfl, hs, hsz⟩ := HN.out j (by omega)
      have hnb : nb < w.heap.size := World.block_lt_of_cell? w _ hs
      have hs1 := (HB1.out.cell (p := ⟨nb, off + j, none⟩) hnb).trans hs
      cases hsp : (s.toList == [32]) with
      | true =>
        have hB2 := below_alloc wr (.cells #[.iface T (.pointer (some ⟨b, 0, none⟩))] 20)
        have HB2 := Lib.hid hB2
        obtain ⟨ns, nm, he3, hown, hlast, hnl, hone⟩ := HI.out
        have HOWN := Lib.hid hown
        have HREST := Lib.hid (And.intro hlast (And.intro hnl hone))
        have hF2 : F.told.answers (wr.alloc (.cells #[.iface T (.pointer (some ⟨b, 0, none⟩))] 20)).tape := by rw [hB2.tape, HB1.out.tape]; exact HF.out
        have HW2 := Lib.hid (wrap_any F (fb := ⟨#[109, 111, 114, 101, 58, 32, 37, 119]⟩) rfl parseM (by decide) fmt1 fmt1r (he3.later hB2) (by omega) hF2 wr.heap.size (by simp))
        clear hB2 he3 hown hlast hnl hone hF2
        go_wp2_with (first
          | (go_at_call 8; refine (HW2.out).mono ?_; intro en w1 hx; obtain ⟨rfl, hb, h5, hz⟩ := hx; rw [World.size_alloc] at h5; have HB3 := Lib.hid (HB2.out.trans (hb.mono HB2.out.size)); have H5 := Lib.hid h5; clear hb h5))
        go_roundw
        case rel => exact ⟨j + 1, _, _, _, by omega, by go_num, rfl, Lib.hid ⟨ns, nm, H5.out.more (by omega), (Keeps.of_below (B := 0) (T := []) HB3.out).own HOWN.out (.inr (by simp)), HREST.out.1, by have := HREST.out.2.1; omega, HREST.out.2.2⟩, Lib.hid (HFBE.out ▸ HFB1.out.below HB3.out HFB1.out.lt), Lib.hid (HRB1.out.below HB3.out HRB1.out.lt), Lib.hid (HB1.out.trans (HB3.out.mono HB1.out.size))⟩
        case measure => simp [intOf]; omega
      | false =>
        have hB2 := below_alloc wr (.cells #[.string s, .iface T (.pointer (some ⟨b, 0, none⟩))] 50)
        have HB2 := Lib.hid hB2
        obtain ⟨ns, nm, he3, hown, hlast, hnl, hone⟩ := HI.out
        have HSRC := Lib.hid (SrcOK.own hown hone)
        have HOWN := Lib.hid hown
        have HREST := Lib.hid (And.intro hlast (And.intro hnl hone))
        have HE3 := Lib.hid (he3.in s hsz (by omega))
        clear he3 hown hlast hone
        have fc2 := (HFB1.out.alloc (.cells #[.string s, .iface T (.pointer (some ⟨b, 0, none⟩))] 50)).cell 2
        have fc3 := (HFB1.out.alloc (.cells #[.string s, .iface T (.pointer (some ⟨b, 0, none⟩))] 50)).frozen 2
        have hs2 := (hB2.cell (p := ⟨nb, off + j, none⟩) (by have := HB1.out.size; show nb < _; omega)).trans hs1
        simp at fc2
        go_wp2_with (first
          | (go_at_call 6; refine (in_some _ _ _ _).mono ?_; rintro en w2 ⟨rfl, rfl⟩))
        have hz1 : fb < wr.heap.size := HFB1.out.lt
        have hz2 : nb < wr.heap.size := by have := HB1.out.size; omega
        have hz3 : fb < wr.heap.size + 1 := by omega
        have hz4 : fb < wr.heap.size + 1 + 1 := by omega
        have hz5 : fb < wr.heap.size + 1 + 1 + 1 := by omega
        have hz6 : nb < wr.heap.size + 1 := by omega
        have hz7 : nb < wr.heap.size + 1 + 1 := by omega
        have hz8 : nb < wr.heap.size + 1 + 1 + 1 := by omega
        have HK : Hid (∀ y, Keeps (wr.heap.size + 1) [9] (wr.alloc (.cells #[.string s, .iface T (.pointer (some ⟨b, 0, none⟩))] 50)) y → (y.cell? ⟨fb, 2, none⟩ = some nv ∧ y.cell? ⟨nb, off + j, none⟩ = some (.string s)) ∧ y.frozen? ⟨fb, 2, none⟩ = false) := Lib.hid (fun y hy => by
          have h1 := hy.blk (HFB1.out.alloc (.cells #[.string s, .iface T (.pointer (some ⟨b, 0, none⟩))] 50)) (.inl (by omega))
          have h2 := h1.cell 2
          simp at h2
          exact ⟨⟨h2, (World.cell?_of_block (hy.block nb (by simp; omega) (.inl (by omega)))).trans hs2⟩, h1.frozen 2⟩)
        have HSK : Hid (∀ y, Below wr.heap.size wr y → SrcOK y nv ns.length 1 ns) := Lib.hid (fun y hy => HSRC.out.keep fun a ha => hy.block a (HOWN.out.lt a ha).2)
        have K0 : Keeps (wr.heap.size + 1) [9] (wr.alloc (.cells #[.string s, .iface T (.pointer (some ⟨b, 0, none⟩))] 50)) (wr.alloc (.cells #[.string s, .iface T (.pointer (some ⟨b, 0, none⟩))] 50)) := Keeps.refl _ _ _
        have KK0 := Lib.hid K0
        clear K0
        go_region_law (first
            | (refine step_app ElStr (.tmp 46) (.tmp 48) ?_ ?_ (base := wr.heap.size + 1) (n := 0) (m := ns.length) (N := ns.length) (v := .slice (some ⟨wr.heap.size + 1, 0, none⟩) 0 0) (src := nv) (xs := []) (news := ns) ?_ ?_ ?_ ?_ ?_ ?_ ?_ ?_ ?_
               · rfl
               · rfl
               · rfl
               · rfl
               · exact own_made (by simp) (by omega) (by decide) rfl
               · exact HSK.out _ (below_more (below_alloc wr _).drew _)
               · omega
               · unfold maxLen; omega
               · omega
               · first | (simp; done) | (simp; omega)
               intro A1 c1 w3 r1 r2 r3
               have R1 := Lib.hid r1
               have KK3 := Lib.hid ((KK0.out.drew.alloc _).trans r2)
               obtain ⟨⟨k3a, k3b⟩, k3c⟩ := HK.out _ KK3.out
               clear r1 r2 r3)
            | (refine step_app ElStr (.tmp 46) (.tmp 48) ?_ ?_ (base := wr.heap.size + 1) (n := 0) (m := ns.length) (N := ns.length) (v := .slice (some ⟨wr.heap.size + 1, 0, none⟩) 0 0) (src := nv) (xs := []) (news := ns) ?_ ?_ ?_ ?_ ?_ ?_ ?_ ?_ ?_
               · rfl
               · rfl
               · rfl
               · rfl
               · exact (own_made (by simp) (by omega) (by decide) rfl).alloc _
               · exact HSK.out _ (below_more (below_more (below_alloc wr _).drew _) _)
               · omega
               · unfold maxLen; omega
               · omega
               · first | (simp; done) | (simp; omega)
               intro A1 c1 w3 r1 r2 r3
               have R1 := Lib.hid r1
               have KK3 := Lib.hid (((KK0.out.drew.alloc _).alloc _).trans r2)
               obtain ⟨⟨k3a, k3b⟩, k3c⟩ := HK.out _ KK3.out
               have hbk := (blk_at (g := wr.heap.size + 1 + 1) ((wr.alloc (.cells #[.string s, .iface T (.pointer (some ⟨b, 0, none⟩))] 50)).drew.alloc (.cells #[] 9)) 9 #[.string s] (by simp)).grown r3.1 (by simp [Value.ownBlock])
               have HBK := Lib.hid hbk
               clear hbk
               clear r1 r2 r3)
            | (refine step_app ElStr (.tmp 46) (.tmp 48) ?_ ?_ (base := wr.heap.size + 1) (n := 0) (m := ns.length) (N := ns.length) (v := .slice (some ⟨wr.heap.size + 1 + 1, 0, none⟩) 0 0) (src := nv) (xs := []) (news := ns) ?_ ?_ ?_ ?_ ?_ ?_ ?_ ?_ ?_
               · rfl
               · rfl
               · rfl
               · rfl
               · exact own_made (by simp) (by omega) (by decide) rfl
               · exact HSK.out _ (below_more (below_more (below_alloc wr _).drew _) _)
               · omega
               · unfold maxLen; omega
               · omega
               · first | (simp; done) | (simp; omega)
               intro A1 c1 w3 r1 r2 r3
               have R1 := Lib.hid r1
               have KK3 := Lib.hid (((KK0.out.drew.alloc _).alloc _).trans r2)
               obtain ⟨⟨k3a, k3b⟩, k3c⟩ := HK.out _ KK3.out
               have hbk := ((blk_at (g := wr.heap.size + 1) ((wr.alloc (.cells #[.string s, .iface T (.pointer (some ⟨b, 0, none⟩))] 50)).drew) 9 #[.string s] (by simp)).alloc (.cells #[] 9)).grown r3.1 (by simp [Value.ownBlock])
               have HBK := Lib.hid hbk
               clear hbk
               clear r1 r2 r3)
            | (refine step_app ElStr (.tmp 49) (.tmp 54) ?_ ?_ (base := wr.heap.size + 1) (n := ns.length) (m := 1) (N := ns.length + 1) (v := .slice A1 ns.length c1) (src := .slice (some ⟨w3.heap.size, 0, none⟩) 1 1) (xs := [] ++ ns) (news := [.string s]) ?_ ?_ ?_ ?_ ?_ ?_ ?_ ?_ ?_
               · rfl
               · rfl
               · rfl
               · rfl
               · exact R1.out.alloc _
               · exact SrcOK.blk (c := 1) (Blk.new _ _ _) rfl (by simp [Value.oneCell'])
               · rfl
               · unfold maxLen; omega
               · omega
               · have h1 := KK3.out.size; simp at h1; first | omega | (simp; omega)
               intro A2 c2 w4 q1 q2 q3
               rw [List.nil_append] at q1
               have Q1 := Lib.hid q1
               have KK4 := Lib.hid ((KK3.out.alloc _).trans q2)
               obtain ⟨⟨k4a, k4b⟩, k4c⟩ := HK.out _ KK4.out
               clear q1 q2 q3)
            | (refine step_app ElStr (.tmp 49) (.tmp 54) ?_ ?_ (base := wr.heap.size + 1) (n := ns.length) (m := 1) (N := ns.length + 1) (v := .slice A1 ns.length c1) (src := .slice (some ⟨wr.heap.size + 1 + 1, 0, none⟩) 1 1) (xs := [] ++ ns) (news := [.string s]) ?_ ?_ ?_ ?_ ?_ ?_ ?_ ?_ ?_
               · rfl
               · rfl
               · rfl
               · rfl
               · exact R1.out
               · exact SrcOK.blk (c := 1) HBK.out rfl (by simp [Value.oneCell'])
               · rfl
               · unfold maxLen; omega
               · omega
               · have h1 := KK3.out.size; simp at h1; first | omega | (simp; omega)
               intro A2 c2 w4 q1 q2 q3
               rw [List.nil_append] at q1
               have Q1 := Lib.hid q1
               have KK4 := Lib.hid (KK3.out.trans q2)
               obtain ⟨⟨k4a, k4b⟩, k4c⟩ := HK.out _ KK4.out
               clear q1 q2 q3)
            | (refine step_app ElStr (.tmp 49) (.tmp 54) ?_ ?_ (base := wr.heap.size + 1) (n := ns.length) (m := 1) (N := ns.length + 1) (v := .slice A1 ns.length c1) (src := .slice (some ⟨wr.heap.size + 1, 0, none⟩) 1 1) (xs := [] ++ ns) (news := [.string s]) ?_ ?_ ?_ ?_ ?_ ?_ ?_ ?_ ?_
               · rfl
               · rfl
               · rfl
               · rfl
               · exact R1.out
               · exact SrcOK.blk (c := 1) HBK.out rfl (by simp [Value.oneCell'])
               · rfl
               · unfold maxLen; omega
               · omega
               · have h1 := KK3.out.size; simp at h1; first | omega | (simp; omega)
               intro A2 c2 w4 q1 q2 q3
               rw [List.nil_append] at q1
               have Q1 := Lib.hid q1
               have KK4 := Lib.hid (KK3.out.trans q2)
               obtain ⟨⟨k4a, k4b⟩, k4c⟩ := HK.out _ KK4.out
               clear q1 q2 q3))
        all_goals go_wp2
        all_goals go_roundw
        all_goals first | (simp [intOf]; omega) | skip
        all_goals
          obtain ⟨⟨x1, x2, x3, x4, x5⟩, x6, x7, x8⟩ := made_rel HFBE.out HFB1.out HRB1.out HB1.out HE3.out Q1.out KK4.out HREST.out.2.1 HREST.out.2.2
          exact ⟨j + 1, _, _, _, by omega, by go_num, rfl, Lib.hid ⟨_, _, x1.more (by omega), x2, x3, x4, x5⟩, Lib.hid x6, Lib.hid x7, Lib.hid x8⟩
    · have gb0 := HRB1.out.cell 0
      have gb1 := HRB1.out.cell 1
      have gb2 := HRB1.out.cell 2
      have gb3 := HRB1.out.cell 3
      have gf0 := HRB1.out.frozen 0
      have gf1 := HRB1.out.frozen 1
      have gf2 := HRB1.out.frozen 2
      have gf3 := HRB1.out.frozen 3
      simp at gb0 gb1 gb2 gb3
      obtain ⟨ns, nm, he3, hown, hlast, hnl, hone⟩ := HI.out
      obtain ⟨NA, Nc, hnv⟩ : ∃ NA Nc, nv = .slice NA ns.length Nc := by
        rcases own_form hown with ⟨h1, h2⟩ | ⟨b', c', h1, _⟩
        · exact ⟨none, 0, by rw [h1, h2]⟩
        · exact ⟨_, _, h1⟩
      subst hnv
      have HE3 := Lib.hid he3
      have HOWN := Lib.hid hown
      have HLAST := Lib.hid hlast
      clear he3 hown hlast hone
      go_wp2_with fail
      go_region
      go_wp2
      refine bodyPost_ret (v := .tuple #[.iface T (.pointer (some ⟨b, 0, none⟩)),   .agg #[.int .i64 0, .int .i64 at_, .slice NA ns.length Nc, .bool true]]) (by simp [results, Tryf.results14, go_sem, gb0, gb1, gb2, gb3]) rfl ⟨T, b, .slice NA ns.length Nc, ns, nm, rfl, by omega, ?_⟩
      exact made_end HNZ.out HE3.out (by omega) HOWN.out HLAST.out HRB1.out HB1.out

set_option maxRecDepth 100000 in
set_option maxHeartbeats 4000000 in
theorem made_other_some (F : Interp) {w : World} (hF : F.told.answers w.tape) (e : Int) (he : (e == 0) = false) (at_ : Int) (A : Option Addr) (n c : Nat) (hn : n ≤ 30) (hN : NArg w A n) :
    Calls Tryf.prog 14 #[.int .i64 e, .int .i64 at_, .bool true, .slice A n c] w (MadeEnd w none e at_ true) := by
  have hb2 : Below w.heap.size w (((w.alloc (.cells #[.int .i64 0, .int .i64 0, .slice none 0 0, .bool false] 37)).alloc (.cells #[.int .i64 e, .int .i64 at_, .slice none 0 0, .bool true] 37)).alloc (.cells #[.int .i64 e, .int .i64 at_] 47)) := (((Below.refl _ w).alloc (Nat.le_refl _) _).alloc (by simp) _).alloc (by simp; omega) _
  have hb0 := hb2.alloc (by simp; omega) (.cells #[.string ⟨#[111, 116, 104, 101, 114]⟩] 64)
  have he0 := E3.other (((w.alloc (.cells #[.int .i64 0, .int .i64 0, .slice none 0 0, .bool false] 37)).alloc (.cells #[.int .i64 e, .int .i64 at_, .slice none 0 0, .bool true] 37)).alloc (.cells #[.int .i64 e, .int .i64 at_] 47)) ⟨#[111, 116, 104, 101, 114]⟩ (by decide)
  have hz2 : (((w.alloc (.cells #[.int .i64 0, .int .i64 0, .slice none 0 0, .bool false] 37)).alloc (.cells #[.int .i64 e, .int .i64 at_, .slice none 0 0, .bool true] 37)).alloc (.cells #[.int .i64 e, .int .i64 at_] 47)).heap.size = w.heap.size + 1 + 1 + 1 := by simp
  rw [hz2] at he0
  have HE0 := Lib.hid he0
  have HRB := Lib.hid ((((Blk.new w 37 #[.int .i64 0, .int .i64 0, .slice none 0 0, .bool false]).alloc (.cells #[.int .i64 e, .int .i64 at_, .slice none 0 0, .bool true] 37)).alloc (.cells #[.int .i64 e, .int .i64 at_] 47)).alloc (.cells #[.string ⟨#[111, 116, 104, 101, 114]⟩] 64))
  have hfb := ((Blk.new (w.alloc (.cells #[.int .i64 0, .int .i64 0, .slice none 0 0, .bool false] 37)) 37 #[.int .i64 e, .int .i64 at_, .slice none 0 0, .bool true]).alloc (.cells #[.int .i64 e, .int .i64 at_] 47)).alloc (.cells #[.string ⟨#[111, 116, 104, 101, 114]⟩] 64)
  rw [World.size_alloc] at hfb
  have HFB := Lib.hid hfb
  have HB0 := Lib.hid hb0
  have HN := Lib.hid hN
  have HNZ : Hid (∀ e' a, (none : Option (Int × Int)) = some (e', a) → e' ≠ 0) := Lib.hid (by intro e' a h; cases h)
  have HF := Lib.hid hF
  have HE := Lib.hid he
  clear hN hF hfb hb0 hb2 he0 hz2 he
  go_enter Tryf.func14, Tryf.ntmps14
  go_wp2_with (first
    | (go_at_call 5; refine (new_some _ _ _ HE.out).mono ?_; rintro en w' ⟨rfl, rfl⟩)
    | (go_at_call 20; refine (enew_any _ _).mono ?_; rintro en w' ⟨rfl, rfl⟩))
  go_loopw [11, 12] (fun v i wr => ∃ (j : Nat) (T : TypeId) (b : Nat) (nv : Value), j ≤ n ∧ i = .int .i64 j ∧ v = .iface T (.pointer (some ⟨b, 0, none⟩)) ∧ Hid (∃ ns nm, E3 wr v none nm (20 + j * 140737488351240) ∧ wr.ownsRow (w.heap.size + 2) 9 1 nv ns.length ns ∧ LastOf ns nm ∧ ns.length ≤ j ∧ ∀ u ∈ ns, u.oneCell' = true) ∧
        Hid (Blk wr (w.heap.size + 1) 37 #[.int .i64 e, .int .i64 at_, nv, .bool true]) ∧ Hid (Blk wr w.heap.size 37 #[.int .i64 0, .int .i64 0, .slice none 0 0, .bool false]) ∧ Hid (Below w.heap.size w wr)) (fun _ i _ => 30 - (intOf i).toNat)
  case atStart => exact ⟨0, _, _, _, Nat.zero_le _, rfl, rfl, Lib.hid ⟨[], none, HE0.out, World.ownsRow_nil _ _ _ _, .inl ⟨rfl, rfl⟩, Nat.zero_le _, by simp⟩, HFB, HRB, HB0⟩
  case round =>
    obtain ⟨j, T, b, nv, hj, rfl, rfl, HI, HFB1, HRB1, HB1⟩ := hrel
    generalize hfb : w.heap.size + 1 = fb at *
    have hfb2 : fb < w.heap.size + 2 := by omega
    have hfb3 : w.heap.size < fb := by omega
    have HFBE := Lib.hid hfb
    clear hfb
    have fb0 := HFB1.out.cell 0
    have fb1 := HFB1.out.cell 1
    have fb2 := HFB1.out.cell 2
    have fb3 := HFB1.out.cell 3
    have ff2 := HFB1.out.frozen 2
    simp at fb0 fb1 fb2 fb3
    by_cases hlt : (j : Int) < n
    · obtain ⟨nb, off, s, rfl, hs, hsz⟩ := HN.out j (by omega)
      have hnb : nb < w.heap.size := World.block_lt_of_cell? w _ hs
      have hs1 := (HB1.out.cell (p := ⟨nb, off + j, none⟩) hnb).trans hs
      cases hsp : (s.toList == [32]) with
      | true =>
        have hB2 := below_alloc wr (.cells #[.iface T (.pointer (some ⟨b, 0, none⟩))] 20)
        have HB2 := Lib.hid hB2
        obtain ⟨ns, nm, he3, hown, hlast, hnl, hone⟩ := HI.out
        have HOWN := Lib.hid hown
        have HREST := Lib.hid (And.intro hlast (And.intro hnl hone))
        have hF2 : F.told.answers (wr.alloc (.cells #[.iface T (.pointer (some ⟨b, 0, none⟩))] 20)).tape := by rw [hB2.tape, HB1.out.tape]; exact HF.out
        have HW2 := Lib.hid (wrap_any F (fb := ⟨#[109, 111, 114, 101, 58, 32, 37, 119]⟩) rfl parseM (by decide) fmt1 fmt1r (he3.later hB2) (by omega) hF2 wr.heap.size (by simp))
        clear hB2 he3 hown hlast hnl hone hF2
        go_wp2_with (first
          | (go_at_call 8; refine (HW2.out).mono ?_; intro en w1 hx; obtain ⟨rfl, hb, h5, hz⟩ := hx; rw [World.size_alloc] at h5; have HB3 := Lib.hid (HB2.out.trans (hb.mono HB2.out.size)); have H5 := Lib.hid h5; clear hb h5))
        go_roundw
        case rel => exact ⟨j + 1, _, _, _, by omega, by go_num, rfl, Lib.hid ⟨ns, nm, H5.out.more (by omega), (Keeps.of_below (B := 0) (T := []) HB3.out).own HOWN.out (.inr (by simp)), HREST.out.1, by have := HREST.out.2.1; omega, HREST.out.2.2⟩, Lib.hid (HFBE.out ▸ HFB1.out.below HB3.out HFB1.out.lt), Lib.hid (HRB1.out.below HB3.out HRB1.out.lt), Lib.hid (HB1.out.trans (HB3.out.mono HB1.out.size))⟩
        case measure => simp [intOf]; omega
      | false =>
        have hB2 := below_alloc wr (.cells #[.string s, .iface T (.pointer (some ⟨b, 0, none⟩))] 50)
        have HB2 := Lib.hid hB2
        obtain ⟨ns, nm, he3, hown, hlast, hnl, hone⟩ := HI.out
        have HSRC := Lib.hid (SrcOK.own hown hone)
        have HOWN := Lib.hid hown
        have HREST := Lib.hid (And.intro hlast (And.intro hnl hone))
        have HE3 := Lib.hid (he3.in s hsz (by omega))
        clear he3 hown hlast hone
        have fc2 := (HFB1.out.alloc (.cells #[.string s, .iface T (.pointer (some ⟨b, 0, none⟩))] 50)).cell 2
        have fc3 := (HFB1.out.alloc (.cells #[.string s, .iface T (.pointer (some ⟨b, 0, none⟩))] 50)).frozen 2
        have hs2 := (hB2.cell (p := ⟨nb, off + j, none⟩) (by have := HB1.out.size; show nb < _; omega)).trans hs1
        simp at fc2
        go_wp2_with (first
          | (go_at_call 6; refine (in_some _ _ _ _).mono ?_; rintro en w2 ⟨rfl, rfl⟩))
        have hz1 : fb < wr.heap.size := HFB1.out.lt
        have hz2 : nb < wr.heap.size := by have := HB1.out.size; omega
        have hz3 : fb < wr.heap.size + 1 := by omega
        have hz4 : fb < wr.heap.size + 1 + 1 := by omega
        have hz5 : fb < wr.heap.size + 1 + 1 + 1 := by omega
        have hz6 : nb < wr.heap.size + 1 := by omega
        have hz7 : nb < wr.heap.size + 1 + 1 := by omega
        have hz8 : nb < wr.heap.size + 1 + 1 + 1 := by omega
        have HK : Hid (∀ y, Keeps (wr.heap.size + 1) [9] (wr.alloc (.cells #[.string s, .iface T (.pointer (some ⟨b, 0, none⟩))] 50)) y → (y.cell? ⟨fb, 2, none⟩ = some nv ∧ y.cell? ⟨nb, off + j, none⟩ = some (.string s)) ∧ y.frozen? ⟨fb, 2, none⟩ = false) := Lib.hid (fun y hy => by
          have h1 := hy.blk (HFB1.out.alloc (.cells #[.string s, .iface T (.pointer (some ⟨b, 0, none⟩))] 50)) (.inl (by omega))
          have h2 := h1.cell 2
          simp at h2
          exact ⟨⟨h2, (World.cell?_of_block (hy.block nb (by simp; omega) (.inl (by omega)))).trans hs2⟩, h1.frozen 2⟩)
        have HSK : Hid (∀ y, Below wr.heap.size wr y → SrcOK y nv ns.length 1 ns) := Lib.hid (fun y hy => HSRC.out.keep fun a ha => hy.block a (HOWN.out.lt a ha).2)
        have K0 : Keeps (wr.heap.size + 1) [9] (wr.alloc (.cells #[.string s, .iface T (.pointer (some ⟨b, 0, none⟩))] 50)) (wr.alloc (.cells #[.string s, .iface T (.pointer (some ⟨b, 0, none⟩))] 50)) := Keeps.refl _ _ _
        have KK0 := Lib.hid K0
        clear K0
        go_region_law (first
            | (refine step_app ElStr (.tmp 46) (.tmp 48) ?_ ?_ (base := wr.heap.size + 1) (n := 0) (m := ns.length) (N := ns.length) (v := .slice (some ⟨wr.heap.size + 1, 0, none⟩) 0 0) (src := nv) (xs := []) (news := ns) ?_ ?_ ?_ ?_ ?_ ?_ ?_ ?_ ?_
               · rfl
               · rfl
               · rfl
               · rfl
               · exact own_made (by simp) (by omega) (by decide) rfl
               · exact HSK.out _ (below_more (below_alloc wr _).drew _)
               · omega
               · unfold maxLen; omega
               · omega
               · first | (simp; done) | (simp; omega)
               intro A1 c1 w3 r1 r2 r3
               have R1 := Lib.hid r1
               have KK3 := Lib.hid ((KK0.out.drew.alloc _).trans r2)
               obtain ⟨⟨k3a, k3b⟩, k3c⟩ := HK.out _ KK3.out
               clear r1 r2 r3)
            | (refine step_app ElStr (.tmp 46) (.tmp 48) ?_ ?_ (base := wr.heap.size + 1) (n := 0) (m := ns.length) (N := ns.length) (v := .slice (some ⟨wr.heap.size + 1, 0, none⟩) 0 0) (src := nv) (xs := []) (news := ns) ?_ ?_ ?_ ?_ ?_ ?_ ?_ ?_ ?_
               · rfl
               · rfl
               · rfl
               · rfl
               · exact (own_made (by simp) (by omega) (by decide) rfl).alloc _
               · exact HSK.out _ (below_more (below_more (below_alloc wr _).drew _) _)
               · omega
               · unfold maxLen; omega
               · omega
               · first | (simp; done) | (simp; omega)
               intro A1 c1 w3 r1 r2 r3
               have R1 := Lib.hid r1
               have KK3 := Lib.hid (((KK0.out.drew.alloc _).alloc _).trans r2)
               obtain ⟨⟨k3a, k3b⟩, k3c⟩ := HK.out _ KK3.out
               have hbk := (blk_at (g := wr.heap.size + 1 + 1) ((wr.alloc (.cells #[.string s, .iface T (.pointer (some ⟨b, 0, none⟩))] 50)).drew.alloc (.cells #[] 9)) 9 #[.string s] (by simp)).grown r3.1 (by simp [Value.ownBlock])
               have HBK := Lib.hid hbk
               clear hbk
               clear r1 r2 r3)
            | (refine step_app ElStr (.tmp 46) (.tmp 48) ?_ ?_ (base := wr.heap.size + 1) (n := 0) (m := ns.length) (N := ns.length) (v := .slice (some ⟨wr.heap.size + 1 + 1, 0, none⟩) 0 0) (src := nv) (xs := []) (news := ns) ?_ ?_ ?_ ?_ ?_ ?_ ?_ ?_ ?_
               · rfl
               · rfl
               · rfl
               · rfl
               · exact own_made (by simp) (by omega) (by decide) rfl
               · exact HSK.out _ (below_more (below_more (below_alloc wr _).drew _) _)
               · omega
               · unfold maxLen; omega
               · omega
               · first | (simp; done) | (simp; omega)
               intro A1 c1 w3 r1 r2 r3
               have R1 := Lib.hid r1
               have KK3 := Lib.hid (((KK0.out.drew.alloc _).alloc _).trans r2)
               obtain ⟨⟨k3a, k3b⟩, k3c⟩ := HK.out _ KK3.out
               have hbk := ((blk_at (g := wr.heap.size + 1) ((wr.alloc (.cells #[.string s, .iface T (.pointer (some ⟨b, 0, none⟩))] 50)).drew) 9 #[.string s] (by simp)).alloc (.cells #[] 9)).grown r3.1 (by simp [Value.ownBlock])
               have HBK := Lib.hid hbk
               clear hbk
               clear r1 r2 r3)
            | (refine step_app ElStr (.tmp 49) (.tmp 54) ?_ ?_ (base := wr.heap.size + 1) (n := ns.length) (m := 1) (N := ns.length + 1) (v := .slice A1 ns.length c1) (src := .slice (some ⟨w3.heap.size, 0, none⟩) 1 1) (xs := [] ++ ns) (news := [.string s]) ?_ ?_ ?_ ?_ ?_ ?_ ?_ ?_ ?_
               · rfl
               · rfl
               · rfl
               · rfl
               · exact R1.out.alloc _
               · exact SrcOK.blk (c := 1) (Blk.new _ _ _) rfl (by simp [Value.oneCell'])
               · rfl
               · unfold maxLen; omega
               · omega
               · have h1 := KK3.out.size; simp at h1; first | omega | (simp; omega)
               intro A2 c2 w4 q1 q2 q3
               rw [List.nil_append] at q1
               have Q1 := Lib.hid q1
               have KK4 := Lib.hid ((KK3.out.alloc _).trans q2)
               obtain ⟨⟨k4a, k4b⟩, k4c⟩ := HK.out _ KK4.out
               clear q1 q2 q3)
            | (refine step_app ElStr (.tmp 49) (.tmp 54) ?_ ?_ (base := wr.heap.size + 1) (n := ns.length) (m := 1) (N := ns.length + 1) (v := .slice A1 ns.length c1) (src := .slice (some ⟨wr.heap.size + 1 + 1, 0, none⟩) 1 1) (xs := [] ++ ns) (news := [.string s]) ?_ ?_ ?_ ?_ ?_ ?_ ?_ ?_ ?_
               · rfl
               · rfl
               · rfl
               · rfl
               · exact R1.out
               · exact SrcOK.blk (c := 1) HBK.out rfl (by simp [Value.oneCell'])
               · rfl
               · unfold maxLen; omega
               · omega
               · have h1 := KK3.out.size; simp at h1; first | omega | (simp; omega)
               intro A2 c2 w4 q1 q2 q3
               rw [List.nil_append] at q1
               have Q1 := Lib.hid q1
               have KK4 := Lib.hid (KK3.out.trans q2)
               obtain ⟨⟨k4a, k4b⟩, k4c⟩ := HK.out _ KK4.out
               clear q1 q2 q3)
            | (refine step_app ElStr (.tmp 49) (.tmp 54) ?_ ?_ (base := wr.heap.size + 1) (n := ns.length) (m := 1) (N := ns.length + 1) (v := .slice A1 ns.length c1) (src := .slice (some ⟨wr.heap.size + 1, 0, none⟩) 1 1) (xs := [] ++ ns) (news := [.string s]) ?_ ?_ ?_ ?_ ?_ ?_ ?_ ?_ ?_
               · rfl
               · rfl
               · rfl
               · rfl
               · exact R1.out
               · exact SrcOK.blk (c := 1) HBK.out rfl (by simp [Value.oneCell'])
               · rfl
               · unfold maxLen; omega
               · omega
               · have h1 := KK3.out.size; simp at h1; first | omega | (simp; omega)
               intro A2 c2 w4 q1 q2 q3
               rw [List.nil_append] at q1
               have Q1 := Lib.hid q1
               have KK4 := Lib.hid (KK3.out.trans q2)
               obtain ⟨⟨k4a, k4b⟩, k4c⟩ := HK.out _ KK4.out
               clear q1 q2 q3))
        all_goals go_wp2
        all_goals go_roundw
        all_goals first | (simp [intOf]; omega) | skip
        all_goals
          obtain ⟨⟨x1, x2, x3, x4, x5⟩, x6, x7, x8⟩ := made_rel HFBE.out HFB1.out HRB1.out HB1.out HE3.out Q1.out KK4.out HREST.out.2.1 HREST.out.2.2
          exact ⟨j + 1, _, _, _, by omega, by go_num, rfl, Lib.hid ⟨_, _, x1.more (by omega), x2, x3, x4, x5⟩, Lib.hid x6, Lib.hid x7, Lib.hid x8⟩
    · have gb0 := HRB1.out.cell 0
      have gb1 := HRB1.out.cell 1
      have gb2 := HRB1.out.cell 2
      have gb3 := HRB1.out.cell 3
      have gf0 := HRB1.out.frozen 0
      have gf1 := HRB1.out.frozen 1
      have gf2 := HRB1.out.frozen 2
      have gf3 := HRB1.out.frozen 3
      simp at gb0 gb1 gb2 gb3
      obtain ⟨ns, nm, he3, hown, hlast, hnl, hone⟩ := HI.out
      obtain ⟨NA, Nc, hnv⟩ : ∃ NA Nc, nv = .slice NA ns.length Nc := by
        rcases own_form hown with ⟨h1, h2⟩ | ⟨b', c', h1, _⟩
        · exact ⟨none, 0, by rw [h1, h2]⟩
        · exact ⟨_, _, h1⟩
      subst hnv
      have HE3 := Lib.hid he3
      have HOWN := Lib.hid hown
      have HLAST := Lib.hid hlast
      clear he3 hown hlast hone
      go_wp2_with fail
      go_region
      go_wp2
      refine bodyPost_ret (v := .tuple #[.iface T (.pointer (some ⟨b, 0, none⟩)),   .agg #[.int .i64 e, .int .i64 at_, .slice NA ns.length Nc, .bool true]]) (by simp [results, Tryf.results14, go_sem, gb0, gb1, gb2, gb3]) rfl ⟨T, b, .slice NA ns.length Nc, ns, nm, rfl, by omega, ?_⟩
      exact made_end HNZ.out HE3.out (by omega) HOWN.out HLAST.out HRB1.out HB1.out
end Go.Proofs.YtaeakipppdjkmaaFmt
