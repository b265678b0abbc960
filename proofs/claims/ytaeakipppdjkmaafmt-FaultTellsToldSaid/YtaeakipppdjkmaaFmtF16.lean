/- FaultTells, walked. -/
import Derived.Test.YtaeakipppdjkmaaFmtF14
import Derived.Test.YtaeakipppdjkmaaFmtF15
import Derived.Test.YtaeakipppdjkmaaFmtWd
namespace Go.Proofs.YtaeakipppdjkmaaFmt
open Go.RowKit Go.Extern.Stop Go.Stop Go.Extern
set_option linter.unusedVariables false
theorem tells_many {w : World} (hg : HasType w) (e at_ is : Int) (o : Bool) (A : Option Addr) (n c : Nat) (hn : (30 : Int) < n) : Calls Tryf.prog 4 #[.int .i64 e, .int .i64 at_, .bool o, .slice A n c, .int .i64 is] w (RetB w (.bool true)) := by
  have HA := Lib.hid (awake_any hg)
  go_enter Tryf.func4, Tryf.ntmps4
  go_wp2_with (go_at_call 7; refine (HA.out).mono ?_; intro en w1 hx; obtain ⟨rfl, hb⟩ := hx; have HB := Lib.hid hb; clear hb)
  go_ret
  exact ⟨rfl, HB.out⟩
/-- What the answers must be, in every later world: the program's and the document's. -/
structure Same (w1 : World) (v f : Value) (is : Int) : Prop where
  code : ∃ c : Int, ∀ y, Below w1.heap.size w1 y → Calls Tryf.prog 9 #[v] y (RetB y (.int .i64 c)) ∧ Calls Tryf.prog 15 #[f] y (RetB y (.int .i64 c))
  at_ : ∃ c : Int, ∀ y, Below w1.heap.size w1 y → Calls Tryf.prog 10 #[v] y (RetB y (.int .i64 c)) ∧ Calls Tryf.prog 16 #[f] y (RetB y (.int .i64 c))
  name : ∃ s : ByteArray, ∀ y, Below w1.heap.size w1 y → Calls Tryf.prog 11 #[v] y (RetB y (.string s)) ∧ Calls Tryf.prog 17 #[f] y (RetB y (.string s))
  is : ∃ b : Bool, ∀ y, Below w1.heap.size w1 y → Calls Tryf.prog 12 #[v, .int .i64 is] y (RetB y (.bool b)) ∧ Calls Tryf.prog 18 #[f, .int .i64 is] y (RetB y (.bool b))
theorem RetB.of {f : FuncId} {a : Array Value} {w : World} {v : Value} (h : Calls Tryf.prog f a w fun e w' => e = .returned v ∧ w' = w) : Calls Tryf.prog f a w (RetB w v) :=
  h.mono fun e w' ⟨h1, h2⟩ => ⟨h1, h2 ▸ Below.refl _ _⟩
theorem Same.nil (w1 : World) (a is : Int) : Same w1 .nilIface (.agg #[.int .i64 0, .int .i64 a, .slice none 0 0, .bool false]) is where
  code := ⟨0, fun y _ => ⟨code_nil y, rcode_own 0 a none 0 0 y⟩⟩
  at_ := ⟨-1, fun y _ => ⟨at_nil y, rat_zero a none 0 0 y⟩⟩
  name := ⟨⟨#[]⟩, fun y _ => ⟨name_nil y, rname_zero 0 a false none 0 y⟩⟩
  is := ⟨(is == 0), fun y _ => ⟨RetB.of (fis_nil is y), by
    have := ris_own 0 a is none 0 0 y
    rwa [show ((0 : Int) == is) = (is == 0) by rw [Bool.eq_iff_iff]; simp; exact eq_comm] at this⟩⟩
theorem name_both {w : World} {v : Value} {nm : Option ByteArray} (h : Nam w v nm) (hg : HasType w) : Calls Tryf.prog 11 #[v] w (RetB w (.string (nm.getD ⟨#[]⟩))) := by
  cases nm with
  | none => exact name_none h hg
  | some m => exact name_some h hg
theorem own_later {w w' : World} {B : Nat} {e : TypeId} {v : Value} {n : Nat} {xs : List Value} (h : w.ownsRow B e 1 v n xs) (hb : Below w.heap.size w w') : w'.ownsRow B e 1 v n xs :=
  (Keeps.of_below (B := 0) (T := []) hb).own h (.inr (by simp))
theorem Same.other {w1 : World} {v nv : Value} {nm : Option ByteArray} {L B : Nat} {ns : List Value} (h : E3 w1 v none nm L) (hg : HasType w1) (hown : w1.ownsRow B 9 1 nv ns.length ns) (hl : LastOf ns nm) (hn : ns.length ≤ 100) (e a is : Int) :
    Same w1 v (.agg #[.int .i64 e, .int .i64 a, nv, .bool true]) is where
  code := ⟨1, fun y hy => ⟨code_none (h.err.later hy) (hg.later hy), by
    obtain ⟨A, c, rfl⟩ : ∃ A c, nv = .slice A ns.length c := by
      rcases own_form hown with ⟨h1, h2⟩ | ⟨b', c', h1, _⟩
      · exact ⟨none, 0, by rw [h1, h2]⟩
      · exact ⟨_, _, h1⟩
    exact rcode_other e a A _ c y⟩⟩
  at_ := ⟨-1, fun y hy => ⟨at_none (h.err.later hy) (hg.later hy), by
    obtain ⟨A, c, rfl⟩ : ∃ A c, nv = .slice A ns.length c := by
      rcases own_form hown with ⟨h1, h2⟩ | ⟨b', c', h1, _⟩
      · exact ⟨none, 0, by rw [h1, h2]⟩
      · exact ⟨_, _, h1⟩
    exact rat_other e a A _ c y⟩⟩
  name := ⟨nm.getD ⟨#[]⟩, fun y hy => ⟨name_both (h.nam.later hy) (hg.later hy), rname_any (own_later hown hy) hl hn e a true (fun h => by cases h)⟩⟩
  is := ⟨false, fun y hy => ⟨RetB.of (by
    by_cases h0 : is = 0
    · subst h0; exact fis_zero (h.err.later hy)
    · exact fis_more (h.err.later hy) is (by simpa using h0) false rfl), by
    obtain ⟨A, c, rfl⟩ : ∃ A c, nv = .slice A ns.length c := by
      rcases own_form hown with ⟨h1, h2⟩ | ⟨b', c', h1, _⟩
      · exact ⟨none, 0, by rw [h1, h2]⟩
      · exact ⟨_, _, h1⟩
    exact ris_other e a is A _ c y⟩⟩
theorem Same.own {w1 : World} {v nv : Value} {nm : Option ByteArray} {L B : Nat} {ns : List Value} {e a : Int} (he : (e == 0) = false) (h : E3 w1 v (some (e, a)) nm L) (hg : HasType w1) (hown : w1.ownsRow B 9 1 nv ns.length ns) (hl : LastOf ns nm) (hn : ns.length ≤ 100) (is : Int) :
    Same w1 v (.agg #[.int .i64 e, .int .i64 a, nv, .bool false]) is where
  code := ⟨e, fun y hy => ⟨code_some (h.err.later hy) (hg.later hy), by
    obtain ⟨A, c, rfl⟩ : ∃ A c, nv = .slice A ns.length c := by
      rcases own_form hown with ⟨h1, h2⟩ | ⟨b', c', h1, _⟩
      · exact ⟨none, 0, by rw [h1, h2]⟩
      · exact ⟨_, _, h1⟩
    exact rcode_own e a A _ c y⟩⟩
  at_ := ⟨a, fun y hy => ⟨at_some (h.err.later hy) (hg.later hy), by
    obtain ⟨A, c, rfl⟩ : ∃ A c, nv = .slice A ns.length c := by
      rcases own_form hown with ⟨h1, h2⟩ | ⟨b', c', h1, _⟩
      · exact ⟨none, 0, by rw [h1, h2]⟩
      · exact ⟨_, _, h1⟩
    exact rat_own e a he A _ c y⟩⟩
  name := ⟨nm.getD ⟨#[]⟩, fun y hy => ⟨name_both (h.nam.later hy) (hg.later hy), rname_any (own_later hown hy) hl hn e a false (fun _ => he)⟩⟩
  is := ⟨(e == is), fun y hy => ⟨RetB.of (by
    by_cases h0 : is = 0
    · subst h0; rw [he]; exact fis_zero (h.err.later hy)
    · exact fis_more (h.err.later hy) is (by simpa using h0) (e == is) (by show (e == is) = (is == e); rw [Bool.eq_iff_iff]; simp; exact eq_comm)), by
    obtain ⟨A, c, rfl⟩ : ∃ A c, nv = .slice A ns.length c := by
      rcases own_form hown with ⟨h1, h2⟩ | ⟨b', c', h1, _⟩
      · exact ⟨none, 0, by rw [h1, h2]⟩
      · exact ⟨_, _, h1⟩
    exact ris_own e a is A _ c y⟩⟩
/-- GEN -/
theorem own_slice {w : World} {B : Nat} {e : TypeId} {v : Value} {n : Nat} {xs : List Value} (h : w.ownsRow B e 1 v n xs) : ∃ NA nn NC, v = .slice NA nn NC := by
  rcases own_form h with ⟨h1, h2⟩ | ⟨b', c', h1, _⟩
  · exact ⟨_, _, _, h1⟩
  · exact ⟨_, _, _, h1⟩

set_option maxRecDepth 100000 in
set_option maxHeartbeats 4000000 in
theorem tells_nil (F : Interp) {w : World} (hF : F.told.answers w.tape) (hg : HasType w) (at_ is : Int) (A : Option Addr) (n c : Nat) (hn : ¬ (30 : Int) < n) (hN : NArg w A n) :
    Calls Tryf.prog 4 #[.int .i64 0, .int .i64 at_, .bool false, .slice A n c, .int .i64 is] w (RetB w (.bool true)) := by
  have HM := Lib.hid (made_nil (w := w) at_ A n c (by omega))
  have HG := Lib.hid hg
  clear hF hg hN
  go_enter Tryf.func4, Tryf.ntmps4
  go_wp2_with (go_at_call 14; refine (HM.out).mono ?_; intro en w1 hx; obtain ⟨rfl, hb⟩ := hx; have HB1 := Lib.hid hb; have HS := Lib.hid (Same.nil w1 at_ is); clear hb)
  have hgz := HB1.out.size
  have hBA := below_alloc w1 (.cells #[.int .i64 0, .int .i64 at_, .slice none 0 0, .bool false] 37)
  have HBA := Lib.hid hBA
  have HF2 := Lib.hid (Blk.new w1 37 #[.int .i64 0, .int .i64 at_, .slice none 0 0, .bool false])
  have HW2 : Hid (Below w.heap.size w (w1.alloc (.cells #[.int .i64 0, .int .i64 at_, .slice none 0 0, .bool false] 37))) := Lib.hid (HB1.out.trans (hBA.mono hgz))
  obtain ⟨cc, hcc⟩ := HS.out.code
  obtain ⟨ca, hca⟩ := HS.out.at_
  obtain ⟨cn, hcn⟩ := HS.out.name
  obtain ⟨cb, hcb⟩ := HS.out.is
  have HCC := Lib.hid hcc
  have HCA := Lib.hid hca
  have HCN := Lib.hid hcn
  have HCB := Lib.hid hcb
  have HAW := Lib.hid (fun y (hy : Below w.heap.size w y) => awake_any (HG.out.later hy))
  clear hcc hca hcn hcb hBA hgz
  generalize hW2 : w1.alloc (.cells #[.int .i64 0, .int .i64 at_, .slice none 0 0, .bool false] 37) = w2 at *
  have hIE : ∃ I : World → Prop, (∀ w', I w' → Below w2.heap.size w2 w') ∧ (∀ w', Below w2.heap.size w2 w' → I w') := ⟨_, fun _ h => h, fun _ h => h⟩
  obtain ⟨I, hI1, hI2⟩ := hIE
  have hI : I w2.drew := hI2 _ (⟨rfl, rfl, rfl, Nat.le_refl _, fun _ _ => rfl⟩)
  have hne : Nonempty (Wd I) := ⟨⟨_, hI⟩⟩
  have XI := Lib.hid (fun x : Wd I => hI1 _ x.ok)
  have XW := Lib.hid (fun x : Wd I => HW2.out.trans ((hI1 _ x.ok).mono HW2.out.size))
  have XZ := Lib.hid (fun x : Wd I => HBA.out.trans ((hI1 _ x.ok).mono HBA.out.size))
  have XJ := Lib.hid hI2
  clear hI1 hI2 hW2
  have g0 : ∀ y : Wd I, y.w.cell? ⟨w1.heap.size, 0, none⟩ = some (.int .i64 0) := fun y => (HF2.out.below (XI.out y) HF2.out.lt).cell 0
  have g1 : ∀ y : Wd I, y.w.cell? ⟨w1.heap.size, 1, none⟩ = some (.int .i64 at_) := fun y => (HF2.out.below (XI.out y) HF2.out.lt).cell 1
  have g2 : ∀ y : Wd I, y.w.cell? ⟨w1.heap.size, 2, none⟩ = some (.slice none 0 0) := fun y => (HF2.out.below (XI.out y) HF2.out.lt).cell 2
  have g3 : ∀ y : Wd I, y.w.cell? ⟨w1.heap.size, 3, none⟩ = some (.bool false) := fun y => (HF2.out.below (XI.out y) HF2.out.lt).cell 3
  have C1 := Lib.hid (fun y : Wd I => wd_call (I := I) (v := .int .i64 cc) ((HCC.out y.w (XZ.out y)).1.mono fun e w' hh => ⟨hh.1, XJ.out _ ((XI.out y).trans (hh.2.mono (XI.out y).size))⟩))
  have C2 := Lib.hid (fun y : Wd I => wd_call (I := I) (v := .int .i64 cc) ((HCC.out y.w (XZ.out y)).2.mono fun e w' hh => ⟨hh.1, XJ.out _ ((XI.out y).trans (hh.2.mono (XI.out y).size))⟩))
  have C3 := Lib.hid (fun y : Wd I => wd_call (I := I) (v := .int .i64 ca) ((HCA.out y.w (XZ.out y)).1.mono fun e w' hh => ⟨hh.1, XJ.out _ ((XI.out y).trans (hh.2.mono (XI.out y).size))⟩))
  have C4 := Lib.hid (fun y : Wd I => wd_call (I := I) (v := .int .i64 ca) ((HCA.out y.w (XZ.out y)).2.mono fun e w' hh => ⟨hh.1, XJ.out _ ((XI.out y).trans (hh.2.mono (XI.out y).size))⟩))
  have C5 := Lib.hid (fun y : Wd I => wd_call (I := I) (v := .string cn) ((HCN.out y.w (XZ.out y)).1.mono fun e w' hh => ⟨hh.1, XJ.out _ ((XI.out y).trans (hh.2.mono (XI.out y).size))⟩))
  have C6 := Lib.hid (fun y : Wd I => wd_call (I := I) (v := .string cn) ((HCN.out y.w (XZ.out y)).2.mono fun e w' hh => ⟨hh.1, XJ.out _ ((XI.out y).trans (hh.2.mono (XI.out y).size))⟩))
  have C7 := Lib.hid (fun y : Wd I => wd_call (I := I) (v := .bool cb) ((HCB.out y.w (XZ.out y)).1.mono fun e w' hh => ⟨hh.1, XJ.out _ ((XI.out y).trans (hh.2.mono (XI.out y).size))⟩))
  have C8 := Lib.hid (fun y : Wd I => wd_call (I := I) (v := .bool cb) ((HCB.out y.w (XZ.out y)).2.mono fun e w' hh => ⟨hh.1, XJ.out _ ((XI.out y).trans (hh.2.mono (XI.out y).size))⟩))
  have C9 := Lib.hid (fun y : Wd I => wd_call (I := I) (v := .bool true) ((HAW.out y.w (XW.out y)).mono fun e w' hh => ⟨hh.1, XJ.out _ ((XI.out y).trans (hh.2.mono (XI.out y).size))⟩))
  have hs1 : (cn.toList == cn.toList) = true := by simp
  have hs2 : (cc == cc) = true := by simp
  have hs3 : (ca == ca) = true := by simp
  have hs4 : (cb == cb) = true := by simp
  clear HCC HCA HCN HCB HAW HM HG HS
  go_wp2_with fail
  refine wp_region_wd I (by kernel_rfl) (by kernel_rfl) hI ?_
  repeat (go_big_quiet_step ((first | (go_at_call 9; exact C1.out _) | (go_at_call 15; exact C2.out _) | (go_at_call 10; exact C3.out _) | (go_at_call 16; exact C4.out _) | (go_at_call 11; exact C5.out _) | (go_at_call 17; exact C6.out _) | (go_at_call 12; exact C7.out _) | (go_at_call 18; exact C8.out _) | (go_at_call 7; exact C9.out _))))
  refine wpQuiet_nil ?_
  intro _ hw'
  obtain ⟨x, rfl⟩ := hw'
  have HB5 := Lib.hid (XW.out x)
  clear g0 g1 g2 g3
  go_wp2
  go_ret
  exact ⟨rfl, HB5.out⟩

set_option maxRecDepth 100000 in
set_option maxHeartbeats 4000000 in
theorem tells_own (F : Interp) {w : World} (hF : F.told.answers w.tape) (hg : HasType w) (e : Int) (he : (e == 0) = false) (at_ is : Int) (A : Option Addr) (n c : Nat) (hn : ¬ (30 : Int) < n) (hN : NArg w A n) :
    Calls Tryf.prog 4 #[.int .i64 e, .int .i64 at_, .bool false, .slice A n c, .int .i64 is] w (RetB w (.bool true)) := by
  have HM := Lib.hid (made_place F hF e at_ he A n c (by omega) hN)
  have HG := Lib.hid hg
  clear hF hg hN
  go_enter Tryf.func4, Tryf.ntmps4
  go_wp2_with (go_at_call 14; refine (HM.out).mono ?_; intro en w1 hx; obtain ⟨T, b, nv, ns, nm, rfl, hl, he3, hown, hlast, hb⟩ := hx; obtain ⟨NA, nn, NC, rfl⟩ : ∃ NA nn NC, nv = .slice NA nn NC := own_slice hown; have HB1 := Lib.hid hb; have HS := Lib.hid (Same.own he he3 (HG.out.later hb) hown hlast (by omega) is); clear hb he3 hown hlast hl)
  have hgz := HB1.out.size
  have hBA := below_alloc w1 (.cells #[.int .i64 e, .int .i64 at_, .slice NA nn NC, .bool false] 37)
  have HBA := Lib.hid hBA
  have HF2 := Lib.hid (Blk.new w1 37 #[.int .i64 e, .int .i64 at_, .slice NA nn NC, .bool false])
  have HW2 : Hid (Below w.heap.size w (w1.alloc (.cells #[.int .i64 e, .int .i64 at_, .slice NA nn NC, .bool false] 37))) := Lib.hid (HB1.out.trans (hBA.mono hgz))
  obtain ⟨cc, hcc⟩ := HS.out.code
  obtain ⟨ca, hca⟩ := HS.out.at_
  obtain ⟨cn, hcn⟩ := HS.out.name
  obtain ⟨cb, hcb⟩ := HS.out.is
  have HCC := Lib.hid hcc
  have HCA := Lib.hid hca
  have HCN := Lib.hid hcn
  have HCB := Lib.hid hcb
  have HAW := Lib.hid (fun y (hy : Below w.heap.size w y) => awake_any (HG.out.later hy))
  clear hcc hca hcn hcb hBA hgz
  generalize hW2 : w1.alloc (.cells #[.int .i64 e, .int .i64 at_, .slice NA nn NC, .bool false] 37) = w2 at *
  have hIE : ∃ I : World → Prop, (∀ w', I w' → Below w2.heap.size w2 w') ∧ (∀ w', Below w2.heap.size w2 w' → I w') := ⟨_, fun _ h => h, fun _ h => h⟩
  obtain ⟨I, hI1, hI2⟩ := hIE
  have hI : I w2.drew := hI2 _ (⟨rfl, rfl, rfl, Nat.le_refl _, fun _ _ => rfl⟩)
  have hne : Nonempty (Wd I) := ⟨⟨_, hI⟩⟩
  have XI := Lib.hid (fun x : Wd I => hI1 _ x.ok)
  have XW := Lib.hid (fun x : Wd I => HW2.out.trans ((hI1 _ x.ok).mono HW2.out.size))
  have XZ := Lib.hid (fun x : Wd I => HBA.out.trans ((hI1 _ x.ok).mono HBA.out.size))
  have XJ := Lib.hid hI2
  clear hI1 hI2 hW2
  have g0 : ∀ y : Wd I, y.w.cell? ⟨w1.heap.size, 0, none⟩ = some (.int .i64 e) := fun y => (HF2.out.below (XI.out y) HF2.out.lt).cell 0
  have g1 : ∀ y : Wd I, y.w.cell? ⟨w1.heap.size, 1, none⟩ = some (.int .i64 at_) := fun y => (HF2.out.below (XI.out y) HF2.out.lt).cell 1
  have g2 : ∀ y : Wd I, y.w.cell? ⟨w1.heap.size, 2, none⟩ = some (.slice NA nn NC) := fun y => (HF2.out.below (XI.out y) HF2.out.lt).cell 2
  have g3 : ∀ y : Wd I, y.w.cell? ⟨w1.heap.size, 3, none⟩ = some (.bool false) := fun y => (HF2.out.below (XI.out y) HF2.out.lt).cell 3
  have C1 := Lib.hid (fun y : Wd I => wd_call (I := I) (v := .int .i64 cc) ((HCC.out y.w (XZ.out y)).1.mono fun e w' hh => ⟨hh.1, XJ.out _ ((XI.out y).trans (hh.2.mono (XI.out y).size))⟩))
  have C2 := Lib.hid (fun y : Wd I => wd_call (I := I) (v := .int .i64 cc) ((HCC.out y.w (XZ.out y)).2.mono fun e w' hh => ⟨hh.1, XJ.out _ ((XI.out y).trans (hh.2.mono (XI.out y).size))⟩))
  have C3 := Lib.hid (fun y : Wd I => wd_call (I := I) (v := .int .i64 ca) ((HCA.out y.w (XZ.out y)).1.mono fun e w' hh => ⟨hh.1, XJ.out _ ((XI.out y).trans (hh.2.mono (XI.out y).size))⟩))
  have C4 := Lib.hid (fun y : Wd I => wd_call (I := I) (v := .int .i64 ca) ((HCA.out y.w (XZ.out y)).2.mono fun e w' hh => ⟨hh.1, XJ.out _ ((XI.out y).trans (hh.2.mono (XI.out y).size))⟩))
  have C5 := Lib.hid (fun y : Wd I => wd_call (I := I) (v := .string cn) ((HCN.out y.w (XZ.out y)).1.mono fun e w' hh => ⟨hh.1, XJ.out _ ((XI.out y).trans (hh.2.mono (XI.out y).size))⟩))
  have C6 := Lib.hid (fun y : Wd I => wd_call (I := I) (v := .string cn) ((HCN.out y.w (XZ.out y)).2.mono fun e w' hh => ⟨hh.1, XJ.out _ ((XI.out y).trans (hh.2.mono (XI.out y).size))⟩))
  have C7 := Lib.hid (fun y : Wd I => wd_call (I := I) (v := .bool cb) ((HCB.out y.w (XZ.out y)).1.mono fun e w' hh => ⟨hh.1, XJ.out _ ((XI.out y).trans (hh.2.mono (XI.out y).size))⟩))
  have C8 := Lib.hid (fun y : Wd I => wd_call (I := I) (v := .bool cb) ((HCB.out y.w (XZ.out y)).2.mono fun e w' hh => ⟨hh.1, XJ.out _ ((XI.out y).trans (hh.2.mono (XI.out y).size))⟩))
  have C9 := Lib.hid (fun y : Wd I => wd_call (I := I) (v := .bool true) ((HAW.out y.w (XW.out y)).mono fun e w' hh => ⟨hh.1, XJ.out _ ((XI.out y).trans (hh.2.mono (XI.out y).size))⟩))
  have hs1 : (cn.toList == cn.toList) = true := by simp
  have hs2 : (cc == cc) = true := by simp
  have hs3 : (ca == ca) = true := by simp
  have hs4 : (cb == cb) = true := by simp
  clear HCC HCA HCN HCB HAW HM HG HS
  go_wp2_with fail
  refine wp_region_wd I (by kernel_rfl) (by kernel_rfl) hI ?_
  repeat (go_big_quiet_step ((first | (go_at_call 9; exact C1.out _) | (go_at_call 15; exact C2.out _) | (go_at_call 10; exact C3.out _) | (go_at_call 16; exact C4.out _) | (go_at_call 11; exact C5.out _) | (go_at_call 17; exact C6.out _) | (go_at_call 12; exact C7.out _) | (go_at_call 18; exact C8.out _) | (go_at_call 7; exact C9.out _))))
  refine wpQuiet_nil ?_
  intro _ hw'
  obtain ⟨x, rfl⟩ := hw'
  have HB5 := Lib.hid (XW.out x)
  clear g0 g1 g2 g3
  go_wp2
  go_ret
  exact ⟨rfl, HB5.out⟩

set_option maxRecDepth 100000 in
set_option maxHeartbeats 4000000 in
theorem tells_other (F : Interp) {w : World} (hF : F.told.answers w.tape) (hg : HasType w) (e : Int) (at_ is : Int) (A : Option Addr) (n c : Nat) (hn : ¬ (30 : Int) < n) (hN : NArg w A n) :
    Calls Tryf.prog 4 #[.int .i64 e, .int .i64 at_, .bool true, .slice A n c, .int .i64 is] w (RetB w (.bool true)) := by
  have HM := Lib.hid (show Calls Tryf.prog 14 #[.int .i64 e, .int .i64 at_, .bool true, .slice A n c] w (MadeEnd w none e at_ true) from by cases he : (e == 0) with | true => (obtain rfl : e = 0 := by simpa using he); exact made_other_zero F hF at_ A n c (by omega) hN | false => exact made_other_some F hF e he at_ A n c (by omega) hN)
  have HG := Lib.hid hg
  clear hF hg hN
  go_enter Tryf.func4, Tryf.ntmps4
  go_wp2_with (go_at_call 14; refine (HM.out).mono ?_; intro en w1 hx; obtain ⟨T, b, nv, ns, nm, rfl, hl, he3, hown, hlast, hb⟩ := hx; obtain ⟨NA, nn, NC, rfl⟩ : ∃ NA nn NC, nv = .slice NA nn NC := own_slice hown; have HB1 := Lib.hid hb; have HS := Lib.hid (Same.other he3 (HG.out.later hb) hown hlast (by omega) e at_ is); clear hb he3 hown hlast hl)
  have hgz := HB1.out.size
  have hBA := below_alloc w1 (.cells #[.int .i64 e, .int .i64 at_, .slice NA nn NC, .bool true] 37)
  have HBA := Lib.hid hBA
  have HF2 := Lib.hid (Blk.new w1 37 #[.int .i64 e, .int .i64 at_, .slice NA nn NC, .bool true])
  have HW2 : Hid (Below w.heap.size w (w1.alloc (.cells #[.int .i64 e, .int .i64 at_, .slice NA nn NC, .bool true] 37))) := Lib.hid (HB1.out.trans (hBA.mono hgz))
  obtain ⟨cc, hcc⟩ := HS.out.code
  obtain ⟨ca, hca⟩ := HS.out.at_
  obtain ⟨cn, hcn⟩ := HS.out.name
  obtain ⟨cb, hcb⟩ := HS.out.is
  have HCC := Lib.hid hcc
  have HCA := Lib.hid hca
  have HCN := Lib.hid hcn
  have HCB := Lib.hid hcb
  have HAW := Lib.hid (fun y (hy : Below w.heap.size w y) => awake_any (HG.out.later hy))
  clear hcc hca hcn hcb hBA hgz
  generalize hW2 : w1.alloc (.cells #[.int .i64 e, .int .i64 at_, .slice NA nn NC, .bool true] 37) = w2 at *
  have hIE : ∃ I : World → Prop, (∀ w', I w' → Below w2.heap.size w2 w') ∧ (∀ w', Below w2.heap.size w2 w' → I w') := ⟨_, fun _ h => h, fun _ h => h⟩
  obtain ⟨I, hI1, hI2⟩ := hIE
  have hI : I w2.drew := hI2 _ (⟨rfl, rfl, rfl, Nat.le_refl _, fun _ _ => rfl⟩)
  have hne : Nonempty (Wd I) := ⟨⟨_, hI⟩⟩
  have XI := Lib.hid (fun x : Wd I => hI1 _ x.ok)
  have XW := Lib.hid (fun x : Wd I => HW2.out.trans ((hI1 _ x.ok).mono HW2.out.size))
  have XZ := Lib.hid (fun x : Wd I => HBA.out.trans ((hI1 _ x.ok).mono HBA.out.size))
  have XJ := Lib.hid hI2
  clear hI1 hI2 hW2
  have g0 : ∀ y : Wd I, y.w.cell? ⟨w1.heap.size, 0, none⟩ = some (.int .i64 e) := fun y => (HF2.out.below (XI.out y) HF2.out.lt).cell 0
  have g1 : ∀ y : Wd I, y.w.cell? ⟨w1.heap.size, 1, none⟩ = some (.int .i64 at_) := fun y => (HF2.out.below (XI.out y) HF2.out.lt).cell 1
  have g2 : ∀ y : Wd I, y.w.cell? ⟨w1.heap.size, 2, none⟩ = some (.slice NA nn NC) := fun y => (HF2.out.below (XI.out y) HF2.out.lt).cell 2
  have g3 : ∀ y : Wd I, y.w.cell? ⟨w1.heap.size, 3, none⟩ = some (.bool true) := fun y => (HF2.out.below (XI.out y) HF2.out.lt).cell 3
  have C1 := Lib.hid (fun y : Wd I => wd_call (I := I) (v := .int .i64 cc) ((HCC.out y.w (XZ.out y)).1.mono fun e w' hh => ⟨hh.1, XJ.out _ ((XI.out y).trans (hh.2.mono (XI.out y).size))⟩))
  have C2 := Lib.hid (fun y : Wd I => wd_call (I := I) (v := .int .i64 cc) ((HCC.out y.w (XZ.out y)).2.mono fun e w' hh => ⟨hh.1, XJ.out _ ((XI.out y).trans (hh.2.mono (XI.out y).size))⟩))
  have C3 := Lib.hid (fun y : Wd I => wd_call (I := I) (v := .int .i64 ca) ((HCA.out y.w (XZ.out y)).1.mono fun e w' hh => ⟨hh.1, XJ.out _ ((XI.out y).trans (hh.2.mono (XI.out y).size))⟩))
  have C4 := Lib.hid (fun y : Wd I => wd_call (I := I) (v := .int .i64 ca) ((HCA.out y.w (XZ.out y)).2.mono fun e w' hh => ⟨hh.1, XJ.out _ ((XI.out y).trans (hh.2.mono (XI.out y).size))⟩))
  have C5 := Lib.hid (fun y : Wd I => wd_call (I := I) (v := .string cn) ((HCN.out y.w (XZ.out y)).1.mono fun e w' hh => ⟨hh.1, XJ.out _ ((XI.out y).trans (hh.2.mono (XI.out y).size))⟩))
  have C6 := Lib.hid (fun y : Wd I => wd_call (I := I) (v := .string cn) ((HCN.out y.w (XZ.out y)).2.mono fun e w' hh => ⟨hh.1, XJ.out _ ((XI.out y).trans (hh.2.mono (XI.out y).size))⟩))
  have C7 := Lib.hid (fun y : Wd I => wd_call (I := I) (v := .bool cb) ((HCB.out y.w (XZ.out y)).1.mono fun e w' hh => ⟨hh.1, XJ.out _ ((XI.out y).trans (hh.2.mono (XI.out y).size))⟩))
  have C8 := Lib.hid (fun y : Wd I => wd_call (I := I) (v := .bool cb) ((HCB.out y.w (XZ.out y)).2.mono fun e w' hh => ⟨hh.1, XJ.out _ ((XI.out y).trans (hh.2.mono (XI.out y).size))⟩))
  have C9 := Lib.hid (fun y : Wd I => wd_call (I := I) (v := .bool true) ((HAW.out y.w (XW.out y)).mono fun e w' hh => ⟨hh.1, XJ.out _ ((XI.out y).trans (hh.2.mono (XI.out y).size))⟩))
  have hs1 : (cn.toList == cn.toList) = true := by simp
  have hs2 : (cc == cc) = true := by simp
  have hs3 : (ca == ca) = true := by simp
  have hs4 : (cb == cb) = true := by simp
  clear HCC HCA HCN HCB HAW HM HG HS
  go_wp2_with fail
  refine wp_region_wd I (by kernel_rfl) (by kernel_rfl) hI ?_
  repeat (go_big_quiet_step ((first | (go_at_call 9; exact C1.out _) | (go_at_call 15; exact C2.out _) | (go_at_call 10; exact C3.out _) | (go_at_call 16; exact C4.out _) | (go_at_call 11; exact C5.out _) | (go_at_call 17; exact C6.out _) | (go_at_call 12; exact C7.out _) | (go_at_call 18; exact C8.out _) | (go_at_call 7; exact C9.out _))))
  refine wpQuiet_nil ?_
  intro _ hw'
  obtain ⟨x, rfl⟩ := hw'
  have HB5 := Lib.hid (XW.out x)
  clear g0 g1 g2 g3
  go_wp2
  go_ret
  exact ⟨rfl, HB5.out⟩
end Go.Proofs.YtaeakipppdjkmaaFmt
