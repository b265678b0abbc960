/- Contracts of the word machine: goes, wrong, top, lit. -/
import Derived.Test.YtpadnckmheippaaC2
namespace Go.Proofs.Ytpadnckmheippaa
open Go.RowKit
set_option linter.unusedVariables false

theorem Try.infoByte : (Try.prog.info? 5).map (fun i => (i.zero, i.size, i.bytes)) = some (some (.int .u8 0), 1, 1) := by kernel_rfl
theorem ElByte : El Try.prog 55 5 1 1 := El.of Try.underlying55 Try.infoByte rfl (by decide)

/-- The machine has turned so. -/
def Turns (w : World) (B : Bs) (g : Nat) (x : MR) (nx : Value) (m : MS) (w' : World) : Prop := ∃ x' : MR, MRep w' B g nx x' ∧ x'.ms = m ∧ Step (x.foot g) w (x'.foot g) w'

section
variable {w : World} {B : Bs} {g : Nat} {nx : Value} {x : MR}
theorem goes_any (h : MRep w B g nx x) (k : Nat) (hk : k ≤ 17) :
    Calls Try.prog 68 #[.pointer (some ⟨g, 0, none⟩), .int .i64 k] w fun e w' => e = .returned (.int .i64 0) ∧ MRep w' B g (nextVal k g) { x with kind := k } ∧ Step (x.foot g) w (x.foot g) w' := by
  go_enter Try.func68, Try.ntmps68
  go_wp2_with fail
  refine (turn_any h k hk).mono ?_
  rintro e w' ⟨rfl, hh⟩
  have HH := Lib.hid hh
  clear hh
  go_wp2
  go_ret
  exact ⟨rfl, HH.out⟩
theorem wrong_any (h : MRep w B g nx x) :
    Calls Try.prog 66 #[.pointer (some ⟨g, 0, none⟩)] w fun e w' => e = .returned (.int .i64 3) ∧ MRep w' B g (nextVal 17 g) { x with kind := 17 } ∧ Step (x.foot g) w (x.foot g) w' := by
  go_enter Try.func66, Try.ntmps66
  go_wp2_with fail
  refine (turn_any h 17 (by omega)).mono ?_
  rintro e w' ⟨rfl, hh⟩
  have HH := Lib.hid hh
  clear hh
  go_wp2
  go_ret
  exact ⟨rfl, HH.out⟩

theorem top_any (h : MRep w B g nx x) {b c : Nat} (hlv : x.lv = .slice (some ⟨b, 0, none⟩) (x.lower.length + 1) c) (hs : x.lower.length ≤ 1000000) :
    Calls Try.prog 34 #[.pointer (some ⟨g, 0, none⟩)] w fun e w' => e = .returned (.pointer (some ⟨b, x.lower.length * 5, none⟩)) ∧ ∃ m, w' = w.drewN m := by
  obtain ⟨b', c', h1, hbg, hblt, hcap, hol⟩ := h.lvl
  rw [hlv] at h1
  cases h1
  have h0 := h.blk.cell 0
  simp only [MR.cells, List.getElem?_toArray, List.getElem?_cons_zero, hlv] at h0
  generalize x.lower.length = n at *
  clear h hol hlv
  go_enter Try.func34, Try.ntmps34
  go_wp2
  go_quiet (fail)
  go_wp2
  go_ret
  exact ⟨rfl, _, rfl⟩

theorem byteCells_one (l : List UInt8) : ∀ u ∈ byteCells l, u.oneCell' = true := by
  intro u hu
  obtain ⟨b, _, rfl⟩ := List.mem_map.1 hu
  rfl
theorem byteCells_app (l m : List UInt8) : byteCells (l ++ m) = byteCells l ++ byteCells m := List.map_append
theorem SrcOK.turns {w w' : World} {F F' : List Nat} {v : Value} {m size : Nat} {news : List Value} (h : SrcOK w v m size news) (s : Step F w F' w') (hv : ∀ b, v.ownBlock = some b → b ∉ F) : SrcOK w' v m size news := by
  refine ⟨h.1, ?_⟩
  rcases h.2 with hn | ⟨ad, c, rfl, hl, hc⟩
  · exact .inl hn
  · refine .inr ⟨ad, c, rfl, hl, fun j u hu => ?_⟩
    have hb : (ad.add j).block = ad.block := by unfold Addr.add; split <;> rfl
    have h0 := hc j u hu
    have hlt := World.block_lt_of_cell? w _ h0
    rw [hb] at hlt
    exact (World.cell?_of_block (w := w) (by rw [hb]; exact s.keep.block _ hlt (hv _ rfl))).trans h0

theorem frozen_of_block {w w' : World} {b j : Nat} (h : w'.heap[b]? = w.heap[b]?) : w'.frozen? ⟨b, j, none⟩ = w.frozen? ⟨b, j, none⟩ := by simp only [World.frozen?, h]
theorem MRep.farG (h : MRep w B g nx x) {w1 : World} {r : Row} (hr : r ∈ x.rows) (hg : w.grownBy w1 r.v.ownBlock) (i : Nat) : w1.cell? ⟨g, i, none⟩ = (x.cells nx)[i]? ∧ w1.frozen? ⟨g, i, none⟩ = false := by
  have e : w1.heap[g]? = w.heap[g]? := hg.block g h.blk.lt (fun e => h.g_not (mem_blocks.2 ⟨r, hr, e.symm⟩))
  exact ⟨(World.cell?_of_block (w := w) e).trans (h.blk.cell i), (frozen_of_block e).trans (h.blk.frozen i)⟩
theorem MRep.farLv (h : MRep w B g nx x) {b c : Nat} (hlv : x.lv = .slice (some ⟨b, 0, none⟩) (x.lower.length + 1) c) {w1 : World} {L : List Row} {r : Row} (hr : x.rows = x.levelRow :: L) (hm : r ∈ L) (hg : w.grownBy w1 r.v.ownBlock) (j : Nat) (hj : j < 5) :
    w1.cell? ⟨b, x.lower.length * 5 + j, none⟩ = x.top.cells[j]? ∧ w1.frozen? ⟨b, x.lower.length * 5 + j, none⟩ = false := by
  have hap := h.rows.apart
  rw [hr] at hap
  have e0 : blocks (x.levelRow :: L) = b :: blocks L := by simp [blocks, MR.levelRow, hlv, Value.ownBlock]
  rw [e0] at hap
  obtain ⟨b', c', h1, _, hblt, _⟩ := h.lvl
  rw [hlv] at h1
  cases h1
  have e : w1.heap[b]? = w.heap[b]? := hg.block b hblt (fun e => (List.nodup_cons.1 hap).1 (mem_blocks.2 ⟨r, hm, e.symm⟩))
  exact ⟨(World.cell?_of_block (w := w) e).trans (h.topCell hlv j hj).1, (frozen_of_block e).trans (h.topCell hlv j hj).2⟩
theorem turn_block {w1 : World} {v v' : Value} (h : v'.ownBlock = v.ownBlock ∨ v'.ownBlock = some w.heap.size) : v'.ownBlock = v.ownBlock ∨ v'.ownBlock = none ∨ ∃ b, v'.ownBlock = some b ∧ w.heap.size ≤ b := by
  rcases h with h | h
  · exact .inl h
  · exact .inr (.inr ⟨_, h, Nat.le_refl _⟩)
/-- Literal bytes are appended at the last level. -/
theorem MRep.appLit (h : MRep w B g nx x) {b c : Nat} (hlv : x.lv = .slice (some ⟨b, 0, none⟩) (x.lower.length + 1) c) {w1 : World} {A : Option Addr} {N k : Nat} (l : List UInt8)
    (r1 : w1.ownsRow B 5 1 (.slice A N k) N (byteCells x.top.lit ++ byteCells l)) (hN : x.top.lit.length + l.length = N)
    (r3 : w.grownBy w1 x.top.vlit.ownBlock ∧ ((Value.slice A N k).ownBlock = x.top.vlit.ownBlock ∨ (Value.slice A N k).ownBlock = some w.heap.size)) :
    (w1.cell? ⟨b, x.lower.length * 5 + 2, none⟩ = some x.top.vlit ∧ w1.frozen? ⟨b, x.lower.length * 5 + 2, none⟩ = false) ∧
    MRep (w1.setCell ⟨b, x.lower.length * 5 + 2, none⟩ (.slice A N k)) B g nx { x with top := { x.top with lit := x.top.lit ++ l, vlit := .slice A N k } } ∧
    Step (x.foot g) w (MR.foot { x with top := { x.top with lit := x.top.lit ++ l, vlit := .slice A N k } } g) (w1.setCell ⟨b, x.lower.length * 5 + 2, none⟩ (.slice A N k)) := by
  have hrows : x.rows = x.levelRow :: ((byteRow x.vtook x.took :: byteRow x.vplain x.plain :: byteRow x.vbuf x.buf :: (x.lower.flatMap RL.rows ++ [x.top.partRow])) ++ byteRow x.top.vlit x.top.lit :: []) := by simp [MR.rows]
  refine ⟨h.farLv hlv (r := byteRow x.top.vlit x.top.lit) hrows (by simp) r3.1 2 (by omega), ?_⟩
  subst hN
  refine MRep.topRow (r' := byteRow (.slice A (x.top.lit.length + l.length) k) (x.top.lit ++ l)) h hlv (by omega) hrows (by simp [MR.rows, RL.partRow]) rfl rfl rfl rfl r3.1 ?_ (turn_block (w1 := w1) r3.2) fun F' s p hp => ?_
  · unfold Row.ok byteRow
    simp only [List.length_append, byteCells_app]
    exact r1
  · exact (h.dead x.top (by simp [MR.levels]) p hp).stepA s
/-- What was taken. -/
theorem MRep.appTook (h : MRep w B g nx x) {w1 : World} {A : Option Addr} {N k : Nat} (l : List UInt8)
    (r1 : w1.ownsRow B 5 1 (.slice A N k) N (byteCells x.took ++ byteCells l)) (hN : x.took.length + l.length = N)
    (r3 : w.grownBy w1 x.vtook.ownBlock ∧ ((Value.slice A N k).ownBlock = x.vtook.ownBlock ∨ (Value.slice A N k).ownBlock = some w.heap.size)) :
    (w1.cell? ⟨g, 3, none⟩ = some x.vtook ∧ w1.frozen? ⟨g, 3, none⟩ = false) ∧
    MRep (w1.setCell ⟨g, 3, none⟩ (.slice A N k)) B g nx { x with took := x.took ++ l, vtook := .slice A N k } ∧
    Step (x.foot g) w (MR.foot { x with took := x.took ++ l, vtook := .slice A N k } g) (w1.setCell ⟨g, 3, none⟩ (.slice A N k)) := by
  have hrows : x.rows = [x.levelRow] ++ byteRow x.vtook x.took :: (byteRow x.vplain x.plain :: byteRow x.vbuf x.buf :: (x.lower.flatMap RL.rows ++ [x.top.partRow, byteRow x.top.vlit x.top.lit])) := rfl
  refine ⟨h.farG (r := byteRow x.vtook x.took) (by rw [hrows]; simp) r3.1 3, ?_⟩
  subst hN
  refine MRep.row (r' := byteRow (.slice A (x.took.length + l.length) k) (x.took ++ l)) h hrows rfl rfl rfl r3.1 ?_ (turn_block (w1 := w1) r3.2)
  unfold Row.ok byteRow
  simp only [List.length_append, byteCells_app]
  exact r1
/-- What came. -/
theorem MRep.appPlain (h : MRep w B g nx x) {w1 : World} {A : Option Addr} {N k : Nat} (l : List UInt8)
    (r1 : w1.ownsRow B 5 1 (.slice A N k) N (byteCells x.plain ++ byteCells l)) (hN : x.plain.length + l.length = N)
    (r3 : w.grownBy w1 x.vplain.ownBlock ∧ ((Value.slice A N k).ownBlock = x.vplain.ownBlock ∨ (Value.slice A N k).ownBlock = some w.heap.size)) :
    (w1.cell? ⟨g, 4, none⟩ = some x.vplain ∧ w1.frozen? ⟨g, 4, none⟩ = false) ∧
    MRep (w1.setCell ⟨g, 4, none⟩ (.slice A N k)) B g nx { x with plain := x.plain ++ l, vplain := .slice A N k } ∧
    Step (x.foot g) w (MR.foot { x with plain := x.plain ++ l, vplain := .slice A N k } g) (w1.setCell ⟨g, 4, none⟩ (.slice A N k)) := by
  have hrows : x.rows = [x.levelRow, byteRow x.vtook x.took] ++ byteRow x.vplain x.plain :: (byteRow x.vbuf x.buf :: (x.lower.flatMap RL.rows ++ [x.top.partRow, byteRow x.top.vlit x.top.lit])) := rfl
  refine ⟨h.farG (r := byteRow x.vplain x.plain) (by rw [hrows]; simp) r3.1 4, ?_⟩
  subst hN
  refine MRep.row (r' := byteRow (.slice A (x.plain.length + l.length) k) (x.plain ++ l)) h hrows rfl rfl rfl r3.1 ?_ (turn_block (w1 := w1) r3.2)
  unfold Row.ok byteRow
  simp only [List.length_append, byteCells_app]
  exact r1
/-- What is read of a name. -/
theorem MRep.appBuf (h : MRep w B g nx x) {w1 : World} {A : Option Addr} {N k : Nat} (l : List UInt8)
    (r1 : w1.ownsRow B 5 1 (.slice A N k) N (byteCells x.buf ++ byteCells l)) (hN : x.buf.length + l.length = N)
    (r3 : w.grownBy w1 x.vbuf.ownBlock ∧ ((Value.slice A N k).ownBlock = x.vbuf.ownBlock ∨ (Value.slice A N k).ownBlock = some w.heap.size)) :
    (w1.cell? ⟨g, 7, none⟩ = some x.vbuf ∧ w1.frozen? ⟨g, 7, none⟩ = false) ∧
    MRep (w1.setCell ⟨g, 7, none⟩ (.slice A N k)) B g nx { x with buf := x.buf ++ l, vbuf := .slice A N k } ∧
    Step (x.foot g) w (MR.foot { x with buf := x.buf ++ l, vbuf := .slice A N k } g) (w1.setCell ⟨g, 7, none⟩ (.slice A N k)) := by
  have hrows : x.rows = [x.levelRow, byteRow x.vtook x.took, byteRow x.vplain x.plain] ++ byteRow x.vbuf x.buf :: (x.lower.flatMap RL.rows ++ [x.top.partRow, byteRow x.top.vlit x.top.lit]) := rfl
  refine ⟨h.farG (r := byteRow x.vbuf x.buf) (by rw [hrows]; simp) r3.1 7, ?_⟩
  subst hN
  refine MRep.row (r' := byteRow (.slice A (x.buf.length + l.length) k) (x.buf ++ l)) h hrows rfl rfl rfl r3.1 ?_ (turn_block (w1 := w1) r3.2)
  unfold Row.ok byteRow
  simp only [List.length_append, byteCells_app]
  exact r1
theorem byteLen (l : List UInt8) : (byteCells l).length = l.length := by simp [byteCells]
theorem MRep.litOwn (h : MRep w B g nx x) : w.ownsRow B 5 1 x.top.vlit x.top.lit.length (byteCells x.top.lit) := h.rows.each (byteRow x.top.vlit x.top.lit) (by simp [MR.rows])
theorem MRep.tookOwn (h : MRep w B g nx x) : w.ownsRow B 5 1 x.vtook x.took.length (byteCells x.took) := h.rows.each (byteRow x.vtook x.took) (by simp [MR.rows])
theorem MRep.plainOwn (h : MRep w B g nx x) : w.ownsRow B 5 1 x.vplain x.plain.length (byteCells x.plain) := h.rows.each (byteRow x.vplain x.plain) (by simp [MR.rows])
theorem MRep.bufOwn (h : MRep w B g nx x) : w.ownsRow B 5 1 x.vbuf x.buf.length (byteCells x.buf) := h.rows.each (byteRow x.vbuf x.buf) (by simp [MR.rows])

theorem own_val {w : World} {base : Nat} {e : TypeId} {size n : Nat} {v : Value} {xs : List Value} (h : w.ownsRow base e size v n xs) : ∃ A c, v = .slice A n c := by
  rcases own_form h with ⟨h1, h2⟩ | ⟨b', c', h1, _⟩
  · exact ⟨none, 0, by rw [h2]; exact h1⟩
  · exact ⟨_, _, h1⟩

set_option maxHeartbeats 800000 in
theorem lit_any (h : MRep w B g nx x) {VA : Option Addr} {Vc : Nat} {l : List UInt8} (hv : SrcOK w (.slice VA l.length Vc) l.length 1 (byteCells l)) (hvF : ∀ b, (Value.slice VA l.length Vc).ownBlock = some b → b ∉ x.foot g)
    (hs : x.lower.length ≤ 1000000) (hl : l.length ≤ 2) (hs1 : x.top.lit.length ≤ 1000000) (hs2 : x.took.length ≤ 1000000) :
    Calls Try.prog 70 #[.pointer (some ⟨g, 0, none⟩), .slice VA l.length Vc] w fun e w' => e = .returned (.tuple #[]) ∧ Turns w B g x nx (x.ms.lits l) w' := by
  obtain ⟨b, c, hlv, hbg, hblt, hcap, -⟩ := h.lvl
  have ht := top_any h hlv hs
  have HT := Lib.hid ht
  clear ht
  have HV := Lib.hid hv
  have HVF := Lib.hid hvF
  have HLV := Lib.hid hlv
  have H0 := Lib.hid h
  clear h hv hvF hlv
  go_enter Try.func70, Try.ntmps70
  go_wp2_with fail
  refine HT.out.mono ?_
  rintro e w0 ⟨rfl, m, rfl⟩
  obtain ⟨hM, sM⟩ := H0.out.grown (below_drewN w m)
  have hv2 := HV.out.turns sM HVF.out
  generalize w.drewN m = w1 at *
  have e0 := (hM.topCell HLV.out 2 (by omega)).1
  simp only [RL.cells, List.getElem?_cons_zero, List.getElem?_cons_succ] at e0
  have hol := hM.litOwn
  have hBw := hM.base_le
  obtain ⟨LA, Lc, hLv⟩ := own_val hol
  rw [hLv] at e0 hol
  obtain ⟨TA, Tc, hTv⟩ := own_val hM.tookOwn
  have HM := Lib.hid hM
  have HV2 := Lib.hid hv2
  have HOL := Lib.hid hol
  have HLv := Lib.hid hLv
  have HTv := Lib.hid hTv
  have HSM := Lib.hid sM
  clear hM hv2 hol hLv hTv sM
  go_wp2_with (first
    | (at_builtin; refine wpList_app ElByte (.tmp 11) (.tmp 12) rfl rfl (base := B) (n := x.top.lit.length) (m := l.length) (N := x.top.lit.length + l.length) (xs := byteCells x.top.lit) (news := byteCells l) rfl rfl HOL.out HV2.out rfl (by unfold maxLen; omega) (by omega) hBw ?_; intro A k w2 r1 r2 r3
       have hh := HM.out.appLit HLV.out l r1 rfl (by rw [HLv.out]; exact r3)
       obtain ⟨⟨k0, k1⟩, hM2, s2⟩ := hh
       rw [HLv.out] at k0
       have q3 := hM2.blk.cell 3
       simp only [MR.cells, List.getElem?_toArray, List.getElem?_cons_zero, List.getElem?_cons_succ, HTv.out] at q3
       have hv3 := HV2.out.turns s2 HVF.out
       have HV3 := Lib.hid hv3
       have hBw2 := hM2.base_le
       have HM2 := Lib.hid hM2
       have HS2 := Lib.hid (HSM.out.trans s2)
       clear r1 r2 r3 hM2 s2 hv3)
    | (at_builtin; refine wpList_app ElByte (.tmp 20) (.tmp 21) rfl rfl (base := B) (n := x.took.length) (m := l.length) (N := x.took.length + l.length) (xs := byteCells x.took) (news := byteCells l) rfl rfl (by have h4 := HM2.out.tookOwn; simp only [HTv.out] at h4; exact h4) HV3.out rfl (by unfold maxLen; omega) (by omega) hBw2 ?_; intro A3 k3 w3 r1 r2 r3
       have hh := HM2.out.appTook l r1 rfl (by simp only [HTv.out]; exact r3)
       obtain ⟨⟨k4, k5⟩, hM3, s3⟩ := hh
       simp only [HTv.out] at k4
       have HM3 := Lib.hid hM3
       have HS3 := Lib.hid (HS2.out.trans s3)
       clear r1 r2 r3 hM3 s3))
  go_end0
  exact ⟨rfl, _, HM3.out, rfl, HS3.out⟩
end
end Go.Proofs.Ytpadnckmheippaa
