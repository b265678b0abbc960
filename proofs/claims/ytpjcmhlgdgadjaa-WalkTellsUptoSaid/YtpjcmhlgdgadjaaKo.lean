/- The document's side: names, Reads, Deep. PRINTED by gen34.py. The document's side: Reads, Deep. PRINTED by gen35.py. -/
import Derived.Test.YtpjcmhlgdgadjaaKm
import Derived.Test.YtpjcmhlgdgadjaaKi
import Derived.Test.YtpjcmhlgdgadjaaKg
namespace Go.Proofs.Ytpjcmhlgdgadjaa
open Go.RowKit
set_option linter.unusedVariables false
def NamesEnd (w : World) (l : List Tr) (e : Ending) (w' : World) : Prop := ∃ o, e = .returned o ∧ OutAt 9 1 w (namesL l).length ((namesL l).map Value.string) o w'
set_option maxRecDepth 100000 in
set_option maxHeartbeats 3200000 in
theorem rnames_any (N : Nat) : ∀ (l : List Tr), szL l ≤ N → szL l ≤ 1048576 → ∀ (A : Nat → Prop) (w : World) (v : Value), (∀ b, A b → b < w.heap.size) → RowAt A w 5 v l → (∀ x ∈ l, Lies A w .part x) → Calls Try.prog 54 #[v] w (NamesEnd w l) := by
  induction N with
  | zero =>
    intro l hl _ A w v _ hr _
    have hn : l = [] := by
      cases l with
      | nil => rfl
      | cons p r => have := p.sz_pos; simp only [szL] at hl; omega
    subst hn
    obtain ⟨a, c, rfl⟩ := hr.form
    clear hr
    go_enter Try.func54, Try.ntmps54
    go_wp2
    go_loop [3, 4] (fun o i => o = .slice none 0 0 ∧ i = .int .i64 0) (fun _ _ => 0)
    case atStart => exact ⟨rfl, rfl⟩
    case round =>
      obtain ⟨rfl, rfl⟩ := hrel
      go_wp2
      go_ret
      exact ⟨_, rfl, by rw [namesL_nil]; exact OutAt.nil _ _ _⟩
  | succ N ih =>
    intro l hN hsz A w v hA hr hk
    have hlen := hr.len
    obtain ⟨a, c, rfl⟩ := hr.form
    have HA := Lib.hid hA
    have HR := Lib.hid hr
    have HK := Lib.hid hk
    have HIH := Lib.hid ih
    have HSZ := Lib.hid hsz
    have HN := Lib.hid hN
    have hEl := ElStr
    clear ih hsz hN hA hr hk
    go_enter Try.func54, Try.ntmps54
    go_wp2
    go_loopw [3, 4] (fun o i wr => ∃ k : Nat, k ≤ l.length ∧ i = .int .i64 k ∧ Hid (OutAt 9 1 w (namesL (l.take k)).length ((namesL (l.take k)).map Value.string) o wr)) (fun _ i _ => l.length - (intOf i).toNat)
    case atStart => exact ⟨0, Nat.zero_le _, rfl, Lib.hid (by rw [List.take_zero, namesL_nil]; exact OutAt.nil _ _ _)⟩
    case round =>
      obtain ⟨k, hk, rfl, hS⟩ := hrel
      by_cases hlt : k < l.length
      · have hx := List.getElem?_eq_getElem hlt
        have hsn := namesL_snoc l k hlt
        have hle : (namesL (l.take (k + 1))).length ≤ 1048576 := Nat.le_trans (namesL_len _ _ (Nat.le_refl _)) (Nat.le_trans (szL_take _ _) HSZ.out)
        have hp := HK.out l[k] (List.getElem_mem hlt)
        have hszp : l[k].sz ≤ szL l := szL_mem (List.getElem_mem hlt)
        obtain ⟨b, off, rfl, hAb, hb0, hcell⟩ := cells_at HR.out hx
        rw [hsn, List.length_append, List.length_append] at hle
        have HSN := Lib.hid hsn
        clear hsn hx
        generalize l[k] = p at *
        generalize namesL (l.take k) = Q at *
        have hpk := hp.kids (i := 3) (u := .part) rfl
        have hkr := hp.row (i := 3) (u := .part) rfl
        have hsz3 := p.sz_r 3
        have hcall : ∀ y, Below w.heap.size w y → Calls Try.prog 54 #[p.c 3] y (NamesEnd y (p.r 3)) := fun y hy =>
          HIH.out (p.r 3) (by have := HN.out; omega) (by have := HSZ.out; omega) A y _ (fun b hb => Nat.lt_of_lt_of_le (HA.out b hb) hy.size) (hkr.later HA.out hy) (fun x hx => (hpk x hx).later HA.out hy)
        obtain ⟨pk, ps, po, pa, pc, na, nc, kids, ns, rfl, q1, q2, h3, h4, h5, h6⟩ := hp.part
        have hr3 : (Tr.mk [.int .i64 pk, .string ps, .string po, .slice pa kids.length pc, .slice na ns.length nc] [[], [], [], kids, ns]).r 3 = kids := rfl
        have hc3 : (Tr.mk [.int .i64 pk, .string ps, .string po, .slice pa kids.length pc, .slice na ns.length nc] [[], [], [], kids, ns]).c 3 = .slice pa kids.length pc := rfl
        have hnp : nameP (.mk [.int .i64 pk, .string ps, .string po, .slice pa kids.length pc, .slice na ns.length nc] [[], [], [], kids, ns]) = if pk = 5 ∧ nameB ps.data.toList = true then [ps] else [] := rfl
        rw [hr3] at hle HSN hcall
        rw [hc3] at hcall
        rw [hnp] at hle HSN
        unfold NamesEnd at hcall
        obtain ⟨Ao, oc, rfl, ho, hbw⟩ := hS.out
        have e0 := (hbw.cell (p := ⟨b, off + k * 5, none⟩) hb0).trans (hcell 0 (by omega))
        have e1 := (hbw.cell (p := ⟨b, off + k * 5 + 1, none⟩) hb0).trans (hcell 1 (by omega))
        have e3 := (hbw.cell (p := ⟨b, off + k * 5 + 3, none⟩) hb0).trans (hcell 3 (by omega))
        simp only [Tr.cs, List.getElem?_cons_zero, List.getElem?_cons_succ] at e0 e1 e3
        have h3c : ∀ y, Below w.heap.size w y → y.cell? ⟨b, off + k * 5 + 3, none⟩ = some (.slice pa kids.length pc) := fun y hy => (hy.cell (p := ⟨b, off + k * 5 + 3, none⟩) hb0).trans (hcell 3 (by omega))
        have hyl : ((namesL kids).map Value.string).length = (namesL kids).length := List.length_map _
        have hms := mapS (namesL kids)
        generalize hkn : namesL kids = nk at *
        generalize hks : nk.map Value.string = ys at *
        generalize hkm : nk.length = kn at *
        have HKS := Lib.hid hks
        have HKM := Lib.hid hkm
        generalize hxs : Q.map Value.string = xs at *
        generalize hxl : Q.length = n at *
        have HXS := Lib.hid hxs
        have HXL := Lib.hid hxl
        have HCALL := Lib.hid hcall
        have HMS := Lib.hid hms
        have H3C := Lib.hid h3c
        have HO := Lib.hid ho
        have HB := Lib.hid hbw
        have hbs := hbw.size
        clear hcell hcall hp hpk hkr h3 h4 h5 h6 hr3 hc3 hnp ho hbw hms h3c hks hkm hkn hxs hxl HIH HR HK q2 hszp hsz3 HSZ HN hyl hS
        by_cases h5 : pk = 5 ∧ nameB ps.data.toList = true
        · obtain ⟨rfl, hnb⟩ := h5
          have hnm := rname_any ps (by omega) wr
          rw [hnb] at hnm
          rw [if_pos ⟨rfl, hnb⟩] at hle HSN
          simp only [List.length_cons, List.length_nil] at hle
          have HNM := Lib.hid hnm
          clear hnm hnb
          go_wp2_with (first
            | (go_at_call 66; refine HNM.out.mono ?_; rintro e w2 ⟨rfl, hw2⟩; subst hw2)
            | (at_builtin; refine wpList_app ElStr (.tmp 25) (.tmp 31) rfl rfl (base := w.heap.size) (n := n) (m := 1) (N := n + 1) (v := .slice Ao n oc) (src := .slice (some ⟨wr.heap.size, 0, none⟩) 1 1) (xs := xs) (news := [.string ps]) rfl rfl (HO.out.alloc _) (one_src (e := 0) rfl) rfl (by unfold maxLen; omega) (by omega) (by simp; omega) ?_
               intro A2 c2 w2 r1 r2 r3
               have hk2 : Keeps w.heap.size [9] wr w2 := ((Keeps.refl w.heap.size [9] wr).alloc _).trans r2
               have HK2 := Lib.hid hk2
               have hb2 := HB.out.trans (hk2.below hbs)
               have g3 := H3C.out w2 hb2
               have HB2 := Lib.hid hb2
               have HR2 := Lib.hid r1
               have hz2 := hk2.size
               clear r1 r2 r3 hk2 hb2)
            | (go_at_call 54; refine (HCALL.out w2 HB2.out).mono ?_; rintro e w3 ⟨o, rfl, A3, c3, rfl, ho3, hb3⟩
               have HB3 := Lib.hid hb3
               have HO3 := Lib.hid (own_below HR2.out hb3)
               have HS3 := Lib.hid (SrcOK.own ho3 HMS.out)
               have hz3 := hb3.size
               clear ho3 hb3)
            | (at_builtin; refine wpList_app ElStr (.tmp 33) (.tmp 39) rfl rfl (base := w.heap.size) (n := n + 1) (m := kn) (N := n + (1 + kn)) (v := .slice A2 (n + 1) c2) (src := .slice A3 kn c3) (xs := xs ++ [.string ps]) (news := ys) rfl rfl HO3.out HS3.out (by omega) (by unfold maxLen; omega) (by omega) (by omega) ?_
               intro A9 c9 w9 r1 r2 r3
               have HF := Lib.hid (out_app HB.out r1 ((HK2.out.trans (Keeps.of_below HB3.out)).trans r2))
               clear r1 r2 r3))
          go_roundw
          case rel => exact ⟨k + 1, by omega, by go_num, Lib.hid (by
            rw [HSN.out, List.length_append, List.length_append, List.map_append, List.map_append, HXS.out, HXL.out, HKS.out, HKM.out, ← List.append_assoc]
            exact HF.out)⟩
          case measure => simp [intOf]; omega
        · rw [if_neg h5] at hle HSN
          simp only [List.length_nil] at hle
          rw [List.nil_append] at HSN
          by_cases h5b : pk = 5
          · subst h5b
            have hnb : nameB ps.data.toList = false := by simpa using h5
            have hnm := rname_any ps (by omega) wr
            rw [hnb] at hnm
            have HNM := Lib.hid hnm
            clear hnm hnb h5
            go_wp2_with (first
              | (go_at_call 66; refine HNM.out.mono ?_; rintro e w2 ⟨rfl, hw2⟩; subst hw2)
              | (go_at_call 54; refine (HCALL.out wr HB.out).mono ?_; rintro e w3 ⟨o, rfl, A3, c3, rfl, ho3, hb3⟩
                 have HB3 := Lib.hid hb3
                 have HO3 := Lib.hid (own_below HO.out hb3)
                 have HS3 := Lib.hid (SrcOK.own ho3 HMS.out)
                 have hz3 := hb3.size
                 clear ho3 hb3)
              | (at_builtin; refine wpList_app ElStr (.tmp 33) (.tmp 39) rfl rfl (base := w.heap.size) (n := n) (m := kn) (N := n + kn) (v := .slice Ao n oc) (src := .slice A3 kn c3) (xs := xs) (news := ys) rfl rfl HO3.out HS3.out rfl (by unfold maxLen; omega) (by omega) (by omega) ?_
                 intro A9 c9 w9 r1 r2 r3
                 have HF := Lib.hid (out_app HB.out r1 ((Keeps.of_below HB3.out).trans r2))
                 clear r1 r2 r3))
            go_roundw
            case rel => exact ⟨k + 1, by omega, by go_num, Lib.hid (by
              rw [HSN.out, List.length_append, List.map_append, HXS.out, HXL.out, HKS.out, HKM.out]
              exact HF.out)⟩
            case measure => simp [intOf]; omega
          · have hq : (pk == 5) = false := by simpa using h5b
            clear h5
            go_wp2_with (first
              | (go_at_call 54; refine (HCALL.out wr HB.out).mono ?_; rintro e w3 ⟨o, rfl, A3, c3, rfl, ho3, hb3⟩
                 have HB3 := Lib.hid hb3
                 have HO3 := Lib.hid (own_below HO.out hb3)
                 have HS3 := Lib.hid (SrcOK.own ho3 HMS.out)
                 have hz3 := hb3.size
                 clear ho3 hb3)
              | (at_builtin; refine wpList_app ElStr (.tmp 33) (.tmp 39) rfl rfl (base := w.heap.size) (n := n) (m := kn) (N := n + kn) (v := .slice Ao n oc) (src := .slice A3 kn c3) (xs := xs) (news := ys) rfl rfl HO3.out HS3.out rfl (by unfold maxLen; omega) (by omega) (by omega) ?_
                 intro A9 c9 w9 r1 r2 r3
                 have HF := Lib.hid (out_app HB.out r1 ((Keeps.of_below HB3.out).trans r2))
                 clear r1 r2 r3))
            go_roundw
            case rel => exact ⟨k + 1, by omega, by go_num, Lib.hid (by
              rw [HSN.out, List.length_append, List.map_append, HXS.out, HXL.out, HKS.out, HKM.out]
              exact HF.out)⟩
            case measure => simp [intOf]; omega
      · obtain rfl : k = l.length := by omega
        rw [List.take_length] at hS
        go_wp2
        go_ret
        exact ⟨_, rfl, hS.out⟩
theorem rNames_any {A : Nat → Prop} {w : World} {t : Tr} (hsz : t.sz ≤ 1048576) (hA : ∀ b, A b → b < w.heap.size) (hl : Lies A w .word t) :
    Calls Try.prog 40 #[.agg t.cs.toArray] w fun e w' => ∃ o, e = .returned o ∧ OutAt 9 1 w (namesL (t.r 0)).length ((namesL (t.r 0)).map Value.string) o w' := by
  obtain ⟨pa, pc, ps, rfl, hr, hk⟩ := hl.word
  have e0 : (Tr.mk [.slice pa ps.length pc] [ps]).r 0 = ps := rfl
  have hz : szL ps ≤ 1048576 := by
    have h2 : szL ps < (Tr.mk [.slice pa ps.length pc] [ps]).sz := Tr.sz_r (Tr.mk [.slice pa ps.length pc] [ps]) 0
    omega
  rw [e0]
  simp only [Tr.cs]
  have HN := Lib.hid (rnames_any _ ps (Nat.le_refl _) hz A (w.alloc (.cells #[.slice pa ps.length pc] 41)) _ (fun b hb => by have := hA b hb; simp; omega) (hr.later hA (below_alloc _ _)) (fun x hx => (hk x hx).later hA (below_alloc _ _)))
  unfold NamesEnd at HN
  clear hr hk hA hl e0
  go_enter Try.func40, Try.ntmps40
  go_wp2_with (go_at_call 54; refine HN.out.mono ?_; rintro e w2 ⟨o, rfl, hO⟩
               have HO := Lib.hid hO
               clear hO)
  go_ret
  exact ⟨_, rfl, HO.out.base (below_alloc _ _)⟩
end Go.Proofs.Ytpjcmhlgdgadjaa

namespace Go.Proofs.Ytpjcmhlgdgadjaa
open Go.RowKit
set_option linter.unusedVariables false
set_option maxRecDepth 100000 in
set_option maxHeartbeats 3200000 in
theorem rreads_any {A : Nat → Prop} {w : World} {t : Tr} (hsz : t.sz ≤ 1048576) (hA : ∀ b, A b → b < w.heap.size) (hl : Lies A w .node t) :
    Calls Try.prog 19 #[.agg t.cs.toArray] w fun e w' => ∃ o, e = .returned o ∧ OutAt 9 1 w (reads t).length ((reads t).map Value.string) o w' := by
  have hrs := reads_sz t
  have hws := wordsOf_len t
  have hwl := words_lies hl
  obtain ⟨zk, zs, z1, z2, zoa, zon, zoc, zaa, zan, zac, zwa, zwn, zwc, zra, zrn, zrc, zma, zmn, zmc, zka, zkn, zkc, hcs⟩ := hl.node10
  have hw := rWords_any (w := w.alloc (.cells t.cs.toArray 28)) hsz (fun b hb => by have := hA b hb; simp; omega) (hl.later hA (below_alloc _ _))
  unfold reads at *
  generalize wordsOf t = ws at *
  rw [hcs] at hw ⊢
  have HW := Lib.hid hw
  have HWL := Lib.hid hwl
  have HA := Lib.hid hA
  have hlen : ws.length ≤ 1048576 := by omega
  have hbx := Blk.new w 28 #[.int .i64 zk, .string zs, .bool z1, .bool z2, .slice zoa zon zoc, .slice zaa zan zac, .slice zwa zwn zwc, .slice zra zrn zrc, .slice zma zmn zmc, .slice zka zkn zkc]
  have HNL : Hid (∀ j, ((ws.take j).flatMap wnames).length ≤ 1048576) := Lib.hid (fun j => by
    obtain ⟨q, hq⟩ := List.take_prefix j ws
    have : ((ws.take j).flatMap wnames).length ≤ (ws.flatMap wnames).length := by
      conv => rhs; rw [← hq, List.flatMap_append, List.length_append]
      omega
    omega)
  clear hw hwl hA hl hcs hbx
  go_enter Try.func19, Try.ntmps19
  go_wp2_with (go_at_call 14; refine HW.out.mono ?_; rintro e w2 ⟨o, rfl, hO⟩
               have hbb : Below w.heap.size w w2 := (below_alloc w _).trans (hO.below.mono (by simp))
               have hrow := hO.row hlen (fun x hx => ((HWL.out x hx).1).len)
               obtain ⟨Ao, oc, rfl⟩ := hrow.form
               have HR := Lib.hid hrow
               have HBB := Lib.hid hbb
               have hz2 := hbb.size
               clear hrow hbb hO)
  go_loopw [3, 5] (fun o i wr => ∃ k : Nat, k ≤ ws.length ∧ i = .int .i64 k ∧ Hid (OutAt 9 1 w2 ((ws.take k).flatMap wnames).length (((ws.take k).flatMap wnames).map Value.string) o wr)) (fun _ i _ => ws.length - (intOf i).toNat)
  case atStart => exact ⟨0, Nat.zero_le _, rfl, Lib.hid (by simpa using OutAt.nil _ _ _)⟩
  case round =>
    obtain ⟨k, hk, rfl, hO⟩ := hrel
    by_cases hlt : k < ws.length
    · have hx := List.getElem?_eq_getElem hlt
      obtain ⟨b, off, rfl, hAb, hb0, hcell⟩ := cells_at HR.out hx
      obtain ⟨hp, hpz⟩ := HWL.out ws[k] (List.getElem_mem hlt)
      have hsn := flat_snoc (f := wnames) hlt
      have hnl := HNL.out (k + 1)
      rw [hsn, List.length_append] at hnl
      have HSN := Lib.hid hsn
      clear hsn hx
      generalize ws[k] = p at *
      obtain ⟨Ao, so, rfl, ho, hbw⟩ := hO.out
      have e0 := (hbw.cell (p := ⟨b, off + k, none⟩) hb0).trans (by simpa using hcell 0 (by omega))
      have hwr := HBB.out.trans (hbw.mono hz2)
      have hzr := hbw.size
      have hnm : ∀ y, Below wr.heap.size wr y → Calls Try.prog 40 #[.agg p.cs.toArray] y fun e w' => ∃ o, e = .returned o ∧ OutAt 9 1 y (wnames p).length ((wnames p).map Value.string) o w' := fun y hy =>
        rNames_any (by omega) (fun b hb => by have := HA.out b hb; have := hy.size; omega) (hp.later HA.out (hwr.trans (hy.mono (by omega))))
      have hyl : ((wnames p).map Value.string).length = (wnames p).length := List.length_map _
      obtain ⟨pa, pc, ps, hpe, -, -⟩ := hp.word
      have hpc : p.cs = [.slice pa ps.length pc] := by rw [hpe]; rfl
      rw [hpc] at e0 hnm
      simp only [List.getElem?_cons_zero] at e0
      clear hpe hp hpc hcell hO hwr
      have HYL := Lib.hid hyl
      generalize wnames p = nm at *
      generalize hxn : (ws.take k).flatMap wnames = xs at *
      have HNM := Lib.hid hnm
      have HO := Lib.hid ho
      have HBW := Lib.hid hbw
      have hms := mapS nm
      generalize hms2 : nm.map Value.string = ys at *
      generalize hml : nm.length = m at *
      generalize hxs2 : xs.map Value.string = zs' at *
      generalize hxl : xs.length = n at *
      have HMS := Lib.hid hms
      have HX1 := Lib.hid hms2
      have HX2 := Lib.hid hml
      have HX3 := Lib.hid hxs2
      have HX4 := Lib.hid hxl
      clear hnm ho hbw hxn hms hms2 hml hxs2 hxl hyl
      go_wp2_with (first
        | (go_at_call 40; refine (HNM.out _ (Below.refl _ _)).mono ?_; rintro e w3 ⟨o3, rfl, A3, c3, rfl, ho3, hb3⟩
           have hb3' : Below wr.heap.size wr w3 := hb3
           have HO3 := Lib.hid (own_below HO.out hb3')
           have HS3 := Lib.hid (SrcOK.own ho3 HMS.out)
           have hz3 := hb3'.size
           have HB3 := Lib.hid hb3'
           clear ho3 hb3')
        | (at_builtin; refine wpList_app ElStr (.tmp 14) (.tmp 19) rfl rfl (base := w2.heap.size) (n := n) (m := m) (N := n + m) (v := .slice Ao n so) (src := .slice A3 m c3) (xs := zs') (news := ys) rfl rfl HO3.out HS3.out rfl (by unfold maxLen; omega) (by omega) (by omega) ?_
           intro A9 c9 w9 r1 r2 r3
           have HF := Lib.hid (out_app HBW.out r1 ((Keeps.of_below HB3.out).trans r2))
           clear r1 r2 r3))
      go_roundw
      case rel => exact ⟨k + 1, by omega, by go_num, Lib.hid (by rw [HSN.out, List.length_append, List.map_append, HX1.out, HX2.out, HX3.out, HX4.out]; exact HF.out)⟩
      case measure => simp [intOf]; omega
    · obtain rfl : k = ws.length := by omega
      rw [List.take_length] at hO
      go_wp2
      go_ret
      exact ⟨_, rfl, hO.out.base HBB.out⟩
set_option maxRecDepth 100000 in
set_option maxHeartbeats 3200000 in
theorem rdeep_any (N : Nat) : ∀ t : Tr, t.sz ≤ N → t.sz ≤ 1048576 → ∀ (A : Nat → Prop) (w : World), (∀ b, A b → b < w.heap.size) → Lies A w .node t →
    Calls Try.prog 24 #[.agg t.cs.toArray] w fun e w' => e = .returned (.int .i64 (deep t)) ∧ Below w.heap.size w w' := by
  induction N with
  | zero => intro t ht; have := t.sz_pos; omega
  | succ N ih =>
  intro t hN hsz A w hA hl
  obtain ⟨zk, zs, z1, z2, zoa, zon, zoc, zaa, zan, zac, zwa, zwn, zwc, zra, zrn, zrc, zma, zmn, zmc, zka, zkn, zkc, hcs⟩ := hl.node10
  have hb := rbelow_any hsz (w := w.alloc (.cells t.cs.toArray 28)) (fun b hb => by have := hA b hb; simp; omega) (hl.later hA (below_alloc _ _))
  have hbl := below_lies hl
  have hbn : (below t).length ≤ 1048576 := Nat.le_trans (szL_len _) (by have := sz_below t; omega)
  have hds := deepL_sz t
  have HIH : Hid (∀ x ∈ below t, ∀ y, Below w.heap.size w y → Calls Try.prog 24 #[.agg x.cs.toArray] y fun e w' => e = .returned (.int .i64 (deep x)) ∧ Below y.heap.size y w') := Lib.hid (fun x hx y hy => by
    have h1 := szL_mem hx
    have h2 := sz_below t
    exact ih x (by omega) (by omega) A y (fun b hb => by have := hA b hb; have := hy.size; omega) ((hbl x hx).later hA hy))
  have HPL : Hid (∀ pre, pre <+: below t → deepL pre ≤ deepL (below t)) := Lib.hid (fun pre hp => deepL_pre hp)
  have HBL := Lib.hid hbl
  have hdt : deep t = 1 + deepL (below t) := rfl
  rw [hdt]
  generalize below t = xs at *
  rw [hcs] at hb ⊢
  have HB := Lib.hid hb
  clear hb hbl ih hl hA hcs hdt
  go_enter Try.func24, Try.ntmps24
  go_wp2_with (go_at_call 34; refine HB.out.mono ?_; rintro e w1 ⟨o, rfl, Ab, cb, rfl, hob, hb1⟩
               have HOB := Lib.hid hob
               have HB1 := Lib.hid ((below_alloc w _).trans (hb1.mono (by simp)))
               clear hob hb1)
  clear HB
  go_loopw [3, 5] (fun d i wr => ∃ k : Nat, k ≤ xs.length ∧ i = .int .i64 k ∧ d = .int .i64 (deepL (xs.take k)) ∧ Hid (Below w1.heap.size w1 wr)) (fun _ i _ => xs.length - (intOf i).toNat)
  case atStart => exact ⟨0, Nat.zero_le _, rfl, by rw [List.take_zero, deepL_nil]; rfl, Lib.hid (Below.refl _ _)⟩
  case round =>
    obtain ⟨k, hk, rfl, rfl, hS⟩ := hrel
    by_cases hlt : k < xs.length
    · obtain ⟨m, hm⟩ : ∃ m, xs.length = m + 1 := ⟨xs.length - 1, by omega⟩
      obtain ⟨gb, rfl, -, hgb⟩ : ∃ g, Ab = some ⟨g, 0, none⟩ ∧ _ ≤ g ∧ g < w1.heap.size := by have h1 := HOB.out; rw [hm] at h1; exact own_some h1
      have hx := HBL.out xs[k] (List.getElem_mem hlt)
      have hcell := own_tree HOB.out (fun x hx => (HBL.out x hx).len) rfl k hlt
      have hsn : deepL (xs.take (k + 1)) = max (deepL (xs.take k)) (deep xs[k]) := by rw [List.take_succ_eq_append_getElem hlt, deepL_append, deepL_one]
      have hpl := HPL.out _ (List.take_prefix (k + 1) xs)
      rw [hsn] at hpl
      have HSN := Lib.hid hsn
      have hw1 := HB1.out.size
      have hwr := hS.out.size
      have hcall := HIH.out xs[k] (List.getElem_mem hlt) wr (HB1.out.trans (hS.out.mono (by omega)))
      clear hsn hm
      generalize xs[k] = p at *
      obtain ⟨yk, ys, y1, y2, yoa, yon, yoc, yaa, yan, yac, ywa, ywn, ywc, yra, yrn, yrc, yma, ymn, ymc, yka, ykn, ykc, hpc⟩ := hx.node10
      have hbo := hS.out
      have e0 := (hbo.cell (p := ⟨gb, k * 10, none⟩) hgb).trans (hcell 0 (by omega))
      have e1 := (hbo.cell (p := ⟨gb, k * 10 + 1, none⟩) hgb).trans (hcell 1 (by omega))
      have e2 := (hbo.cell (p := ⟨gb, k * 10 + 2, none⟩) hgb).trans (hcell 2 (by omega))
      have e3 := (hbo.cell (p := ⟨gb, k * 10 + 3, none⟩) hgb).trans (hcell 3 (by omega))
      have e4 := (hbo.cell (p := ⟨gb, k * 10 + 4, none⟩) hgb).trans (hcell 4 (by omega))
      have e5 := (hbo.cell (p := ⟨gb, k * 10 + 5, none⟩) hgb).trans (hcell 5 (by omega))
      have e6 := (hbo.cell (p := ⟨gb, k * 10 + 6, none⟩) hgb).trans (hcell 6 (by omega))
      have e7 := (hbo.cell (p := ⟨gb, k * 10 + 7, none⟩) hgb).trans (hcell 7 (by omega))
      have e8 := (hbo.cell (p := ⟨gb, k * 10 + 8, none⟩) hgb).trans (hcell 8 (by omega))
      have e9 := (hbo.cell (p := ⟨gb, k * 10 + 9, none⟩) hgb).trans (hcell 9 (by omega))
      rw [hpc] at e0 e1 e2 e3 e4 e5 e6 e7 e8 e9 hcall
      simp only [List.getElem?_cons_zero, List.getElem?_cons_succ] at e0 e1 e2 e3 e4 e5 e6 e7 e8 e9
      have HCALL := Lib.hid hcall
      generalize hP : deepL (xs.take k) = n at *
      generalize hD : deep p = m at *
      clear hx hcell hcall hpc hbo hP hD
      go_wp2_with (go_at_call 24; refine HCALL.out.mono ?_; rintro e w3 ⟨rfl, hb3⟩
                   have HB3 := Lib.hid (hS.out.trans (hb3.mono hwr))
                   clear hb3)
      all_goals
        go_roundw
        case rel => exact ⟨k + 1, by omega, by go_num, by rw [HSN.out]; congr 1; omega, HB3⟩
        case measure => simp [intOf]; omega
    · obtain rfl : k = xs.length := by omega
      rw [List.take_length]
      go_wp2
      go_ret
      refine ⟨by go_num, HB1.out.trans (hS.out.mono HB1.out.size)⟩
end Go.Proofs.Ytpjcmhlgdgadjaa
