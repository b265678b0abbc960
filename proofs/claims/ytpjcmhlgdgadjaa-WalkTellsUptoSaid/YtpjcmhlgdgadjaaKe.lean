/- The first nodes of a node. All words of a node. -/
import Derived.Test.YtpjcmhlgdgadjaaKd
namespace Go.Proofs.Ytpjcmhlgdgadjaa
open Go.RowKit
set_option linter.unusedVariables false
theorem flat_cs (l : List Tr) (x : Tr) : (l ++ [x]).flatMap Tr.cs = l.flatMap Tr.cs ++ x.cs := by simp
theorem pre_take {α : Type} {pre l : List α} (h : pre <+: l) : pre = l.take pre.length := by
  obtain ⟨q, rfl⟩ := h; simp
set_option maxRecDepth 100000 in
set_option maxHeartbeats 3200000 in
theorem nodes_any {A : Nat → Prop} {w : World} {t : Tr} {most : Int} (hsz : t.sz ≤ 1048576) (hA : ∀ b, A b → b < w.heap.size) (hl : Lies A w .node t) (hm1 : -9223372036854775808 ≤ most) (hm2 : most ≤ 9223372036854775807) :
    Calls Try.prog 8 #[.agg t.cs.toArray, .int .i64 most] w fun e w' => ∃ o, e = .returned o ∧ OutAt 28 10 w ((all t).take most.toNat).length (((all t).take most.toNat).flatMap Tr.cs) o w' := by
  by_cases h0 : most ≤ 0
  · have hz : most.toNat = 0 := by omega
    rw [hz, List.take_zero]
    obtain ⟨zk, zs, z1, z2, zoa, zon, zoc, zaa, zan, zac, zwa, zwn, zwc, zra, zrn, zrc, zma, zmn, zmc, zka, zkn, zkc, hcs⟩ := hl.node10
    rw [hcs]
    clear hl hcs
    go_enter Try.func8, Try.ntmps8
    go_wp2
    go_ret
    exact ⟨_, rfl, none, 0, rfl, ⟨by simp, .inl ⟨rfl, rfl⟩⟩, ((below_alloc w _).alloc (by simp) _).alloc (by simp; omega) _⟩
  · obtain ⟨W0, hW0⟩ : ∃ W0, ((w.alloc (.cells t.cs.toArray 28)).alloc (.cells #[.int .i64 most] 3)).alloc (.cells #[.slice none 0 0] 26) = W0 := ⟨_, rfl⟩
    obtain ⟨W, hW⟩ : ∃ W, W0.alloc (.cells t.cs.toArray 28) = W := ⟨_, rfl⟩
    have hb0 : Below w.heap.size w W0 := by rw [← hW0]; exact ((below_alloc w _).alloc (by simp) _).alloc (by simp; omega) _
    have hs0 : W0.heap.size = w.heap.size + 3 := by rw [← hW0]; simp
    have hs : W.heap.size = w.heap.size + 4 := by rw [← hW]; simp [hs0]
    have hbW : Below W0.heap.size W0 W := by rw [← hW]; exact below_alloc _ _
    have hx0 : Blk W0 w.heap.size 28 t.cs.toArray := by rw [← hW0]; exact ((Blk.new w 28 _).alloc _).alloc _
    have hm0 : Blk W0 (w.heap.size + 1) 3 #[.int .i64 most] := by
      rw [← hW0]
      have := (Blk.new (w.alloc (.cells t.cs.toArray 28)) 3 #[.int .i64 most]).alloc (.cells #[.slice none 0 0] 26)
      rwa [World.size_alloc] at this
    have ho0 : Blk W0 (w.heap.size + 2) 26 #[.slice none 0 0] := by
      rw [← hW0]
      have := Blk.new ((w.alloc (.cells t.cs.toArray 28)).alloc (.cells #[.int .i64 most] 3)) 26 #[.slice none 0 0]
      rwa [World.size_alloc, World.size_alloc] at this
    have hxW : Blk W W0.heap.size 28 t.cs.toArray := by rw [← hW]; exact Blk.new _ _ _
    have hbw : Below w.heap.size w W := hb0.trans (hbW.mono hb0.size)
    have hlW : Lies (fun b => A b ∨ b = W0.heap.size) W .node t := hl.keep (fun _ => .inl) hbw.size (fun b hb => hbw.block b (hA b hb))
    have hfn := all_fn (w := W0) hl
    rw [hW] at hfn
    have hlen := all_sz t
    have hall : ∀ x ∈ all t, Lies A w .node x := all_lies _ [t] (Nat.le_refl _) (by simpa using hl)
    have hc := all1_clo (F := 31) (p1 := .pointer (some ⟨w.heap.size + 2, 0, none⟩)) (p2 := .pointer (some ⟨w.heap.size + 1, 0, none⟩)) (fun _ _ => by kernel_rfl) hsz (A := fun b => A b ∨ b = W0.heap.size) (W := W) (bx := W0.heap.size)
      (fun b hb => hb.elim (fun h => by have := hA b h; omega) (fun h => by omega)) (.inr rfl) hlW hxW
      (J := fun pre A' W' => (pre.length : Int) < most ∧ OutBox 28 10 26 w (w.heap.size + 2) pre.length (pre.flatMap Tr.cs) A' W' ∧ Blk W' (w.heap.size + 1) 3 #[.int .i64 most])
      (Jx := fun _ A' W' => ∃ pre, (pre.length : Int) = most ∧ pre <+: all t ∧ OutBox 28 10 26 w (w.heap.size + 2) pre.length (pre.flatMap Tr.cs) A' W')
      (by
        rintro pre A1 A2 U U' ⟨h1, h2, h3⟩ hc hA'
        exact ⟨h1, h2.shy (by omega) hc hA', hc.blk h3 (fun h => by omega)⟩)
      (by
        rintro _ A1 A2 U U' ⟨pre, h1, h2, h3⟩ hc hA'
        exact ⟨pre, h1, h2, h3.shy (by omega) hc hA'⟩)
      (by
        rintro pre x A' W1 ⟨h1, h2, h3⟩ hpre hsup hlt
        have hx := hall x (hpre.subset (by simp))
        have hpl := hpre.length_le
        simp at hpl
        refine (nodes1_any h2 hlt h3 (by omega) hx).mono ?_
        rintro e W' ⟨rfl, k1, k2, k3⟩
        refine ⟨k2.size, same_of_chg k2 hlt, ?_⟩
        by_cases hlt2 : ((pre.length + 1 : Nat) : Int) < most
        · refine .inl ⟨by rw [decide_eq_true hlt2], by simpa using hlt2, ?_, k3⟩
          rw [flat_cs, List.length_append]
          exact k1
        · refine .inr ⟨by rw [decide_eq_false hlt2], pre ++ [x], by simp; omega, hpre, ?_⟩
          rw [flat_cs, List.length_append]
          exact k1)
      (by
        refine ⟨by simp; omega, ⟨by omega, ?_, .slice none 0 0, ho0.below hbW (by omega), ⟨none, 0, rfl, ⟨by simp, .inl ⟨rfl, rfl⟩⟩, hbw⟩, fun b hb => by cases hb⟩, hm0.below hbW (by omega)⟩
        rintro (h | h)
        · have := hA _ h; omega
        · omega)
    obtain ⟨zk, zs, z1, z2, zoa, zon, zoc, zaa, zan, zac, zwa, zwn, zwc, zra, zrn, zrc, zma, zmn, zmc, zka, zkn, zkc, hcs⟩ := hl.node10
    rw [hs0] at hc hfn
    have HC := Lib.hid hc
    rw [hcs] at hfn hW0 hx0
    have hnil : ∀ (y : World) (p : Value), (binOp BinOp.eql 54 (.func (.func 46) #[] #[p]) .nilFunc).run Try.prog y = .ok (.bool false) y := fun _ _ => by kernel_rfl
    have HFN := Lib.hid hfn
    have c0 := hx0.cell 0
    have c1 := hx0.cell 1
    have c2 := hx0.cell 2
    have c3 := hx0.cell 3
    have c4 := hx0.cell 4
    have c5 := hx0.cell 5
    have c6 := hx0.cell 6
    have c7 := hx0.cell 7
    have c8 := hx0.cell 8
    have c9 := hx0.cell 9
    have m0 := hm0.cell 0
    simp at c0 c1 c2 c3 c4 c5 c6 c7 c8 c9 m0
    have h0' : 0 < most := by omega
    rw [hcs]
    clear hc hfn hb0 hbW hx0 hm0 ho0 hxW hbw hlW hall hcs hl hA h0
    go_enter Try.func8, Try.ntmps8
    go_wp2_with (first
      | (go_at_call 30; refine HFN.out.mono ?_; rintro e w1 ⟨rfl, hw1⟩; rw [hw1]; clear hw1)
      | (go_at_call 46; refine HC.out.mono ?_; rintro e w2 ⟨⟨v, rfl⟩, A', hs1, hs2, hJ⟩
         have HE : Hid (∃ o, Blk w2 (w.heap.size + 2) 26 #[o] ∧ OutAt 28 10 w ((all t).take most.toNat).length (((all t).take most.toNat).flatMap Tr.cs) o w2) := Lib.hid (by
           rcases hJ with ⟨g1, ⟨-, -, o, g2, g3, -⟩, -⟩ | ⟨pre, g1, g2, -, -, o, g3, g4, -⟩
           · have : (all t).take most.toNat = all t := List.take_of_length_le (by omega)
             rw [this]
             exact ⟨o, g2, g3⟩
           · have hp := pre_take g2
             have : most.toNat = pre.length := by omega
             rw [this, ← hp]
             exact ⟨o, g3, g4⟩)
         clear hJ
         obtain ⟨o, g2, g3⟩ := HE.out
         have HO := Lib.hid g3
         have g0 := g2.cell 0
         simp at g0
         have g1 : w2.cell? ⟨w.heap.size + 1 + 1, 0, none⟩ = some o := g0
         clear HE g2 g3))
    go_ret
    exact ⟨_, rfl, HO.out⟩
end Go.Proofs.Ytpjcmhlgdgadjaa

namespace Go.Proofs.Ytpjcmhlgdgadjaa
open Go.RowKit
set_option linter.unusedVariables false
attribute [local go_sem] Oper.semAt_some
section
variable {F : Fence} {k : Nat}
theorem wpIn_app {P : Program} {w : World} {o : Oper} {a : Act} {K : Act → World → Prop} {Q : Exit → Act → World → Prop} {t e : TypeId} {size bytes : Nat} (E : El P t e size bytes) (s x : Operand)
    (ho : o.op = .call { callee := .builtin .append, args := #[s, x], argTypes := #[t, t] }) {base n m N : Nat} {v src : Value} {xs news : List Value} (hs : a.eval s = v) (hx : a.eval x = src)
    (hown : w.ownsRow base e size v n xs) (hsrc : SrcOK w src m size news) (hN : n + m = N) (h63 : N ≤ maxLen) (hbytes : N * bytes ≤ 140737488355328) (hbase : base ≤ w.heap.size)
    (h : ∀ A c w', w'.ownsRow base e size (.slice A N c) N (xs ++ news) → Keeps base [e] w w' → (w.grownBy w' v.ownBlock ∧ ((Value.slice A N c).ownBlock = v.ownBlock ∨ (Value.slice A N c).ownBlock = some w.heap.size)) → K (a.put o.dst (.slice A N c)) w') : o.wpIn F k P a w K Q := by
  obtain ⟨A, c, w', hr, r1, r2, r3⟩ := run_app (P := P) (ty := o.type) E hown hsrc hN h63 hbytes hbase
  unfold Oper.wpIn
  refine ⟨?_, ?_⟩
  · simp [Oper.about, ho, resolve, Target.leads, Sem.run_pure]
  · rw [Oper.semAt_plain F _ _ (by rw [ho]; intro c hc'; cases hc')]
    simp only [execOp, ho, resolve, invoke, builtin, Sem.run_bind, Sem.run_pure, Result.andThen_ok, List.map_toArray, List.map_cons, List.map_nil, hs, hx, hr]
    exact h A c w' r1 r2 r3
theorem wpListIn_app {P : Program} {w : World} {ops : Array Oper} {rest : List Oper} {o : Oper} {a : Act} {Q : Exit → Act → World → Prop} {t e : TypeId} {size bytes : Nat} (E : El P t e size bytes) (s x : Operand) (hgd : o.guard = none)
    (ho : o.op = .call { callee := .builtin .append, args := #[s, x], argTypes := #[t, t] }) {base n m N : Nat} {v src : Value} {xs news : List Value} (hs : a.eval s = v) (hx : a.eval x = src)
    (hown : w.ownsRow base e size v n xs) (hsrc : SrcOK w src m size news) (hN : n + m = N) (h63 : N ≤ maxLen) (hbytes : N * bytes ≤ 140737488355328) (hbase : base ≤ w.heap.size)
    (h : ∀ A c w', w'.ownsRow base e size (.slice A N c) N (xs ++ news) → Keeps base [e] w w' → (w.grownBy w' v.ownBlock ∧ ((Value.slice A N c).ownBlock = v.ownBlock ∨ (Value.slice A N c).ownBlock = some w.heap.size)) → wpListIn F k P ops Q rest (a.put o.dst (.slice A N c)) w') : wpListIn F k P ops Q (o :: rest) a w :=
  wpListIn_plain hgd fun _ hK => wpIn_app E s x ho hs hx hown hsrc hN h63 hbytes hbase fun A c w' r1 r2 r3 => hK _ _ (h A c w' r1 r2 r3)
theorem stepIn_app {P : Program} {w : World} {ops : Array Oper} {o : Oper} {a : Act} {K : Act → World → Prop} {Q : Exit → Act → World → Prop} {D : Prop} {t e : TypeId} {size bytes : Nat} (E : El P t e size bytes) (s x : Operand) (hgd : o.guard = none)
    (ho : o.op = .call { callee := .builtin .append, args := #[s, x], argTypes := #[t, t] }) {base n m N : Nat} {v src : Value} {xs news : List Value} (hs : a.eval s = v) (hx : a.eval x = src)
    (hown : w.ownsRow base e size v n xs) (hsrc : SrcOK w src m size news) (hN : n + m = N) (h63 : N ≤ maxLen) (hbytes : N * bytes ≤ 140737488355328) (hbase : base ≤ w.heap.size)
    (h : ∀ A c w', w'.ownsRow base e size (.slice A N c) N (xs ++ news) → Keeps base [e] w w' → (w.grownBy w' v.ownBlock ∧ ((Value.slice A N c).ownBlock = v.ownBlock ∨ (Value.slice A N c).ownBlock = some w.heap.size)) → K (a.put o.dst (.slice A N c)) w') :
    if Region.wanted o (yielded ops a.tmps) = true then Oper.wpIn F k P o a w K Q else D := by
  have hw : Region.wanted o (yielded ops a.tmps) = true := by simp [Region.wanted, hgd]
  rw [if_pos hw]
  exact wpIn_app E s x ho hs hx hown hsrc hN h63 hbytes hbase h
end
theorem own_and_below (n : Tr) : (own n).length + szL (below n) < n.sz := by
  have h0 : ∀ l : List Tr, l.length + szL (l.flatMap (fun w => inParts (w.r 0))) ≤ szL l := fun l => by
    induction l with
    | nil => simp [szL]
    | cons w l ih =>
      have h1 := sz_inParts _ (w.r 0) (Nat.le_refl _)
      have h2 := w.sz_r 0
      simp only [List.length_cons, List.flatMap_cons, szL_append, szL]
      omega
  have h1 := h0 (own n)
  have h2 := sz_arms (n.r 8)
  have h3 := sz_redirs (n.r 7)
  have h4 : szL (n.r 5) + szL (n.r 6) + szL (n.r 7) + szL (n.r 8) + szL (n.r 9) < n.sz := by
    cases n with
    | mk cs rows => have := szR_five rows; simp only [Tr.sz, Tr.r, Tr.rows]; omega
  have h5 : szL (own n) = szL (n.r 5) + szL (n.r 6) + szL ((n.r 7).map (fun r => wordOf (r.c 2) (r.r 2))) + szL ((n.r 8).flatMap (·.r 0)) := by
    simp only [own, szL_append]
  unfold below
  simp only [szL_append]
  omega
theorem words_len (N : Nat) : ∀ l, szL l ≤ N → ((allL l).flatMap own).length ≤ szL l := by
  induction N with
  | zero =>
    intro l h
    cases l with
    | nil => rw [allL_nil]; simp
    | cons p r => have := p.sz_pos; simp only [szL] at h; omega
  | succ N ih =>
    intro l
    induction l with
    | nil => intro _; rw [allL_nil]; simp
    | cons n r ihr =>
      intro h
      simp only [szL] at h ⊢
      have h1 := own_and_below n
      have h2 := ih (below n) (by omega)
      have h3 := ihr (by omega)
      rw [allL_cons, List.flatMap_cons, List.flatMap_append, List.length_append, List.length_append]
      omega
theorem wordsOf_len (t : Tr) : (wordsOf t).length ≤ t.sz := by
  have := words_len _ [t] (Nat.le_refl _)
  simpa [szL, wordsOf, all] using this
/-- A node among all nodes is no larger. -/
theorem szAll (N : Nat) : ∀ l : List Tr, szL l ≤ N → ∀ x ∈ allL l, x.sz ≤ szL l := by
  induction N with
  | zero =>
    intro l h
    cases l with
    | nil => intro x hx; rw [allL_nil] at hx; cases hx
    | cons p r => have := p.sz_pos; simp only [szL] at h; omega
  | succ N ih =>
    intro l
    induction l with
    | nil => intro _ x hx; rw [allL_nil] at hx; cases hx
    | cons n r ihr =>
      intro h x hx
      simp only [szL] at h ⊢
      have h1 := sz_below n
      rw [allL_cons, List.mem_cons, List.mem_append] at hx
      rcases hx with rfl | hx | hx
      · omega
      · have := ih (below n) (by omega) x hx; omega
      · have := ihr (by omega) x hx; omega
theorem flat_pre {β : Type} {f : Tr → List β} {pre l : List Tr} (h : pre <+: l) : (pre.flatMap f).length ≤ (l.flatMap f).length := by
  obtain ⟨q, rfl⟩ := h; simp
/-- At the return: the loop's record is shut. -/
theorem OutBox.fin {T m tb bx n : Nat} {w W : World} {xs : List Value} {A : Nat → Prop} (h : OutBox T m tb w bx n xs A W) {D : Nat} (hD : w.heap.size ≤ D) (hAD : A D) (o' : Obj) : OutBox T m tb w bx n xs A (W.putObj D o') :=
  h.shy (Nat.le_refl _) ((Chg.refl _ _).put (.inr ⟨hD, hAD⟩) _) (fun _ => .inl)
set_option maxRecDepth 100000 in
set_option maxHeartbeats 3200000 in
theorem words_any {A : Nat → Prop} {w : World} {t : Tr} (hsz : t.sz ≤ 1048576) (hA : ∀ b, A b → b < w.heap.size) (hl : Lies A w .node t) :
    Calls Try.prog 13 #[.agg t.cs.toArray] w fun e w' => ∃ o, e = .returned o ∧ OutAt 41 1 w (wordsOf t).length ((wordsOf t).flatMap Tr.cs) o w' := by
  obtain ⟨W0, hW0⟩ : ∃ W0, (w.alloc (.cells t.cs.toArray 28)).alloc (.cells #[.slice none 0 0] 23) = W0 := ⟨_, rfl⟩
  obtain ⟨W, hW⟩ : ∃ W, W0.alloc (.cells t.cs.toArray 28) = W := ⟨_, rfl⟩
  have hb0 : Below w.heap.size w W0 := by rw [← hW0]; exact (below_alloc w _).alloc (by simp) _
  have hs0 : W0.heap.size = w.heap.size + 2 := by rw [← hW0]; simp
  have hs : W.heap.size = w.heap.size + 3 := by rw [← hW]; simp [hs0]
  have hbW : Below W0.heap.size W0 W := by rw [← hW]; exact below_alloc _ _
  have hx0 : Blk W0 w.heap.size 28 t.cs.toArray := by rw [← hW0]; exact (Blk.new w 28 _).alloc _
  have ho0 : Blk W0 (w.heap.size + 1) 23 #[.slice none 0 0] := by
    rw [← hW0]
    have := Blk.new (w.alloc (.cells t.cs.toArray 28)) 23 #[.slice none 0 0]
    rwa [World.size_alloc] at this
  have hxW : Blk W W0.heap.size 28 t.cs.toArray := by rw [← hW]; exact Blk.new _ _ _
  have hbw : Below w.heap.size w W := hb0.trans (hbW.mono hb0.size)
  have hlW : Lies (fun b => A b ∨ b = W0.heap.size) W .node t := hl.keep (fun _ => .inl) hbw.size (fun b hb => hbw.block b (hA b hb))
  have hfn := all_fn (w := W0) hl
  rw [hW] at hfn
  have hlen := wordsOf_len t
  have hltA : ∀ b, (A b ∨ b = W0.heap.size) → b < W.heap.size := fun b hb => hb.elim (fun h => by have := hA b h; omega) (fun h => by omega)
  have hseq := all1_seq _ t (Nat.le_refl _) hsz (fun b => A b ∨ b = W0.heap.size) W W0.heap.size hltA (.inr rfl) hlW hxW
  have hall : ∀ x ∈ all t, Lies A w .node x := all_lies _ [t] (Nat.le_refl _) (by simpa using hl)
  have hsm : Same A w W := fun b hb => hbw.block b (hA b hb)
  have hb1 : OutBox 41 1 23 w (w.heap.size + 1) 0 [] (fun b => A b ∨ b = W0.heap.size) W := by
    refine ⟨by omega, ?_, .slice none 0 0, ho0.below hbW (by omega), ⟨none, 0, rfl, ⟨by simp, .inl ⟨rfl, rfl⟩⟩, hbw⟩, fun b hb => by cases hb⟩
    rintro (h | h)
    · have := hA _ h; omega
    · omega
  obtain ⟨zk, zs, z1, z2, zoa, zon, zoc, zaa, zan, zac, zwa, zwn, zwc, zra, zrn, zrc, zma, zmn, zmc, zka, zkn, zkc, hcs⟩ := hl.node10
  rw [hs0] at hseq hfn hb1
  rw [hcs] at hfn hW0 hx0
  have HSEQ := Lib.hid hseq
  have HFN := Lib.hid hfn
  have HALL := Lib.hid hall
  have HSM := Lib.hid hsm
  have HB1 := Lib.hid hb1
  have HA := Lib.hid hA
  have c0 := hx0.cell 0
  have c1 := hx0.cell 1
  have c2 := hx0.cell 2
  have c3 := hx0.cell 3
  have c4 := hx0.cell 4
  have c5 := hx0.cell 5
  have c6 := hx0.cell 6
  have c7 := hx0.cell 7
  have c8 := hx0.cell 8
  have c9 := hx0.cell 9
  simp at c0 c1 c2 c3 c4 c5 c6 c7 c8 c9
  rw [hcs]
  rw [hs0] at hltA
  have HLT := Lib.hid hltA
  have hEl := ElWord
  clear hseq hfn hall hsm hb1 hA hltA hb0 hbW hx0 ho0 hxW hbw hlW hcs hl
  refine (callsIn_wide (n := 0)).1 ?_
  refine callsIn_of_wp_marks Try.func13 rfl trivial ?_ rfl
  simp only [Try.ntmps13, List.size_toArray, List.length_cons, List.length_nil, Nat.reduceAdd, Nat.reduceSub, Array.replicate_succ, Array.replicate_zero, List.push_toArray, List.append_toArray, List.nil_append, List.cons_append]
  gi_wp2_with (refine ⟨trivial, rfl, ?_⟩; gi_at_call 30; refine (callsIn_wide.2 HFN.out).mono ?_; rintro e w1 ⟨rfl, hw1⟩; rw [hw1]; clear hw1)
  clear c0 c1 c2 c3 c4 c5 c6 c7 c8 c9 HFN
  refine range_top (gf := 46) (lb := #[.pointer (some ⟨w.heap.size + 2, 0, none⟩)]) rfl (fun _ _ => by kernel_rfl) HSEQ.out HLT.out (fun _ => rfl)
    (fun pre A' W' => OutBox 41 1 23 w (w.heap.size + 1) (pre.flatMap own).length ((pre.flatMap own).flatMap Tr.cs) A' W' ∧ Same A w W' ∧ W.heap.size ≤ W'.heap.size) (fun c A' W' => False) ?hI ?hIx ?h0 ?hround ?hdone ?hstop
  case hI =>
    rintro s A1 A2 U U' ⟨h1, h2, h3⟩ hc hA'
    exact ⟨h1.shy (by omega) hc hA', h2.trans (fun b hb => hc.block b (by have := HA.out b hb; omega) (fun h => by have := HA.out b hb; omega)), Nat.le_trans h3 hc.size⟩
  case hIx => exact fun c s A1 A2 U U' h _ _ => h
  case h0 => exact ⟨HB1.out, HSM.out, Nat.le_refl _⟩
  case hstop => exact fun D c A' W' _ _ _ _ h _ => h.elim
  case hdone =>
    rintro D A5 W5 hD hAD hsup hlt ⟨hj, -, -⟩ hK
    have hj2 := hj.fin (D := D) (by omega) hAD (.deferred none)
    have hDb : D ≠ w.heap.size + 1 := fun h => hj.2.1 (h ▸ hAD)
    obtain ⟨-, -, o, hbo, hoo, -⟩ := hj
    have b0 := hbo.cell 0
    simp at b0
    obtain ⟨-, -, o2, hbo2, hoo2, -⟩ := hj2
    have ho2 : o2 = o := by
      have := hbo2
      unfold Blk at this
      rw [World.putObj_heap_other (by omega), show W5.heap[w.heap.size + 1]? = some (.cells #[o] 23 (0, 0)) from hbo] at this
      simpa using this.symm
    have HO := Lib.hid hoo2
    clear hoo2 hoo hbo hbo2
    gi_wp2
    refine ⟨by simp, .inl ⟨_, _, rfl, run_takeDeferred hK, ?_⟩⟩
    exact ⟨_, results_tmp rfl _ _ _, _, rfl, by rw [← ho2]; exact HO.out⟩
  case hround =>
    rintro l1 pre x A5 W5 hpre hl1 hl1W hAl hsup hlt ⟨hj, hsame, hsz5⟩
    have hxa : x ∈ all t := hpre.subset (by simp)
    have hlx := HALL.out x hxa
    obtain ⟨yk, ys, y1, y2, yoa, yon, yoc, yaa, yan, yac, ywa, ywn, ywc, yra, yrn, yrc, yma, ymn, ymc, yka, ykn, ykc, hkc⟩ := hlx.node10
    have hnl := flat_pre (f := own) hpre
    rw [List.flatMap_append, List.length_append, List.flatMap_cons, List.flatMap_nil, List.append_nil] at hnl
    have hnl2 : (pre.flatMap own).length + (own x).length ≤ 1048576 := by unfold wordsOf at hlen; omega
    have hxs : x.sz ≤ 1048576 := by
      have h1 := szAll _ [t] (Nat.le_refl _) x hxa
      simp [szL] at h1
      omega
    obtain ⟨W6, hW6⟩ : ∃ W6, W5.alloc (.cells x.cs.toArray 28) = W6 := ⟨_, rfl⟩
    have hb6 : Below W5.heap.size W5 W6 := by rw [← hW6]; exact below_alloc _ _
    have hx6 : Blk W6 W5.heap.size 28 x.cs.toArray := by rw [← hW6]; exact Blk.new _ _ _
    have hs6 : W6.heap.size = W5.heap.size + 1 := by rw [← hW6]; simp
    rw [hkc] at hW6
    have HB6 := Lib.hid hb6
    have HX6 := Lib.hid hx6
    have HJ := Lib.hid hj
    have HLT5 := Lib.hid hlt
    have HSM5 := Lib.hid hsame
    have HKC := Lib.hid hkc
    have HLX := Lib.hid hlx
    have HNL := Lib.hid hnl2
    simp only [enc1, hkc]
    clear hb6 hx6 hj hlt hsup hsame hpre hkc hlx hxa hnl hnl2
    simp
    gi_wp2
    refine ⟨by omega, fun b hb => HB6.out.block b (HLT5.out b hb), fun W7 hc7 hs7 r hr => ?_⟩
    have hx7 : Blk W7 W5.heap.size 28 x.cs.toArray := hc7.blk HX6.out (by omega)
    have hj6 := HJ.out.shy (B := W5.heap.size) (A' := A5) (by have := HJ.out.2.1; omega) (Chg.of_below HB6.out) (fun _ => .inl)
    have hj7 := hj6.shy (B := w.heap.size) (A' := A5) (Nat.le_refl _) (hc7.mono (fun b hb => by subst hb; exact ⟨by omega, hAl⟩)) (fun _ => .inl)
    have hlt7 : ∀ b, A5 b → b < W7.heap.size := fun b hb => by have := HLT5.out b hb; omega
    have hsm7 : Same A w W7 := fun b hb => by
      have h3 := HA.out b hb
      exact (hc7.block b (by omega) (by omega)).trans ((HB6.out.block b (by omega)).trans (HSM5.out b hb))
    have HOWN : Hid (∀ y, Below W7.heap.size W7 y → Calls Try.prog 36 #[.agg x.cs.toArray] y fun e w' => ∃ o, e = .returned o ∧ OutAt 41 1 y (own x).length ((own x).flatMap Tr.cs) o w') := Lib.hid (fun y hy =>
      own_any hxs (fun b hb => by have := HA.out b hb; have := hy.size; omega) (HLX.out.keep (fun _ => id) (by have := hy.size; omega) (fun b hb => (hy.block b (by have := HA.out b hb; omega)).trans (hsm7 b hb))))
    have hyl := flat_one (own x) (fun y hy => (own_lies HLX.out y hy).len)
    have hones : ∀ u ∈ (own x).flatMap Tr.cs, u.oneCell' = true := flat_ones (own_lies HLX.out)
    rw [HKC.out] at HOWN hx7
    have c0 := hx7.cell 0
    have c1 := hx7.cell 1
    have c2 := hx7.cell 2
    have c3 := hx7.cell 3
    have c4 := hx7.cell 4
    have c5 := hx7.cell 5
    have c6 := hx7.cell 6
    have c7 := hx7.cell 7
    have c8 := hx7.cell 8
    have c9 := hx7.cell 9
    simp at c0 c1 c2 c3 c4 c5 c6 c7 c8 c9
    obtain ⟨hbx, hAb, o, hblk, ⟨Ao, oc, rfl, ho, hbw⟩, hoA⟩ := hj7
    have hnl := HNL.out
    generalize hxn : (own x).flatMap Tr.cs = ys at *
    generalize hxm : (own x).length = m at *
    generalize hpx : (pre.flatMap own).flatMap Tr.cs = xs at *
    generalize hpm : (pre.flatMap own).length = n at *
    have b0 := hblk.cell 0
    have f0 := hblk.frozen 0
    simp at b0
    have HXN := Lib.hid hxn
    have HXM := Lib.hid hxm
    have HPX := Lib.hid hpx
    have HPM := Lib.hid hpm
    have HBLK := Lib.hid hblk
    have HO := Lib.hid ho
    have HBW := Lib.hid hbw
    have HOA := Lib.hid hoA
    have HLT7 := Lib.hid hlt7
    have HONES := Lib.hid hones
    have HSM7 := Lib.hid hsm7
    have hws := hbw.size
    clear hxn hxm hpx hpm hblk ho hbw hoA hlt7 hones hsm7 hj6 hx7 hr HJ HX6 HB6 HLX HKC HSM5 HLT5 HSEQ HALL HSM HB1 HLT hc7
    gi_wp2
    refine wpIn_region_any (by kernel_rfl) ?_
    try (change wpAnyIn _ _ _ _ _ _ _ _ _ (World.drew _))
    refine wpAnyIn_ready (rs := [0, 1]) (by kernel_rfl) (by simp) ?_
    refine AllReadyIn.cons rfl (fun K hK => ?_) (AllReadyIn.cons rfl (fun K hK => ?_) AllReadyIn.nil)
    · go_simp
      refine hK _ _ ?_
      clear hK K
      refine wpAnyIn_ready (rs := [1]) (by kernel_rfl) (by simp) ?_
      refine AllReadyIn.cons rfl (fun K hK => ?_) AllReadyIn.nil
      go_simp
      refine hK _ _ ?_
      clear hK K
      refine wpAnyIn_ready (rs := [2]) (by kernel_rfl) (by simp) ?_
      refine AllReadyIn.cons rfl (fun K hK => ?_) AllReadyIn.nil
      go_simp
      refine ⟨trivial, rfl, CallsIn.inRound l1 ((callsIn_wide.2 (HOWN.out _ (below_drew (Below.refl _ _)))).mono ?_)⟩
      rintro e w8 ⟨o2, rfl, A2, c2, rfl, hO2, hb8⟩
      have hk8 : Chg (fun _ => False) W7 w8 := ((Chg.refl _ W7).drew).trans (Chg.of_below hb8) (fun _ _ h => h)
      have HK8 := Lib.hid hk8
      have hblk8 := hk8.blk HBLK.out id
      have b8 := hblk8.cell 0
      have f8 := hblk8.frozen 0
      simp at b8
      have hs8 : W7.heap.size ≤ w8.heap.size := hk8.size
      have HR8 := Lib.hid (hk8.own HO.out (fun _ _ h => h))
      have HS8 := Lib.hid (SrcOK.own hO2 HONES.out)
      clear hO2 hb8 hk8 hblk8
      refine hK _ _ ?_
      clear hK K
      refine wpAnyIn_ready (rs := [3]) (by kernel_rfl) (by simp) ?_
      refine AllReadyIn.cons rfl (fun K hK => ?_) AllReadyIn.nil
      refine stepIn_app ElWord (.tmp 8) (.tmp 10) rfl rfl (base := w.heap.size) (n := n) (m := m) (N := n + m) (v := .slice Ao n oc) (src := .slice A2 m c2) (xs := xs) (news := ys) rfl rfl HR8.out HS8.out rfl (by unfold maxLen; omega) (by omega) (by omega) ?_
      intro A9 c9 w9 r1 r2 r3
      have hblk9 := r2.blk (HK8.out.blk HBLK.out id) (.inr (by decide))
      have b9 := hblk9.cell 0
      have f9 := hblk9.frozen 0
      simp at b9
      have hfin := OutBox.put hbx hAb HBLK.out HOA.out HLT7.out HO.out HBW.out HK8.out r3.1 r3.2 (Chg.refl _ w9) r1 (by decide)
      have HFIN := Lib.hid hfin
      clear r1 r2 r3 hblk9 hfin
      refine hK _ _ ?_
      clear hK K
      refine wpAnyIn_ready (rs := [4]) (by kernel_rfl) (by simp) ?_
      refine AllReadyIn.cons rfl (fun K hK => ?_) AllReadyIn.nil
      go_simp
      refine hK _ _ ?_
      clear hK K
      refine wpAnyIn_done (by kernel_rfl) ?_ _
      gi_wp2
      refine ⟨by have := HFIN.out.2.size; omega, same_of_chg HFIN.out.2 HLT7.out, ?_, HSM7.out.trans (fun b hb => HFIN.out.2.block b (by have := HA.out b hb; omega) (fun h => by have := HA.out b hb; omega)), by have := HFIN.out.2.size; omega⟩
      have := HFIN.out.1
      have e1 : (List.map (fun a => (own a).length) (pre ++ [x])).sum = n + m := by rw [← HPM.out, ← HXM.out]; simp
      have e2 : List.flatMap Tr.cs (List.flatMap own (pre ++ [x])) = xs ++ ys := by rw [← HPX.out, ← HXN.out]; simp
      rw [e1, e2]
      exact this
    · go_simp
      refine hK _ _ ?_
      clear hK K
      refine wpAnyIn_ready (rs := [0, 2]) (by kernel_rfl) (by simp) ?_
      refine AllReadyIn.cons rfl (fun K hK => ?_) (AllReadyIn.cons rfl (fun K hK => ?_) AllReadyIn.nil)
      · go_simp
        refine hK _ _ ?_
        clear hK K
        refine wpAnyIn_ready (rs := [2]) (by kernel_rfl) (by simp) ?_
        refine AllReadyIn.cons rfl (fun K hK => ?_) AllReadyIn.nil
        go_simp
        refine ⟨trivial, rfl, CallsIn.inRound l1 ((callsIn_wide.2 (HOWN.out _ (below_drew (Below.refl _ _)))).mono ?_)⟩
        rintro e w8 ⟨o2, rfl, A2, c2, rfl, hO2, hb8⟩
        have hk8 : Chg (fun _ => False) W7 w8 := ((Chg.refl _ W7).drew).trans (Chg.of_below hb8) (fun _ _ h => h)
        have HK8 := Lib.hid hk8
        have hblk8 := hk8.blk HBLK.out id
        have b8 := hblk8.cell 0
        have f8 := hblk8.frozen 0
        simp at b8
        have hs8 : W7.heap.size ≤ w8.heap.size := hk8.size
        have HR8 := Lib.hid (hk8.own HO.out (fun _ _ h => h))
        have HS8 := Lib.hid (SrcOK.own hO2 HONES.out)
        clear hO2 hb8 hk8 hblk8
        refine hK _ _ ?_
        clear hK K
        refine wpAnyIn_ready (rs := [3]) (by kernel_rfl) (by simp) ?_
        refine AllReadyIn.cons rfl (fun K hK => ?_) AllReadyIn.nil
        refine stepIn_app ElWord (.tmp 8) (.tmp 10) rfl rfl (base := w.heap.size) (n := n) (m := m) (N := n + m) (v := .slice Ao n oc) (src := .slice A2 m c2) (xs := xs) (news := ys) rfl rfl HR8.out HS8.out rfl (by unfold maxLen; omega) (by omega) (by omega) ?_
        intro A9 c9 w9 r1 r2 r3
        have hblk9 := r2.blk (HK8.out.blk HBLK.out id) (.inr (by decide))
        have b9 := hblk9.cell 0
        have f9 := hblk9.frozen 0
        simp at b9
        have hfin := OutBox.put hbx hAb HBLK.out HOA.out HLT7.out HO.out HBW.out HK8.out r3.1 r3.2 (Chg.refl _ w9) r1 (by decide)
        have HFIN := Lib.hid hfin
        clear r1 r2 r3 hblk9 hfin
        refine hK _ _ ?_
        clear hK K
        refine wpAnyIn_ready (rs := [4]) (by kernel_rfl) (by simp) ?_
        refine AllReadyIn.cons rfl (fun K hK => ?_) AllReadyIn.nil
        go_simp
        refine hK _ _ ?_
        clear hK K
        refine wpAnyIn_done (by kernel_rfl) ?_ _
        gi_wp2
        refine ⟨by have := HFIN.out.2.size; omega, same_of_chg HFIN.out.2 HLT7.out, ?_, HSM7.out.trans (fun b hb => HFIN.out.2.block b (by have := HA.out b hb; omega) (fun h => by have := HA.out b hb; omega)), by have := HFIN.out.2.size; omega⟩
        have := HFIN.out.1
        have e1 : (List.map (fun a => (own a).length) (pre ++ [x])).sum = n + m := by rw [← HPM.out, ← HXM.out]; simp
        have e2 : List.flatMap Tr.cs (List.flatMap own (pre ++ [x])) = xs ++ ys := by rw [← HPX.out, ← HXN.out]; simp
        rw [e1, e2]
        exact this
      · go_simp
        refine ⟨trivial, rfl, CallsIn.inRound l1 ((callsIn_wide.2 (HOWN.out _ (below_drew (Below.refl _ _)))).mono ?_)⟩
        rintro e w8 ⟨o2, rfl, A2, c2, rfl, hO2, hb8⟩
        have hk8 : Chg (fun _ => False) W7 w8 := ((Chg.refl _ W7).drew).trans (Chg.of_below hb8) (fun _ _ h => h)
        have HK8 := Lib.hid hk8
        have hblk8 := hk8.blk HBLK.out id
        have b8 := hblk8.cell 0
        have f8 := hblk8.frozen 0
        simp at b8
        have hs8 : W7.heap.size ≤ w8.heap.size := hk8.size
        have HR8 := Lib.hid (hk8.own HO.out (fun _ _ h => h))
        have HS8 := Lib.hid (SrcOK.own hO2 HONES.out)
        clear hO2 hb8 hk8 hblk8
        refine hK _ _ ?_
        clear hK K
        refine wpAnyIn_ready (rs := [0]) (by kernel_rfl) (by simp) ?_
        refine AllReadyIn.cons rfl (fun K hK => ?_) AllReadyIn.nil
        go_simp
        refine hK _ _ ?_
        clear hK K
        refine wpAnyIn_ready (rs := [3]) (by kernel_rfl) (by simp) ?_
        refine AllReadyIn.cons rfl (fun K hK => ?_) AllReadyIn.nil
        refine stepIn_app ElWord (.tmp 8) (.tmp 10) rfl rfl (base := w.heap.size) (n := n) (m := m) (N := n + m) (v := .slice Ao n oc) (src := .slice A2 m c2) (xs := xs) (news := ys) rfl rfl HR8.out HS8.out rfl (by unfold maxLen; omega) (by omega) (by omega) ?_
        intro A9 c9 w9 r1 r2 r3
        have hblk9 := r2.blk (HK8.out.blk HBLK.out id) (.inr (by decide))
        have b9 := hblk9.cell 0
        have f9 := hblk9.frozen 0
        simp at b9
        have hfin := OutBox.put hbx hAb HBLK.out HOA.out HLT7.out HO.out HBW.out HK8.out r3.1 r3.2 (Chg.refl _ w9) r1 (by decide)
        have HFIN := Lib.hid hfin
        clear r1 r2 r3 hblk9 hfin
        refine hK _ _ ?_
        clear hK K
        refine wpAnyIn_ready (rs := [4]) (by kernel_rfl) (by simp) ?_
        refine AllReadyIn.cons rfl (fun K hK => ?_) AllReadyIn.nil
        go_simp
        refine hK _ _ ?_
        clear hK K
        refine wpAnyIn_done (by kernel_rfl) ?_ _
        gi_wp2
        refine ⟨by have := HFIN.out.2.size; omega, same_of_chg HFIN.out.2 HLT7.out, ?_, HSM7.out.trans (fun b hb => HFIN.out.2.block b (by have := HA.out b hb; omega) (fun h => by have := HA.out b hb; omega)), by have := HFIN.out.2.size; omega⟩
        have := HFIN.out.1
        have e1 : (List.map (fun a => (own a).length) (pre ++ [x])).sum = n + m := by rw [← HPM.out, ← HXM.out]; simp
        have e2 : List.flatMap Tr.cs (List.flatMap own (pre ++ [x])) = xs ++ ys := by rw [← HPX.out, ← HXN.out]; simp
        rw [e1, e2]
        exact this
end Go.Proofs.Ytpjcmhlgdgadjaa
