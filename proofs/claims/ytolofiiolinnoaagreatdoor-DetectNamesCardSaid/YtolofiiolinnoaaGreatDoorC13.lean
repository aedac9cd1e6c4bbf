/- Contracts of functions that the laws reach, and plain lemmas. Part 13. -/
import Derived.Test.YtolofiiolinnoaaGreatDoorC12
set_option linter.all false
namespace Go.Proofs.Cr
section
variable {L : List Bd} {N : Nat}
theorem lineQ_eq (k : Nat) (q : Rat) : lineQ L k q = qy L k + slq L k * (q - qx L k) := rfl
theorem slq_mul (h : CurveP L N) {k : Nat} (hk : k < N) : slq L k * (qx L (k + 1) - qx L k) = qy L (k + 1) - qy L k := by
  have := (h.up k hk).1
  have hn : qx L (k + 1) - qx L k ≠ 0 := by grind
  unfold slq
  rw [Rat.div_mul_cancel hn]
theorem line_end (h : CurveP L N) {k : Nat} (hk : k < N) (q : Rat) : lineQ L k q = qy L (k + 1) + slq L k * (q - qx L (k + 1)) := by
  have := slq_mul h hk
  rw [lineQ_eq]
  grind
theorem slq_nonneg (h : CurveP L N) {k : Nat} (hk : k < N) : 0 ≤ slq L k := by
  have h1 := h.up k hk
  unfold slq
  rw [Rat.div_def]
  exact Rat.mul_nonneg (by grind) (Rat.le_of_lt (Rat.inv_pos.2 (by grind)))
theorem qx_mono (h : CurveP L N) {i j : Nat} (hij : i ≤ j) (hj : j ≤ N) : qx L i ≤ qx L j := by
  induction j with
  | zero => have : i = 0 := by omega
            subst this; exact Rat.le_refl
  | succ j ih =>
    rcases Nat.lt_or_eq_of_le hij with h1 | h1
    · have := ih (by omega) (by omega)
      have := (h.up j (by omega)).1
      grind
    · subst h1; exact Rat.le_refl
theorem qy_mono (h : CurveP L N) {i j : Nat} (hij : i ≤ j) (hj : j ≤ N) : qy L i ≤ qy L j := by
  induction j with
  | zero => have : i = 0 := by omega
            subst this; exact Rat.le_refl
  | succ j ih =>
    rcases Nat.lt_or_eq_of_le hij with h1 | h1
    · have := ih (by omega) (by omega)
      have := (h.up j (by omega)).2
      grind
    · subst h1; exact Rat.le_refl
/-- Lines to the left of a coverage lie higher. -/
theorem line_left (h : CurveP L N) {i j : Nat} (hij : i ≤ j) (hj : j < N) {q : Rat} (hq : qx L j ≤ q) : lineQ L j q ≤ lineQ L i q := by
  induction j with
  | zero => have : i = 0 := by omega
            subst this; exact Rat.le_refl
  | succ j ih =>
    rcases Nat.lt_or_eq_of_le hij with h1 | h1
    · have h2 := ih (by omega) (by omega) (Rat.le_trans (Rat.le_of_lt (h.up j (by omega)).1) hq)
      refine Rat.le_trans ?_ h2
      rw [line_end h (by omega : j < N), lineQ_eq]
      have hc := h.cc j hj
      have hm : 0 ≤ (slq L j - slq L (j + 1)) * (q - qx L (j + 1)) := Rat.mul_nonneg (by grind) (by grind)
      grind
    · subst h1; exact Rat.le_refl
/-- Lines to the right of a coverage lie higher. -/
theorem line_right (h : CurveP L N) {i : Nat} (d : Nat) (hj : i + d < N) {q : Rat} (hq : q ≤ qx L (i + 1)) : lineQ L i q ≤ lineQ L (i + d) q := by
  induction d with
  | zero => exact Rat.le_refl
  | succ d ih =>
    refine Rat.le_trans (ih (by omega)) ?_
    rw [line_end h (by omega : i + d < N), show i + (d + 1) = i + d + 1 by omega, lineQ_eq]
    have hc := h.cc (i + d) (by omega)
    have hx := qx_mono h (by omega : i + 1 ≤ i + d + 1) (by omega)
    have hm : 0 ≤ (slq L (i + d) - slq L (i + d + 1)) * (qx L (i + d + 1) - q) := Rat.mul_nonneg (by grind) (by grind)
    grind
/-- The chance is at most each line, and at most the last chance. -/
theorem chance_le (h : CurveP L N) {q r : Rat} (hr : ChanceR L N q r) : (∀ i, i < N → r ≤ lineQ L i q) ∧ r ≤ qy L N := by
  rcases hr with ⟨j, hj, h1, h2, rfl⟩ | ⟨h1, rfl⟩
  · refine ⟨fun i hi => ?_, ?_⟩
    · rcases Nat.le_total i j with hij | hij
      · exact line_left h hij hj h1
      · obtain ⟨d, rfl⟩ := Nat.exists_eq_add_of_le hij
        exact line_right h d hi (Rat.le_of_lt h2)
    · have h3 := qy_mono h (by omega : j + 1 ≤ N) (Nat.le_refl _)
      rw [line_end h hj]
      have hm : 0 ≤ slq L j * (qx L (j + 1) - q) := Rat.mul_nonneg (slq_nonneg h hj) (by grind)
      grind
  · refine ⟨fun i hi => ?_, Rat.le_refl⟩
    obtain ⟨M, rfl⟩ : ∃ M, N = M + 1 := ⟨N - 1, by have := h.pos; omega⟩
    have h3 := line_left h (by omega : i ≤ M) (by omega) (Rat.le_trans (Rat.le_of_lt (h.up M (by omega)).1) h1)
    rw [line_end h (by omega : M < M + 1)] at h3
    have hm : 0 ≤ slq L M * (q - qx L (M + 1)) := Rat.mul_nonneg (slq_nonneg h (by omega)) (by grind)
    grind
theorem chance_mono (h : CurveP L N) {p q r s : Rat} (hr : ChanceR L N p r) (hs : ChanceR L N q s) (hpq : p ≤ q) : r ≤ s := by
  rcases hs with ⟨j, hj, h1, h2, rfl⟩ | ⟨h1, rfl⟩
  · have h3 := (chance_le h hr).1 j hj
    have hm : 0 ≤ slq L j * (q - p) := Rat.mul_nonneg (slq_nonneg h hj) (by grind)
    rw [lineQ_eq] at *
    grind
  · exact (chance_le h hr).2
theorem chance_mid (h : CurveP L N) {p q r s t : Rat} (hr : ChanceR L N p r) (hs : ChanceR L N q s) (ht : ChanceR L N ((p + q) * mkRat 1 2) t) : (r + s) * mkRat 1 2 ≤ t := by
  have e : mkRat 1 2 = (1 : Rat) / 2 := by rw [Rat.mkRat_eq_div]; rfl
  rw [e] at ht ⊢
  rcases ht with ⟨j, hj, h1, h2', rfl⟩ | ⟨h1, rfl⟩
  · have h3 := (chance_le h hr).1 j hj
    have h4 := (chance_le h hs).1 j hj
    rw [lineQ_eq] at *
    have h6 : slq L j * ((p + q) * (1 / 2) - qx L j) = (slq L j * (p - qx L j) + slq L j * (q - qx L j)) * (1 / 2) := by grind
    rw [h6]
    grind
  · have h3 := (chance_le h hr).2
    have h4 := (chance_le h hs).2
    grind
end
end Go.Proofs.Cr
namespace Go.Proofs.Cr
open Go.RowKit Go.Shelf
attribute [local go_sem] Oper.semAt_some

theorem need_ok {L : List Bd} {N i : Nat} {q : Rat} (h : CurveP L N) (hi : i < N) (hq : okQ q) (hs : sm 300 q) (h1 : qy L i < q) (h2 : q ≤ qy L (i + 1)) : AlongOK (qy L i) (qy L (i + 1)) (qx L i) (qx L (i + 1)) q := by
  obtain ⟨⟨f1, s1⟩, f2, s2⟩ := shortB_fr (h.sh i (by omega))
  obtain ⟨⟨f3, s3⟩, f4, s4⟩ := shortB_fr (h.sh (i + 1) (by omega))
  have hup := h.up i hi
  have d1 : 0 ≤ qx L (i + 1) - qx L i := by grind
  have d2 : 0 < qy L (i + 1) - qy L i := by grind
  have n2 : qy L (i + 1) - qy L i ≠ 0 := by grind
  have m1 : sm 36 (qx L (i + 1) - qx L i) := sm.sub s3 s1 f3.1 f1.1
  have m2 : sm 36 (qy L (i + 1) - qy L i) := sm.sub s4 s2 f4.1 f2.1
  have m3 : sm 72 ((qx L (i + 1) - qx L i) / (qy L (i + 1) - qy L i)) := sm.div m1 m2 (by grind) n2
  have d3 : 0 ≤ (qx L (i + 1) - qx L i) / (qy L (i + 1) - qy L i) := by rw [Rat.div_def]; exact Rat.mul_nonneg d1 (Rat.le_of_lt (Rat.inv_pos.2 d2))
  have m4 : sm 318 (q - qy L i) := sm.sub hs s2 hq.1 f2.1
  have d4 : 0 ≤ q - qy L i := by grind
  have m5 : sm 390 ((qx L (i + 1) - qx L i) / (qy L (i + 1) - qy L i) * (q - qy L i)) := sm.mul m3 m4
  have d5 : 0 ≤ (qx L (i + 1) - qx L i) / (qy L (i + 1) - qy L i) * (q - qy L i) := Rat.mul_nonneg d3 d4
  have m6 : sm 409 (qx L i + (qx L (i + 1) - qx L i) / (qy L (i + 1) - qy L i) * (q - qy L i)) := sm.add s1 m5 f1.1 d5
  exact ⟨f2.ok.1, f4.ok.1, f1.ok.1, f3.ok.1, hq, m1.ok (by decide) d1, m2.ok (by decide) (by grind), n2, m3.ok (by decide) d3, m4.ok (by decide) d4, m5.ok (by decide) d5, m6.ok (by decide) (by have := f1.1; unfold qx at *; grind)⟩
def needQ (L : List Bd) (i : Nat) (q : Rat) : Rat := qx L i + (qx L (i + 1) - qx L i) / (qy L (i + 1) - qy L i) * (q - qy L i)
set_option maxRecDepth 100000 in
set_option maxHeartbeats 1000000 in
theorem need1_any (x u y v t : Rat) (h : AlongOK u v x y t) (w : World) (b0 b1 b2 : Nat) (hb0 : Blk w b0 #[.string (qN x), .string (qD x), .string (qN u), .string (qD u)] 56) (hb1 : Blk w b1 #[.string (qN y), .string (qD y), .string (qN v), .string (qD v)] 56) (hb2 : Blk w b2 #[.string (qN t), .string (qD t)] 46) (hT : TabW w) :
    Calls Tryz.prog 74 #[.pointer (some ⟨b0, 0, none⟩), .pointer (some ⟨b1, 0, none⟩), .pointer (some ⟨b2, 0, none⟩)] w (TryPost (qN (x + (y - x) / (v - u) * (t - u)), qD (x + (y - x) / (v - u) * (t - u)), 0) w) := by
  have hR1 := Blk.new w #[.string ⟨#[]⟩, .string ⟨#[]⟩] 46
  have hW1 := below_alloc w (.cells #[.string ⟨#[]⟩, .string ⟨#[]⟩] 46)
  have hb0 := hb0.pass hW1
  have hb1 := hb1.pass hW1
  have hb2 := hb2.pass hW1
  have TC := Lib.hid (along_q u v x y t h _ (hT.below hW1 (Nat.le_refl _)))
  have HW1 := Lib.hid hW1
  obtain ⟨⟨x0, x1⟩, x2, x3⟩ := hb0.four
  obtain ⟨⟨y0, y1⟩, y2, y3⟩ := hb1.four
  obtain ⟨⟨z0, z1⟩, _, _⟩ := hb2.two
  clear hW1 hT h
  go_enter Tryz.func74, Tryz.ntmps74
  go_wp2_with fail
  refine TC.out.mono ?_
  rintro e w2 ⟨rfl, hb2⟩
  have hR2 := hR1.pass hb2
  have HB2 := Lib.hid (HW1.out.trans (hb2.mono HW1.out.size))
  clear hb2 hR1 hb0 hb1 x0 x1 x2 x3 y0 y1 y2 y3 z0 z1
  obtain ⟨⟨r0, r1⟩, f0, f1⟩ := hR2.two
  go_wp2_with fail
  refine bodyPost_ret (results_c1 (g := w.heap.size) rfl rfl ((hR2.set 0 _).set 1 _) Tryz.underlying46 rfl (by kernel_rfl)) rfl ?_
  exact ⟨.inl ⟨by simp, rfl⟩, (HB2.out.setCell (by simp) _).setCell (by simp) _⟩
end Go.Proofs.Cr
namespace Go.Proofs.Cr
open Go.RowKit Go.Shelf
attribute [local go_sem] Oper.semAt_some

theorem qN_ne {q : Rat} (h : 0 < q) : ¬ (qN q).toList = [48] := fun e => by
  rw [toList_data] at e
  have e2 : qN q = qN 0 := by
    have : qN q = ⟨#[48]⟩ := list_inj e
    rw [this]; exact zero_qN.1
  have n1 : nv (qN q) = q.num.natAbs := nv_numB _
  have n2 : nv (qN 0) = (0 : Rat).num.natAbs := nv_numB _
  rw [e2, n2] at n1
  have : q.num = 0 := by
    have : (0 : Rat).num.natAbs = 0 := rfl
    omega
  rw [Rat.num_eq_zero.1 this] at h
  exact Rat.lt_irrefl h
def NeedP (L : List Bd) (N : Nat) (q : Rat) (w : World) (e : Ending) (w' : World) : Prop :=
  ((e = .returned (pv (⟨#[]⟩, ⟨#[]⟩, 7)) ∧ qy L N < q) ∨ (∃ i, i < N ∧ qy L i < q ∧ q ≤ qy L (i + 1) ∧ e = .returned (pv (qN (needQ L i q), qD (needQ L i q), 0)))) ∧ Below w.heap.size w w'
set_option maxRecDepth 100000 in
set_option maxHeartbeats 8000000 in
theorem need_loop (n : Nat) (hn : 5 ≤ n) (A : Option Addr) (c N : Nat) (L : List Bd) (q : Rat) (w : World) (hr : RdB w A L) (h : CurveP L N) (hc : N + 1 ≤ c) (hq : okQ q) (hs : sm 300 q) (hq0 : 0 < q) (hT : TabW w) (hZ : ZO w) :
    CallsIn Fence.wide n Tryz.prog 32 #[.slice A (N + 1 : Nat) c, .agg #[.string (qN q), .string (qD q)]] w (NeedP L N q w) := by
  have hW := wide_wide
  have hro := hW.ro
  have h0 : 1 ≤ n := by omega
  have hfm := hW.fn 103
  have hm : Tryz.prog.follows .mixedOrders = true := by kernel_rfl
  have hfnR : ∀ f, Fence.wide.fn f := hW.fn
  obtain ⟨hA1, hB1, hR1, hW1⟩ := three_new w #[.string (qN q), .string (qD q)] #[.string ⟨#[]⟩, .string ⟨#[]⟩] #[.int .i64 0] 46 46 24
  have hS4 := Blk.new (((w.alloc (.cells #[.string (qN q), .string (qD q)] 46)).alloc (.cells #[.string ⟨#[]⟩, .string ⟨#[]⟩] 46)).alloc (.cells #[.int .i64 0] 24)) #[.string (qN q), .string (qD q)] 46
  simp only [World.size_alloc] at hS4
  have hW4 := hW1.alloc hW1.size (.cells #[.string (qN q), .string (qD q)] 46)
  have TR := Lib.hid ((right2_any A (some ⟨w.heap.size + 1 + 1 + 1, 0, none⟩) c 1 L [(qN q, qD q)] _ (hr.below hW4 (Nat.le_refl _)) (by rw [h.len]; exact hc) (RdP.one hS4) (hT.below hW4 (Nat.le_refl _)) (hZ.below hW4 (Nat.le_refl _))).mono
    (fun e w' hh => show e = .returned (.int .i64 0) ∧ Below _ _ w' from ⟨by
      rcases hh.1 with ⟨h1, _⟩ | ⟨_, h2⟩
      · exact h1
      · exact absurd ⟨h, ⟨hq, hs⟩, rfl, rfl⟩ (nask_of h2 N q), hh.2⟩))
  rw [h.len, show [(qN q, qD q)].length = 1 from rfl] at TR
  have hA4 := hA1.alloc (.cells #[.string (qN q), .string (qD q)] 46)
  have hB4 := hB1.alloc (.cells #[.string (qN q), .string (qD q)] 46)
  have hR4 := hR1.alloc (.cells #[.string (qN q), .string (qD q)] 46)
  have HW4 := Lib.hid hW4
  have HR := Lib.hid hr
  have HTZ := Lib.hid (And.intro hT hZ)
  have H := Lib.hid (And.intro h (And.intro hq (And.intro hs hq0)))
  have hne := qN_ne hq0
  obtain ⟨⟨x0, x1⟩, _, _⟩ := hA1.two
  have h1N : 1 ≤ N := h.pos
  clear hW1 hW4 hr hT hZ hS4 h hq hs hq0
  refine callsIn_of_wp_marks Tryz.func32 rfl (hW.fn _) ?_ hW.ro
  simp only [Tryz.ntmps32, List.size_toArray, List.length_cons, List.length_nil, Nat.reduceAdd, Nat.reduceSub, Array.replicate_succ, Array.replicate_zero, List.push_toArray, List.append_toArray, List.nil_append, List.cons_append]
  gi_wp2_with fail
  refine (hW.tr TR.out).mono ?_
  rintro e w2 ⟨rfl, hb2⟩
  have hA2 := hA4.pass hb2
  have hB2 := hB4.pass hb2
  have hR2 := hR4.pass hb2
  have HB2 := Lib.hid (HW4.out.trans (hb2.mono HW4.out.size))
  have hZ2 := HTZ.out.2.below HB2.out (Nat.le_refl _)
  clear hb2 hA1 hB1 hR1 hA4 hB4 hR4 x0 x1
  obtain ⟨⟨x0, x1⟩, _, _⟩ := hA2.two
  obtain ⟨⟨z0, z1⟩, _, _⟩ := hZ2
  gi_wp2_with (gi_at_call 56; refine (hW.tr (pairs_any _ _ _ _)).mono ?_; rintro e w' ⟨rfl, rfl⟩)
  have hP := Blk.new w2 #[.slice A (N + 1 : Nat) c] 34
  have hB5 := below_alloc w2 (.cells #[.slice A (N + 1 : Nat) c] 34)
  have hA5 := hA2.pass hB5
  have hB5' := hB2.pass hB5
  have hR5 := hR2.pass hB5
  have HB5 := Lib.hid (HB2.out.trans (hB5.mono HB2.out.size))
  have hlt2 := hR2.lt
  have HSS : Hid (∀ g, sliceS w2.heap.size A (N + 1) g → g < w2.heap.size + 1) := Lib.hid (by
    rintro g (rfl | ⟨hp, off', e⟩)
    · omega
    · obtain ⟨b', off2, e2, hlt, _⟩ := HR.out.2 (by rw [H.out.1.len]; omega)
      have e' : g = b' := congrArg (fun a : Option Addr => (a.map Addr.block).getD 0) (e.symm.trans e2)
      omega)
  clear hB5 hA2 hB2 hR2 x0 x1 z0 z1
  refine wpIn_range2 hW h0 (gf := 103) (lb := #[.pointer (some ⟨w2.heap.size, 0, none⟩)]) rfl (enters_of Tryz.func103 (by kernel_rfl) rfl)
    (pairs_seq hW (n - 1) (by omega) w2.heap.size c N A L H.out.1.len h1N hc _ hP.lt (hP.cell 0) (HR.out.below HB5.out (Nat.le_refl _))) (fun _ h => h.elim) (fun h k => h.trans k) ?hKb (Below.refl _ _) (fun _ => rfl)
    (fun k W => (qy L k < q) ∧ Blk W w.heap.size #[.string (qN q), .string (qD q)] 46 ∧ Blk W (w.heap.size + 1) #[.string ⟨#[]⟩, .string ⟨#[]⟩] 46 ∧ Blk W (w.heap.size + 1 + 1) #[.int .i64 0] 24 ∧ w2.heap.size + 1 ≤ W.heap.size ∧ Below w.heap.size w W)
    (fun cd k W => ∃ i : Nat, (cd = .ret ∧ i < N ∧ qy L i < q ∧ q ≤ qy L (i + 1)) ∧ Blk W (w.heap.size + 1) #[.string (qN (needQ L i q)), .string (qD (needQ L i q))] 46 ∧ Blk W (w.heap.size + 1 + 1) #[.int .i64 0] 24 ∧ Below w.heap.size w W)
    ((stabI_pure (fun k => qy L k < q)).and ((stabI_blk (fun h => h)).and ((stabI_blk (fun h => h)).and ((stabI_blk (fun h => h)).and (stabI_size.and (stabI_below (by simp; omega) (Nat.le_refl _) (fun _ h => h.elim)))))))
    (fun cd => stabI_ex fun i => (stabI_pure (fun _ => cd = .ret ∧ i < N ∧ qy L i < q ∧ q ≤ qy L (i + 1))).and ((stabI_blk (fun h => h)).and ((stabI_blk (fun h => h)).and (stabI_below (by simp; omega) (Nat.le_refl _) (fun _ h => h.elim)))))
    ⟨by rw [(qx_zero H.out.1).2]; exact H.out.2.2.2, hA5, hB5', hR5, by simp, HB5.out⟩
    ?round ?done ?stop
  case hKb =>
    intro W l o o' hl ho hc
    exact keepS_book (n := w2.heap.size + 1) HSS.out W l o o' (by simp at hl; omega) ho hc
  case stop =>
    rintro D cd k W hD hk ⟨i, ⟨rfl, hi1, hi2, hi3⟩, g2, g3, gB⟩ hK
    gi_wp2
    refine ⟨by simp, .inl ⟨_, _, rfl, run_takeDeferred hK, ?_⟩⟩
    have g3' := g3.put (D := D) (.deferred none) (by simp at hD; omega)
    refine ⟨_, results_cc (g := w.heap.size + 1) (g2 := w.heap.size + 1 + 1) rfl rfl (g2.put _ (by simp at hD; omega)) rfl Tryz.underlying46 rfl (by kernel_rfl) (load24 g3'), .inr ⟨i, hi1, hi2, hi3, rfl⟩, ?_⟩
    exact gB.trans (belowK_b (w := w) (Nat.le_refl _) _ D _ _ (by simp at hD; omega) hK rfl rfl)
  case done =>
    rintro D W hD ⟨hd, g1, g2, g3, hs5, gB⟩ hK
    have HDQ := Lib.hid hd
    have HG := Lib.hid gB
    have HDK := Lib.hid (And.intro hD hK)
    clear hd gB hD hK
    obtain ⟨⟨a0, a1⟩, a2, a3⟩ := g2.two
    have c0 : W.cell? ⟨w.heap.size + 1 + 1, 0, none⟩ = some (.int .i64 0) := g3.cell 0
    have c1 := g3.free 0
    gi_wp2
    have hD5 : w2.heap.size + 1 ≤ D := by have := HDK.out.1; simp at this; omega
    have HK6 := ((keepsFrom_set (w2.heap.size + 1) W ⟨w.heap.size + 1, 0, none⟩ (.string ⟨#[]⟩)).trans (keepsFrom_set _ _ ⟨w.heap.size + 1, 1, none⟩ (.string ⟨#[]⟩))).trans (keepsFrom_set _ _ ⟨w.heap.size + 1 + 1, 0, none⟩ (.int .i64 7))
    have HK7 := HK6.same D _ hD5 HDK.out.2 rfl
    have k2 := ((g2.set 0 (.string ⟨#[]⟩)).set 1 (.string ⟨#[]⟩)).far (p := ⟨w.heap.size + 1 + 1, 0, none⟩) (by simp) (.int .i64 7)
    have k3 := ((g3.far (p := ⟨w.heap.size + 1, 0, none⟩) (by simp) (.string ⟨#[]⟩)).far (p := ⟨w.heap.size + 1, 1, none⟩) (by simp) (.string ⟨#[]⟩)).set 0 (.int .i64 7)
    have k3' := k3.put (D := D) (.deferred none) (by omega)
    refine ⟨by simp, .inl ⟨_, _, rfl, run_takeDeferred HK7, ?_⟩⟩
    refine ⟨_, results_cc (g := w.heap.size + 1) (g2 := w.heap.size + 1 + 1) rfl rfl (k2.put _ (by omega)) rfl Tryz.underlying46 rfl (by kernel_rfl) (load24 k3'), .inl ⟨by simp [pv], HDQ.out⟩, ?_⟩
    exact (((HG.out.setCell (p := ⟨w.heap.size + 1, 0, none⟩) (by simp) (.string ⟨#[]⟩)).setCell (p := ⟨w.heap.size + 1, 1, none⟩) (by simp) (.string ⟨#[]⟩)).setCell (p := ⟨w.heap.size + 1 + 1, 0, none⟩) (by simp; omega) (.int .i64 7)).trans (belowK_b (w := w) (Nat.le_refl _) _ D _ _ (by omega) HK7 rfl rfl)
  case round =>
    rintro l k W hk ⟨hd, g1, g2, g3, hs5, gB⟩
    have hn2 : 1 ≤ n - 1 - 1 := by omega
    have hsk := H.out.1.sh k (by omega)
    have hsk1 := H.out.1.sh (k + 1) (by omega)
    obtain ⟨⟨f1, _⟩, f2, _⟩ := shortB_fr hsk
    obtain ⟨⟨f3, _⟩, f4, _⟩ := shortB_fr hsk1
    have o1 := f1.ok; have o2 := f2.ok; have o3 := f3.ok; have o4 := f4.ok
    have HRI := Lib.hid (fun h2 => need_ok H.out.1 hk H.out.2.1 H.out.2.2.1 hd h2)
    have HOK := Lib.hid (show (okQ (qx L k) ∧ okQ (qy L k)) ∧ okQ (qx L (k + 1)) ∧ okQ (qy L (k + 1)) from ⟨⟨o1.1, o2.1⟩, o3.1, o4.1⟩)
    obtain ⟨a, ha⟩ : ∃ a, a = qx L k := ⟨_, rfl⟩
    obtain ⟨u, hu'⟩ : ∃ u, u = qy L k := ⟨_, rfl⟩
    obtain ⟨a', ha'⟩ : ∃ a', a' = qx L (k + 1) := ⟨_, rfl⟩
    obtain ⟨v, hv⟩ : ∃ v, v = qy L (k + 1) := ⟨_, rfl⟩
    have e1 : (L.getD k .zero).cn = qN a := by rw [ha]; exact o1.2.1
    have e2 : (L.getD k .zero).cd = qD a := by rw [ha]; exact o1.2.2
    have e3 : (L.getD k .zero).hn = qN u := by rw [hu']; exact o2.2.1
    have e4 : (L.getD k .zero).hd = qD u := by rw [hu']; exact o2.2.2
    have e5 : (L.getD (k + 1) .zero).cn = qN a' := by rw [ha']; exact o3.2.1
    have e6 : (L.getD (k + 1) .zero).cd = qD a' := by rw [ha']; exact o3.2.2
    have e7 : (L.getD (k + 1) .zero).hn = qN v := by rw [hv]; exact o4.2.1
    have e8 : (L.getD (k + 1) .zero).hd = qD v := by rw [hv]; exact o4.2.2
    rw [e1, e2, e3, e4, e5, e6, e7, e8]
    clear e1 e2 e3 e4 e5 e6 e7 e8
    have HE := Lib.hid (And.intro ha (And.intro hu' (And.intro ha' hv)))
    rw [← ha, ← hu', ← ha', ← hv] at HRI HOK
    rw [← hu'] at hd
    have HD := Lib.hid hd
    have HG := Lib.hid gB
    clear o1 o2 o3 o4 f1 f2 f3 f4 hsk hsk1 ha hu' ha' hv hd gB
    gi_wp2
    have hk1 := Blk.new W #[.string (qN a), .string (qD a), .string (qN u), .string (qD u)] 56
    have hk2 := Blk.new (W.alloc (.cells #[.string (qN a), .string (qD a), .string (qN u), .string (qD u)] 56)) #[.string (qN a'), .string (qD a'), .string (qN v), .string (qD v)] 56
    have HBB := Lib.hid (show Below W.heap.size W ((W.alloc (.cells #[.string (qN a), .string (qD a), .string (qN u), .string (qD u)] 56)).alloc (.cells #[.string (qN a'), .string (qD a'), .string (qN v), .string (qD v)] 56)) from ((Below.refl _ W).alloc (Nat.le_refl _) _).alloc (by simp) _)
    rw [World.size_alloc] at hk2
    refine ⟨keepsFrom_below HBB.out, KeepS.of_below (n := W.heap.size) HBB.out (fun g hg => Nat.lt_of_lt_of_le (HSS.out g hg) hs5), ⟨by rw [← HE.out.2.1]; exact HD.out, g1.pass HBB.out, g2.pass HBB.out, g3.pass HBB.out, (by first | omega | (simp; omega)), HG.out.trans (HBB.out.mono HG.out.size)⟩, ?_⟩
    clear g1 g2 g3
    rintro W2 ⟨_, g1, g2, g3, hs6, gB⟩ hsz hbl
    have hx1 : Blk W2 W.heap.size #[.string (qN a), .string (qD a), .string (qN u), .string (qD u)] 56 := hbl _ _ _ _ (hk1.alloc _)
    have hy1 : Blk W2 (W.heap.size + 1) #[.string (qN a'), .string (qD a'), .string (qN v), .string (qD v)] 56 := hbl _ _ _ _ hk2
    clear hbl hk1 hk2 HBB hsz
    have TB := Lib.hid (fun W => cmp_q q v H.out.2.1 HOK.out.2.2 W)
    obtain ⟨⟨p0, p1⟩, _, _⟩ := g1.two
    obtain ⟨⟨q0, q1⟩, q2, q3⟩ := hy1.four
    have HGB := Lib.hid gB
    clear gB
    by_cases hqv : v < q
    · rw [cmpQ_gt hqv] at TB
      gi_wp2_with fail
      refine (CallsIn.inRound l (hW.tr (TB.out _))).mono ?_
      rintro e w5 ⟨rfl, hb5⟩
      have HQV := Lib.hid hqv
      have K5 := Lib.hid hb5
      have g1 := g1.pass hb5
      have g2 := g2.pass hb5
      have g3 := g3.pass hb5
      clear hb5 hqv p0 p1 q0 q1 q2 q3 hx1 hy1
      gi_wp2_with fail
      exact ⟨keepsFrom_below K5.out, KeepS.of_below K5.out (fun g hg => Nat.lt_of_lt_of_le (HSS.out g hg) hs6), by rw [← HE.out.2.2.2]; exact HQV.out, g1, g2, g3, Nat.le_trans hs6 K5.out.size, HGB.out.trans (K5.out.mono HGB.out.size)⟩
    · have hrl := cmpQ_le (p := q) (q := v) hqv
      have HQV := Lib.hid (Rat.not_lt.1 hqv)
      obtain ⟨r, hrr⟩ : ∃ r, r = cmpQ q v := ⟨_, rfl⟩
      rw [← hrr] at TB hrl
      have hrl : r ≤ 0 := by omega
      clear hrr hqv
      gi_wp2_with fail
      refine (CallsIn.inRound l (hW.tr (TB.out _))).mono ?_
      rintro e w5 ⟨rfl, hb5⟩
      have K5 := Lib.hid hb5
      have g1 := g1.pass hb5
      have g2 := g2.pass hb5
      have g3 := g3.pass hb5
      have hx1 := hx1.pass hb5
      have hy1 := hy1.pass hb5
      clear hb5 p0 p1 q0 q1 q2 q3
      have hmf : ∀ (fn : Fn) (first cap : Array Value) (w : World), (Instr.makeFunc fn first cap).run Tryz.prog w = .ok (.func fn first cap) w := fun _ _ _ _ => rfl
      have HW5 := Lib.hid (HGB.out.trans (K5.out.mono HGB.out.size))
      have TT := Lib.hid (tried_any 74 #[.pointer (some ⟨W.heap.size, 0, none⟩), .pointer (some ⟨W.heap.size + 1, 0, none⟩), .pointer (some ⟨w.heap.size, 0, none⟩)] _ w5 (fun _ _ => rfl)
        (fun V hb => need1_any a u a' v q (HRI.out HQV.out) V W.heap.size (W.heap.size + 1) w.heap.size (hx1.pass hb) (hy1.pass hb) (g1.pass hb) (HTZ.out.1.below (HW5.out.trans (hb.mono HW5.out.size)) (Nat.le_refl _))))
      gi_wp2_with fail
      refine (CallsIn.inRound l (hW.tr TT.out)).mono ?_
      rintro e w6 ⟨he, hb6⟩
      simp only [pv] at he
      subst he
      have g2 := g2.pass hb6
      have g3 := g3.pass hb6
      have K6 := Lib.hid (K5.out.trans (hb6.mono K5.out.size))
      clear hb6 g1 hx1 hy1 TT
      obtain ⟨⟨a0, a1⟩, a2, a3⟩ := g2.two
      have c0 : w6.cell? ⟨w.heap.size + 1 + 1, 0, none⟩ = some (.int .i64 0) := g3.cell 0
      have c1 := g3.free 0
      gi_wp2_with fail
      have HNQ := Lib.hid (show a + (a' - a) / (v - u) * (q - u) = needQ L k q by unfold needQ; rw [← HE.out.1, ← HE.out.2.1, ← HE.out.2.2.1, ← HE.out.2.2.2])
      refine ⟨(((keepsFrom_below K6.out).trans (keepsFrom_set _ _ ⟨w.heap.size + 1, 0, none⟩ (.string (qN (a + (a' - a) / (v - u) * (q - u)))))).trans (keepsFrom_set _ _ ⟨w.heap.size + 1, 1, none⟩ (.string (qD (a + (a' - a) / (v - u) * (q - u)))))).trans (keepsFrom_set _ _ ⟨w.heap.size + 1 + 1, 0, none⟩ (.int .i64 0)),
        k, ⟨rfl, hk, by rw [← HE.out.2.1]; exact HD.out, by rw [← HE.out.2.2.2]; exact HQV.out⟩, ?_, ?_, ?_⟩
      · rw [← HNQ.out]
        exact ((g2.set 0 (.string (qN (a + (a' - a) / (v - u) * (q - u))))).set 1 (.string (qD (a + (a' - a) / (v - u) * (q - u))))).far (p := ⟨w.heap.size + 1 + 1, 0, none⟩) (by simp) (.int .i64 0)
      · exact ((g3.far (p := ⟨w.heap.size + 1, 0, none⟩) (by simp) (.string (qN (a + (a' - a) / (v - u) * (q - u))))).far (p := ⟨w.heap.size + 1, 1, none⟩) (by simp) (.string (qD (a + (a' - a) / (v - u) * (q - u))))).set 0 (.int .i64 0)
      · exact (((HGB.out.trans (K6.out.mono HGB.out.size)).setCell (p := ⟨w.heap.size + 1, 0, none⟩) (by simp) (.string (qN (a + (a' - a) / (v - u) * (q - u))))).setCell (p := ⟨w.heap.size + 1, 1, none⟩) (by simp) (.string (qD (a + (a' - a) / (v - u) * (q - u))))).setCell (p := ⟨w.heap.size + 1 + 1, 0, none⟩) (by simp; omega) (.int .i64 0)
end Go.Proofs.Cr
namespace Go.Proofs.Cr
open Go.RowKit Go.Shelf
attribute [local go_sem] Oper.semAt_some

/-- The least coverage that has a chance. -/
def NeedR (L : List Bd) (N : Nat) (q r : Rat) : Prop := (q = 0 ∧ r = 0) ∨ (∃ i, i < N ∧ qy L i < q ∧ q ≤ qy L (i + 1) ∧ r = needQ L i q)
def NeedPost (L : List Bd) (a b : ByteArray) (w : World) (e : Ending) (w' : World) : Prop :=
  ((e = .returned (pv (⟨#[]⟩, ⟨#[]⟩, 2)) ∧ ∀ N q, ¬ AskOK L a b N q) ∨ (∃ N q, AskOK L a b N q ∧ ((e = .returned (pv (⟨#[]⟩, ⟨#[]⟩, 7)) ∧ qy L N < q) ∨ ∃ r, e = .returned (pv (qN r, qD r, 0)) ∧ NeedR L N q r ∧ okQ r))) ∧ Below w.heap.size w w'
set_option maxRecDepth 100000 in
set_option maxHeartbeats 2000000 in
theorem need_early (A : Option Addr) (c : Nat) (L : List Bd) (a b : ByteArray) (w : World) (hr : RdB w A L) (hc : L.length ≤ c) (hT : TabW w) (hZ : ZO w)
    (hno : ((∃ N, CurveP L N) ∧ shortL 300 [(a, b)] = true) → a = qN 0 ∧ b = qD 0) :
    Calls Tryz.prog 32 #[.slice A L.length c, .agg #[.string a, .string b]] w (NeedPost L a b w) := by
  obtain ⟨M, hM⟩ : ∃ M, L.length = M := ⟨_, rfl⟩
  have HM := Lib.hid hM.symm
  rw [hM] at hc ⊢
  obtain ⟨hA1, hB1, hR1, hW1⟩ := three_new w #[.string a, .string b] #[.string ⟨#[]⟩, .string ⟨#[]⟩] #[.int .i64 0] 46 46 24
  have hS4 := Blk.new (((w.alloc (.cells #[.string a, .string b] 46)).alloc (.cells #[.string ⟨#[]⟩, .string ⟨#[]⟩] 46)).alloc (.cells #[.int .i64 0] 24)) #[.string a, .string b] 46
  simp only [World.size_alloc] at hS4
  have hW4 := hW1.alloc hW1.size (.cells #[.string a, .string b] 46)
  have TR := Lib.hid (right2_any A (some ⟨w.heap.size + 1 + 1 + 1, 0, none⟩) c 1 L [(a, b)] _ (hr.below hW4 (Nat.le_refl _)) (by rw [hM]; exact hc) (RdP.one hS4) (hT.below hW4 (Nat.le_refl _)) (hZ.below hW4 (Nat.le_refl _)))
  rw [hM, show [(a, b)].length = 1 from rfl] at TR
  have hA4 := hA1.alloc (.cells #[.string a, .string b] 46)
  have hB4 := hB1.alloc (.cells #[.string a, .string b] 46)
  have hR4 := hR1.alloc (.cells #[.string a, .string b] 46)
  have HW4 := Lib.hid hW4
  have HTZ := Lib.hid (And.intro hT hZ)
  have HNO := Lib.hid hno
  obtain ⟨⟨x0, x1⟩, _, _⟩ := hA1.two
  clear hW1 hW4 hr hT hZ hS4 hM hc hno
  go_enter Tryz.func32, Tryz.ntmps32
  go_wp2_with fail
  refine TR.out.mono ?_
  rintro e w2 ⟨⟨rfl, hk⟩ | ⟨rfl, hk⟩, hb2⟩
  · obtain ⟨N, q, hq⟩ := ask_of hk
    obtain ⟨e1, e2⟩ := HNO.out hk
    have hq00 : q = 0 := by
      have h1 := hq.2.1.1.fr
      have h2 := zero_ok.fr
      rw [← e1, ← e2, hq.2.2.1, hq.2.2.2] at h2
      exact h1.fun h2
    subst hq00
    have HQ := Lib.hid hq
    rw [← zero_qN.1] at e1
    rw [← zero_qN.2] at e2
    have HE := Lib.hid (And.intro e1 e2)
    have hA2 := hA4.pass hb2
    have hB2 := hB4.pass hb2
    have hR2 := hR4.pass hb2
    have HB2 := Lib.hid (HW4.out.trans (hb2.mono HW4.out.size))
    have hZ2 := HTZ.out.2.below HB2.out (Nat.le_refl _)
    rw [e1, e2] at hA2
    clear hk hb2 hq hA1 hB1 hR1 hA4 hB4 hR4 e1 e2 x0 x1
    obtain ⟨⟨x0, x1⟩, _, _⟩ := hA2.two
    obtain ⟨⟨z0, z1⟩, _, _⟩ := hZ2
    obtain ⟨⟨r0, r1⟩, f0, f1⟩ := hB2.two
    have c0 : w2.cell? ⟨w.heap.size + 1 + 1, 0, none⟩ = some (.int .i64 0) := hR2.cell 0
    have c1 := hR2.free 0
    go_wp2_with fail
    have k3 := ((hR2.far (p := ⟨w.heap.size + 1, 0, none⟩) (by simp) (.string ⟨#[48]⟩)).far (p := ⟨w.heap.size + 1, 1, none⟩) (by simp) (.string ⟨#[49]⟩)).set 0 (.int .i64 0)
    refine bodyPost_ret (results_cc (g := w.heap.size + 1) (g2 := w.heap.size + 1 + 1) rfl rfl (((hB2.set 0 (.string ⟨#[48]⟩)).set 1 (.string ⟨#[49]⟩)).far (p := ⟨w.heap.size + 1 + 1, 0, none⟩) (by simp) (.int .i64 0)) rfl Tryz.underlying46 rfl (by kernel_rfl) (load24 k3)) rfl ?_
    exact ⟨.inr ⟨N, 0, HQ.out, .inr ⟨0, by rw [← zero_qN.1, ← zero_qN.2]; simp [pv], .inl ⟨rfl, rfl⟩, zero_ok⟩⟩, ((HB2.out.setCell (by simp) _).setCell (by simp) _).setCell (by simp; omega) _⟩
  · have hB2 := hB4.pass hb2
    have hR2 := hR4.pass hb2
    have HB2 := Lib.hid (HW4.out.trans (hb2.mono HW4.out.size))
    have HK := Lib.hid (nask_of hk)
    clear hk hb2 hA1 hB1 hR1 hA4 hB4 hR4 x0 x1
    obtain ⟨⟨r0, r1⟩, f0, f1⟩ := hB2.two
    have c0 : w2.cell? ⟨w.heap.size + 1 + 1, 0, none⟩ = some (.int .i64 0) := hR2.cell 0
    have c1 := hR2.free 0
    go_wp2_with fail
    have k3 := ((hR2.far (p := ⟨w.heap.size + 1, 0, none⟩) (by simp) (.string ⟨#[]⟩)).far (p := ⟨w.heap.size + 1, 1, none⟩) (by simp) (.string ⟨#[]⟩)).set 0 (.int .i64 2)
    refine bodyPost_ret (results_cc (g := w.heap.size + 1) (g2 := w.heap.size + 1 + 1) rfl rfl (((hB2.set 0 (.string ⟨#[]⟩)).set 1 (.string ⟨#[]⟩)).far (p := ⟨w.heap.size + 1 + 1, 0, none⟩) (by simp) (.int .i64 2)) rfl Tryz.underlying46 rfl (by kernel_rfl) (load24 k3)) rfl ?_
    exact ⟨.inl ⟨by simp [pv], HK.out⟩, ((HB2.out.setCell (by simp) _).setCell (by simp) _).setCell (by simp; omega) _⟩
/-- 'detect.Need'. -/
theorem Need_any (A : Option Addr) (c : Nat) (L : List Bd) (a b : ByteArray) (w : World) (hr : RdB w A L) (hc : L.length ≤ c) (hT : TabW w) (hZ : ZO w) :
    Calls Tryz.prog 32 #[.slice A L.length c, .agg #[.string a, .string b]] w (NeedPost L a b w) := by
  by_cases hno : ((∃ N, CurveP L N) ∧ shortL 300 [(a, b)] = true) → a = qN 0 ∧ b = qD 0
  · exact need_early A c L a b w hr hc hT hZ hno
  · obtain ⟨hk, hne⟩ := Classical.not_imp.1 hno
    obtain ⟨N, q, h1, ⟨h2, h3⟩, rfl, rfl⟩ := ask_of hk
    have hq0 : 0 < q := by
      have : q ≠ 0 := fun e => hne (by rw [e]; exact ⟨rfl, rfl⟩)
      have := h2.1
      grind
    have hl := h1.len
    rw [hl]
    refine (callsIn_wide (n := 5)).1 ((need_loop 5 (Nat.le_refl _) A c N L q w hr h1 (by omega) h2 h3 hq0 hT hZ).mono ?_)
    rintro e w' ⟨⟨rfl, h4⟩ | ⟨i, hi, h4, h5, rfl⟩, hb⟩
    · exact ⟨.inr ⟨N, q, ⟨h1, ⟨h2, h3⟩, rfl, rfl⟩, .inl ⟨rfl, h4⟩⟩, hb⟩
    · exact ⟨.inr ⟨N, q, ⟨h1, ⟨h2, h3⟩, rfl, rfl⟩, .inr ⟨needQ L i q, rfl, .inr ⟨i, hi, h4, h5, rfl⟩, (need_ok h1 hi h2 h3 h4 h5).s6⟩⟩, hb⟩
end Go.Proofs.Cr
namespace Go.Proofs.Cr
section
variable {L : List Bd} {N : Nat}
theorem mul_cancel {a b c : Rat} (hc : c ≠ 0) (h : a * c = b * c) : a = b := by
  have : a * c * c⁻¹ = b * c * c⁻¹ := by rw [h]
  rwa [Rat.mul_assoc, Rat.mul_inv_cancel _ hc, Rat.mul_one, Rat.mul_assoc, Rat.mul_inv_cancel _ hc, Rat.mul_one] at this
theorem piece_one (h : CurveP L N) {i j : Nat} {q : Rat} (hi : i < N) (hj : j < N) (h1 : qx L i ≤ q) (h2 : q < qx L (i + 1)) (h3 : qx L j ≤ q) (h4 : q < qx L (j + 1)) : i = j := by
  rcases Nat.lt_trichotomy i j with hl | hl | hl
  · have := qx_mono h (by omega : i + 1 ≤ j) (by omega)
    grind
  · exact hl
  · have := qx_mono h (by omega : j + 1 ≤ i) (by omega)
    grind
theorem piece_end (h : CurveP L N) {i : Nat} {q : Rat} (hi : i < N) (h2 : q < qx L (i + 1)) (h3 : qx L N ≤ q) : False := by
  have := qx_mono h (by omega : i + 1 ≤ N) (Nat.le_refl _)
  grind
/-- The chance is one. -/
theorem chance_one (h : CurveP L N) {q r s : Rat} (hr : ChanceR L N q r) (hs : ChanceR L N q s) : r = s :=
  Rat.le_antisymm (chance_mono h hr hs Rat.le_refl) (chance_mono h hs hr Rat.le_refl)
theorem chance_nonneg (h : CurveP L N) {q r : Rat} (hr : ChanceR L N q r) : 0 ≤ r := by
  rcases hr with ⟨j, hj, h1, h2, rfl⟩ | ⟨h1, rfl⟩
  · have h3 := qy_mono h (Nat.zero_le j) (by omega)
    have h4 := (qx_zero h).2
    have hm : 0 ≤ slq L j * (q - qx L j) := Rat.mul_nonneg (slq_nonneg h hj) (by grind)
    rw [lineQ_eq]
    grind
  · have h3 := qy_mono h (Nat.zero_le N) (Nat.le_refl _)
    have h4 := (qx_zero h).2
    grind
theorem chance_top (h : CurveP L N) {q r : Rat} (hr : ChanceR L N q r) : r ≤ 1 := Rat.le_trans (chance_le h hr).2 h.top
/-- Each line begins above nothing. -/
theorem line_zero (h : CurveP L N) {m : Nat} (hm : m < N) : slq L m * qx L m ≤ qy L m := by
  induction m with
  | zero => rw [(qx_zero h).1, (qx_zero h).2, Rat.mul_zero]; exact Rat.le_refl
  | succ m ih =>
    have h1 := ih (by omega)
    have h2 := slq_mul h (by omega : m < N)
    have h3 := h.cc m hm
    have h4 : 0 ≤ qx L (m + 1) := by have := qx_mono h (Nat.zero_le (m + 1)) (by omega); have := (qx_zero h).1; grind
    have h5 : 0 ≤ (slq L m - slq L (m + 1)) * qx L (m + 1) := Rat.mul_nonneg (by grind) h4
    grind
theorem slq_mono (h : CurveP L N) {i : Nat} (d : Nat) (hj : i + d < N) : slq L (i + d) ≤ slq L i := by
  induction d with
  | zero => exact Rat.le_refl
  | succ d ih => exact Rat.le_trans (h.cc (i + d) (by omega)) (ih (by omega))
/-- A coverage before a piece's end brings at least its slope. -/
theorem chance_ge (h : CurveP L N) {i : Nat} (hi : i < N) {q r : Rat} (hr : ChanceR L N q r) (hq : q < qx L (i + 1)) (hq0 : 0 ≤ q) : slq L i * q ≤ r := by
  rcases hr with ⟨m, hm, h1, h2, rfl⟩ | ⟨h1, rfl⟩
  · have hmi : m ≤ i := by
      rcases Nat.lt_or_ge i m with hl | hl
      · have := qx_mono h (by omega : i + 1 ≤ m) (by omega)
        grind
      · exact hl
    obtain ⟨d, rfl⟩ := Nat.exists_eq_add_of_le hmi
    have h3 := slq_mono h d hi
    have h4 := line_zero h hm
    have h5 : 0 ≤ (slq L m - slq L (m + d)) * q := Rat.mul_nonneg (by grind) hq0
    rw [lineQ_eq]
    grind
  · exact (piece_end h hi hq h1).elim
/-- Parted effort finds no less. -/
theorem chance_sub (h : CurveP L N) {p q r s t : Rat} (hp : 0 ≤ p) (hq : 0 ≤ q) (hr : ChanceR L N p r) (hs : ChanceR L N q s) (ht : ChanceR L N (p + q) t) : t ≤ r + s := by
  have key : ∀ {p q r s t : Rat}, 0 ≤ q → q ≤ p → ChanceR L N p r → ChanceR L N q s → ChanceR L N (p + q) t → t ≤ r + s := by
    intro p q r s t hq hqp hr hs ht
    rcases hr with ⟨i, hi, h1, h2, rfl⟩ | ⟨h1, rfl⟩
    · have h3 := (chance_le h ht).1 i hi
      have h4 := chance_ge h hi hs (by grind) hq
      rw [lineQ_eq] at *
      grind
    · have h3 := (chance_le h ht).2
      have h4 := chance_nonneg h hs
      grind
  rcases (Rat.le_total : q ≤ p ∨ p ≤ q) with hl | hl
  · exact key hq hl hr hs ht
  · have := key hp hl hs hr (by rw [Rat.add_comm]; exact ht)
    grind
/-- What more coverage brings lies between the slopes. -/
theorem slope_most (h : CurveP L N) {p q r s a : Rat} (hr : ChanceR L N p r) (hs : ChanceR L N q s) (ha : SlopeR L N p a) : s - r ≤ a * (q - p) := by
  rcases ha with ⟨i, hi, h1, h2, rfl⟩ | ⟨h1, rfl⟩
  · have h3 := (chance_le h hs).1 i hi
    have h4 : r = lineQ L i p := chance_one h hr (.inl ⟨i, hi, h1, h2, rfl⟩)
    rw [lineQ_eq] at *
    grind
  · have h3 := (chance_le h hs).2
    have h4 : r = qy L N := chance_one h hr (.inr ⟨h1, rfl⟩)
    grind
theorem slope_least (h : CurveP L N) {p q r s a : Rat} (hr : ChanceR L N p r) (hs : ChanceR L N q s) (ha : SlopeR L N q a) (hpq : p ≤ q) : a * (q - p) ≤ s - r := by
  rcases ha with ⟨i, hi, h1, h2, rfl⟩ | ⟨h1, rfl⟩
  · have h3 := (chance_le h hr).1 i hi
    have h4 : s = lineQ L i q := chance_one h hs (.inl ⟨i, hi, h1, h2, rfl⟩)
    rw [lineQ_eq] at *
    grind
  · have h3 := chance_mono h hr hs hpq
    grind
/-- The coverage that a chance needs has it. -/
theorem need_has (h : CurveP L N) {q c r : Rat} (hn : NeedR L N q c) (hr : ChanceR L N c r) : r = q := by
  rcases hn with ⟨rfl, rfl⟩ | ⟨i, hi, h1, h2, rfl⟩
  · have h0 := qx_zero h
    have h5 : qx L 0 < qx L 1 := (h.up 0 h.pos).1
    have h4 : ChanceR L N 0 (lineQ L 0 0) := .inl ⟨0, h.pos, by rw [h0.1]; exact Rat.le_refl, by rw [← h0.1]; exact h5, rfl⟩
    rw [chance_one h hr h4, lineQ_eq, h0.1, h0.2]
    grind
  · have hup := h.up i hi
    have hy : qy L (i + 1) - qy L i ≠ 0 := by grind
    have hx : qx L (i + 1) - qx L i ≠ 0 := by grind
    have hd : (qx L (i + 1) - qx L i) / (qy L (i + 1) - qy L i) * (qy L (i + 1) - qy L i) = qx L (i + 1) - qx L i := Rat.div_mul_cancel hy
    have hs := slq_mul h hi
    have hl : lineQ L i (needQ L i q) = q := by
      have hcross : slq L i * ((qx L (i + 1) - qx L i) / (qy L (i + 1) - qy L i)) = 1 := by
        have : slq L i * ((qx L (i + 1) - qx L i) / (qy L (i + 1) - qy L i)) * (qy L (i + 1) - qy L i) = 1 * (qy L (i + 1) - qy L i) := by
          rw [Rat.mul_assoc, hd, hs]; grind
        exact mul_cancel hy this
      rw [lineQ_eq]
      unfold needQ
      grind
    have hk0 : 0 < (qx L (i + 1) - qx L i) / (qy L (i + 1) - qy L i) := by
      rw [Rat.div_def]; exact Rat.mul_pos (by grind) (Rat.inv_pos.2 (by grind))
    have hge : qx L i ≤ needQ L i q := by
      have : 0 ≤ (qx L (i + 1) - qx L i) / (qy L (i + 1) - qy L i) * (q - qy L i) := Rat.mul_nonneg (Rat.le_of_lt hk0) (by grind)
      unfold needQ
      grind
    have hle : needQ L i q ≤ qx L (i + 1) := by
      have : 0 ≤ (qx L (i + 1) - qx L i) / (qy L (i + 1) - qy L i) * (qy L (i + 1) - q) := Rat.mul_nonneg (Rat.le_of_lt hk0) (by grind)
      unfold needQ
      grind
    have h6 := (chance_le h hr).1 i hi
    rw [hl] at h6
    refine Rat.le_antisymm h6 ?_
    rcases hr with ⟨j, hj, h7, h8, rfl⟩ | ⟨h7, rfl⟩
    · rcases Nat.lt_or_ge j (i + 1) with hlt | hgt
      · have hji : j = i := by
          rcases Nat.lt_or_eq_of_le (Nat.le_of_lt_succ hlt) with hl2 | hl2
          · have := qx_mono h (by omega : j + 1 ≤ i) (by omega)
            grind
          · exact hl2
        subst hji
        rw [hl]; exact Rat.le_refl
      · have h9 := qx_mono h (by omega : i + 1 ≤ j) (by omega)
        have h10 := qy_mono h (by omega : i + 1 ≤ j) (by omega)
        have hm : 0 ≤ slq L j * (needQ L i q - qx L j) := Rat.mul_nonneg (slq_nonneg h hj) (by grind)
        rw [lineQ_eq]
        grind
    · have h10 := qy_mono h (by omega : i + 1 ≤ N) (Nat.le_refl _)
      grind
/-- A lesser coverage has not. -/
theorem need_less (h : CurveP L N) {q c d r : Rat} (hn : NeedR L N q c) (hd : d < c) (hr : ChanceR L N d r) (hd0 : 0 ≤ d) : r < q := by
  rcases hn with ⟨rfl, rfl⟩ | ⟨i, hi, h1, h2, rfl⟩
  · grind
  · have hup := h.up i hi
    have hy : qy L (i + 1) - qy L i ≠ 0 := by grind
    have hdd : (qx L (i + 1) - qx L i) / (qy L (i + 1) - qy L i) * (qy L (i + 1) - qy L i) = qx L (i + 1) - qx L i := Rat.div_mul_cancel hy
    have hs := slq_mul h hi
    have hcross : slq L i * ((qx L (i + 1) - qx L i) / (qy L (i + 1) - qy L i)) = 1 := by
      have : slq L i * ((qx L (i + 1) - qx L i) / (qy L (i + 1) - qy L i)) * (qy L (i + 1) - qy L i) = 1 * (qy L (i + 1) - qy L i) := by
        rw [Rat.mul_assoc, hdd, hs]; grind
      exact mul_cancel hy this
    have h6 := (chance_le h hr).1 i hi
    have hsp : 0 < slq L i := by
      unfold slq
      rw [Rat.div_def]; exact Rat.mul_pos (by grind) (Rat.inv_pos.2 (by grind))
    have hm : 0 < slq L i * (needQ L i q - d) := Rat.mul_pos hsp (by grind)
    have hl : lineQ L i (needQ L i q) = q := by
      rw [lineQ_eq]
      unfold needQ
      grind
    rw [lineQ_eq] at *
    grind
end
end Go.Proofs.Cr
namespace Go.Proofs.Cr
open Go.RowKit Go.Shelf
attribute [local go_sem] Oper.semAt_some

set_option maxRecDepth 100000 in
set_option maxHeartbeats 1000000 in
/-- The law's 'of': a fraction of two numbers. -/
theorem lawOf_any (x y : Nat) (hx : x < 9223372036854775808) (hy : y < 9223372036854775808) (h0 : 0 < y) (w : World) (hT : TabW w) :
    Calls Tryz.prog 30 #[.int .i64 (x : Int), .int .i64 (y : Int)] w fun e w' => e = .returned (.agg #[.string (qN (mkRat x y)), .string (qD (mkRat x y))]) ∧ Below w.heap.size w w' := by
  have hR1 := Blk.new w #[.string ⟨#[]⟩, .string ⟨#[]⟩] 46
  have hW1 := below_alloc w (.cells #[.string ⟨#[]⟩, .string ⟨#[]⟩] 46)
  have TR := Lib.hid (ratio_any x y hx hy _ (hT.below hW1 (Nat.le_refl _)))
  rw [ratioS_q x y hx hy h0] at TR
  have HW1 := Lib.hid hW1
  generalize mkRat x y = q at TR ⊢
  clear hW1 hT hx hy h0
  go_enter Tryz.func30, Tryz.ntmps30
  go_wp2_with fail
  refine TR.out.mono ?_
  rintro e w2 ⟨he, hb2⟩
  simp only [pv] at he
  subst he
  have hR2 := hR1.pass hb2
  have HB2 := Lib.hid (HW1.out.trans (hb2.mono HW1.out.size))
  have hR3 := hR2.alloc (.cells #[.string (numB q.num.natAbs), .string (numB q.den)] 46)
  have HB3 := Lib.hid (HB2.out.alloc HB2.out.size (.cells #[.string (numB q.num.natAbs), .string (numB q.den)] 46))
  clear hb2 hR1 hR2
  obtain ⟨⟨r0, r1⟩, f0, f1⟩ := hR3.two
  go_wp2_with fail
  refine bodyPost_ret (results_c1 (g := w.heap.size) rfl rfl ((hR3.set 0 _).set 1 _) Tryz.underlying46 rfl (by kernel_rfl)) rfl ?_
  exact ⟨by simp [qN, qD], (HB3.out.setCell (by simp) _).setCell (by simp) _⟩
/-- Have fractions so few bytes? -/
def fewL (d : Nat) (L : List (ByteArray × ByteArray)) : Bool := !anyN (fun k => decide (d < (L.getD k (⟨#[]⟩, ⟨#[]⟩)).1.size) || decide (d < (L.getD k (⟨#[]⟩, ⟨#[]⟩)).2.size)) L.length
set_option maxRecDepth 100000 in
set_option maxHeartbeats 2000000 in
theorem lawShort_any (d : Nat) (A : Option Addr) (c : Nat) (L : List (ByteArray × ByteArray)) (w : World) (hr : RdP w A L) :
    Calls Tryz.prog 25 #[.int .i64 (d : Int), .slice A L.length c] w fun e w' => e = .returned (.bool (fewL d L)) ∧ Below w.heap.size w w' := by
  obtain ⟨hl9, hr⟩ := hr
  have HR := Lib.hid hr
  unfold fewL
  obtain ⟨h, hh⟩ : ∃ h : Nat → Bool, h = (fun k => decide (d < (L.getD k (⟨#[]⟩, ⟨#[]⟩)).1.size) || decide (d < (L.getD k (⟨#[]⟩, ⟨#[]⟩)).2.size)) := ⟨_, rfl⟩
  rw [← hh]
  have HH := Lib.hid hh
  obtain ⟨N, hN⟩ : ∃ N, L.length = N := ⟨_, rfl⟩
  rw [hN] at hl9 ⊢
  have HN := Lib.hid hN
  clear hr hN hh
  go_enter Tryz.func25, Tryz.ntmps25
  go_wp2
  go_loopw [9] (fun i wr => ∃ k : Nat, k ≤ N ∧ i = .int .i64 (k : Int) ∧ Below w.heap.size w wr ∧ Hid (anyN h k = false))
    (fun i _ => (N - intOf i).toNat)
  case atStart => exact ⟨0, Nat.zero_le _, by simp, Below.refl _ _, Lib.hid rfl⟩
  case round =>
    obtain ⟨k, hk, rfl, hB, hA⟩ := hrel
    have HB := Lib.hid hB
    by_cases hlt : k < N
    · obtain ⟨b, off, rfl, hb, hcs⟩ := HR.out (by have := HN.out; omega)
      have hcx := hcs k (by have := HN.out; omega)
      have hhk : h k = (decide (d < (L.getD k (⟨#[]⟩, ⟨#[]⟩)).1.size) || decide (d < (L.getD k (⟨#[]⟩, ⟨#[]⟩)).2.size)) := by rw [HH.out]
      generalize L.getD k (⟨#[]⟩, ⟨#[]⟩) = x at hcx hhk
      obtain ⟨x1, x2⟩ := x
      have HHK := Lib.hid hhk
      have q1 := (HB.out.cell (p := ⟨b, off + k * 2, none⟩) hb).trans hcx.1
      have q2 := (HB.out.cell (p := ⟨b, off + k * 2 + 1, none⟩) hb).trans hcx.2
      clear hcs hB hcx hhk
      have hX1 := Blk.new wr #[.string x1, .string x2] 46
      have HB1 := Lib.hid (HB.out.alloc HB.out.size (.cells #[.string x1, .string x2] 46))
      by_cases c1 : d < x1.size
      · have HT : Hid (h k = true) := Lib.hid (by rw [HHK.out]; simp [c1])
        have c1' : (d : Int) < (x1.size : Int) := by omega
        clear c1
        go_wp2_with fail
        go_ret
        exact ⟨by rw [anyN_true hlt HT.out]; rfl, HB1.out⟩
      · by_cases c2 : d < x2.size
        · have HT : Hid (h k = true) := Lib.hid (by rw [HHK.out]; simp [c2])
          have c1' : ¬ (d : Int) < (x1.size : Int) := by omega
          have c2' : (d : Int) < (x2.size : Int) := by omega
          clear c1 c2
          go_wp2_with fail
          go_ret
          exact ⟨by rw [anyN_true hlt HT.out]; rfl, HB1.out⟩
        · have HT : Hid (h k = false) := Lib.hid (by rw [HHK.out]; simp [c1, c2])
          have c1' : ¬ (d : Int) < (x1.size : Int) := by omega
          have c2' : ¬ (d : Int) < (x2.size : Int) := by omega
          clear c1 c2
          go_wp2_with fail
          go_roundw
          case rel =>
            have hk1 : k + 1 ≤ N := hlt
            exact ⟨k + 1, hk1, by simp, HB1.out, Lib.hid (by rw [anyN_succ, hA.out, HT.out]; rfl)⟩
          case measure =>
            simp [intOf]
            omega
    · have hkk : k = N := by omega
      subst hkk
      clear hB
      go_wp2_with fail
      go_ret
      exact ⟨by rw [hA.out]; rfl, HB.out⟩
end Go.Proofs.Cr
namespace Go.Proofs.Cr
open Go.RowKit Go.Shelf
attribute [local go_sem] Oper.semAt_some

/-- Have fractions more bytes than statements look at? -/
def longL (L : List (ByteArray × ByteArray)) : Bool := anyN (fun k => decide (310 < (L.getD k (⟨#[]⟩, ⟨#[]⟩)).1.size) || decide (310 < (L.getD k (⟨#[]⟩, ⟨#[]⟩)).2.size)) L.length || decide (520 < L.length)
set_option maxRecDepth 100000 in
set_option maxHeartbeats 2000000 in
theorem lawLong_any (A : Option Addr) (c : Nat) (L : List (ByteArray × ByteArray)) (w : World) (hr : RdP w A L) :
    Calls Tryz.prog 36 #[.slice A L.length c] w fun e w' => e = .returned (.bool (longL L)) ∧ Below w.heap.size w w' := by
  obtain ⟨hl9, hr⟩ := hr
  have HR := Lib.hid hr
  unfold longL
  obtain ⟨h, hh⟩ : ∃ h : Nat → Bool, h = (fun k => decide (310 < (L.getD k (⟨#[]⟩, ⟨#[]⟩)).1.size) || decide (310 < (L.getD k (⟨#[]⟩, ⟨#[]⟩)).2.size)) := ⟨_, rfl⟩
  rw [← hh]
  have HH := Lib.hid hh
  obtain ⟨N, hN⟩ : ∃ N, L.length = N := ⟨_, rfl⟩
  rw [hN] at hl9 ⊢
  have HN := Lib.hid hN
  have HB520 : Hid (decide (520 < N) = decide ((520 : Int) < (N : Int))) := Lib.hid (by simp only [decide_eq_decide]; omega)
  clear hr hN hh
  go_enter Tryz.func36, Tryz.ntmps36
  go_wp2
  go_loopw [7] (fun i wr => ∃ k : Nat, k ≤ N ∧ i = .int .i64 (k : Int) ∧ Below w.heap.size w wr ∧ Hid (anyN h k = false))
    (fun i _ => (N - intOf i).toNat)
  case atStart => exact ⟨0, Nat.zero_le _, by simp, Below.refl _ _, Lib.hid rfl⟩
  case round =>
    obtain ⟨k, hk, rfl, hB, hA⟩ := hrel
    have HB := Lib.hid hB
    by_cases hlt : k < N
    · obtain ⟨b, off, rfl, hb, hcs⟩ := HR.out (by have := HN.out; omega)
      have hcx := hcs k (by have := HN.out; omega)
      have hhk : h k = (decide (310 < (L.getD k (⟨#[]⟩, ⟨#[]⟩)).1.size) || decide (310 < (L.getD k (⟨#[]⟩, ⟨#[]⟩)).2.size)) := by rw [HH.out]
      generalize L.getD k (⟨#[]⟩, ⟨#[]⟩) = x at hcx hhk
      obtain ⟨x1, x2⟩ := x
      have HHK := Lib.hid hhk
      have q1 := (HB.out.cell (p := ⟨b, off + k * 2, none⟩) hb).trans hcx.1
      have q2 := (HB.out.cell (p := ⟨b, off + k * 2 + 1, none⟩) hb).trans hcx.2
      clear hcs hB hcx hhk
      have hX1 := Blk.new wr #[.string x1, .string x2] 46
      have HB1 := Lib.hid (HB.out.alloc HB.out.size (.cells #[.string x1, .string x2] 46))
      by_cases c1 : 310 < x1.size
      · have HT : Hid (h k = true) := Lib.hid (by rw [HHK.out]; simp [c1])
        have c1' : (310 : Int) < (x1.size : Int) := by omega
        clear c1
        go_wp2_with fail
        go_ret
        exact ⟨by rw [anyN_true hlt HT.out]; rfl, HB1.out⟩
      · by_cases c2 : 310 < x2.size
        · have HT : Hid (h k = true) := Lib.hid (by rw [HHK.out]; simp [c2])
          have c1' : ¬ (310 : Int) < (x1.size : Int) := by omega
          have c2' : (310 : Int) < (x2.size : Int) := by omega
          clear c1 c2
          go_wp2_with fail
          go_ret
          exact ⟨by rw [anyN_true hlt HT.out]; rfl, HB1.out⟩
        · have HT : Hid (h k = false) := Lib.hid (by rw [HHK.out]; simp [c1, c2])
          have c1' : ¬ (310 : Int) < (x1.size : Int) := by omega
          have c2' : ¬ (310 : Int) < (x2.size : Int) := by omega
          clear c1 c2
          go_wp2_with fail
          go_roundw
          case rel =>
            have hk1 : k + 1 ≤ N := hlt
            exact ⟨k + 1, hk1, by simp, HB1.out, Lib.hid (by rw [anyN_succ, hA.out, HT.out]; rfl)⟩
          case measure =>
            simp [intOf]
            omega
    · have hkk : k = N := by omega
      subst hkk
      clear hB
      go_wp2_with fail
      go_ret
      exact ⟨by rw [hA.out, HB520.out]; rfl, HB.out⟩
end Go.Proofs.Cr
namespace Go.Proofs.Cr
open Go.RowKit Go.Shelf
attribute [local go_sem] Oper.semAt_some

theorem toList_inj {a b : ByteArray} : a.toList = b.toList ↔ a = b := by
  rw [toList_data, toList_data]
  exact ⟨list_inj, fun h => by rw [h]⟩
set_option maxRecDepth 100000 in
set_option maxHeartbeats 1000000 in
theorem lawSame_any (a b c d : ByteArray) (x y : Int) (w : World) :
    Calls Tryz.prog 35 #[.agg #[.string a, .string b], .int .i64 x, .agg #[.string c, .string d], .int .i64 y] w fun e w' => e = .returned (.bool (decide (a = c ∧ b = d ∧ x = y))) ∧ Below w.heap.size w w' := by
  obtain ⟨hA1, hB1, hW1⟩ := two_new w #[.string a, .string b] #[.string c, .string d] 46 46
  have HW1 := Lib.hid hW1
  obtain ⟨⟨x0, x1⟩, _, _⟩ := hA1.two
  obtain ⟨⟨y0, y1⟩, _, _⟩ := hB1.two
  clear hW1
  by_cases h1 : a.toList = c.toList
  · by_cases h2 : b.toList = d.toList
    · by_cases h3 : x = y
      · have HD : Hid (decide (a = c ∧ b = d ∧ x = y) = true) := Lib.hid (decide_eq_true ⟨toList_inj.1 h1, toList_inj.1 h2, h3⟩)
        rw [HD.out]
        have q1 : (a.toList == c.toList) = true := by simp [h1]
        have q2 : (b.toList == d.toList) = true := by simp [h2]
        have q3 : (x == y) = true := by simp [h3]
        clear HD h1 h2 h3
        go_enter Tryz.func35, Tryz.ntmps35
        go_wp2_with fail
        go_ret
        exact ⟨rfl, HW1.out⟩
      · have HD : Hid (decide (a = c ∧ b = d ∧ x = y) = false) := Lib.hid (decide_eq_false (fun h => h3 h.2.2))
        rw [HD.out]
        have q1 : (a.toList == c.toList) = true := by simp [h1]
        have q2 : (b.toList == d.toList) = true := by simp [h2]
        have q3 : (x == y) = false := by simp [h3]
        clear HD h1 h2 h3
        go_enter Tryz.func35, Tryz.ntmps35
        go_wp2_with fail
        go_ret
        exact ⟨rfl, HW1.out⟩
    · have HD : Hid (decide (a = c ∧ b = d ∧ x = y) = false) := Lib.hid (decide_eq_false (fun h => h2 (by rw [h.2.1])))
      rw [HD.out]
      have q1 : (a.toList == c.toList) = true := by simp [h1]
      have q2 : (b.toList == d.toList) = false := by simp [h2]
      clear HD h1 h2
      go_enter Tryz.func35, Tryz.ntmps35
      go_wp2_with fail
      go_ret
      exact ⟨rfl, HW1.out⟩
  · have HD : Hid (decide (a = c ∧ b = d ∧ x = y) = false) := Lib.hid (decide_eq_false (fun h => h1 (by rw [h.1])))
    rw [HD.out]
    have q1 : (a.toList == c.toList) = false := by simp [h1]
    clear HD h1
    go_enter Tryz.func35, Tryz.ntmps35
    go_wp2_with fail
    go_ret
    exact ⟨rfl, HW1.out⟩
end Go.Proofs.Cr
namespace Go.Proofs.Cr
open Go.RowKit Go.Shelf
attribute [local go_sem] Oper.semAt_some

theorem ratio_q (x y : Nat) (hx : x < 9223372036854775808) (hy : y < 9223372036854775808) (h0 : 0 < y) {w : World} (hT : TabW w) :
    Calls Tryz.prog 72 #[.int .i64 (x : Int), .int .i64 (y : Int)] w (GotQ (mkRat x y) w) := by
  refine (ratio_any x y hx hy w hT).mono ?_
  rw [ratioS_q x y hx hy h0]
  exact fun e w' h => h
theorem sm_ratio (x y : Nat) (hx : x < 9223372036854775808) (hy : y < 9223372036854775808) (h0 : 0 < y) : sm 19 (mkRat x y) :=
  sm_of_mkRat h0 (by rw [Int.natAbs_natCast]; exact Nat.lt_trans hx (pow19_le (Nat.le_refl _))) (Nat.lt_trans hy (pow19_le (Nat.le_refl _)))
def coverQ (x y z s : Nat) : Rat := mkRat ((x * y : Nat) : Int) z * mkRat (s : Int) 1000
set_option maxRecDepth 100000 in
set_option maxHeartbeats 2000000 in
theorem cover1_any (x y z s : Nat) (hx : x ≤ 100000) (hy : y ≤ 1048576) (hz0 : 0 < z) (hz : z ≤ 1125899906842624) (hs : s ≤ 1048576) (w : World) (b0 b1 b2 b3 : Nat) (hb0 : Blk w b0 #[.int .i64 (x : Int)] 3) (hb1 : Blk w b1 #[.int .i64 (y : Int)] 3) (hb2 : Blk w b2 #[.int .i64 (z : Int)] 3) (hb3 : Blk w b3 #[.int .i64 (s : Int)] 3) (hT : TabW w) :
    Calls Tryz.prog 76 #[.pointer (some ⟨b0, 0, none⟩), .pointer (some ⟨b1, 0, none⟩), .pointer (some ⟨b2, 0, none⟩), .pointer (some ⟨b3, 0, none⟩)] w (TryPost (qN (coverQ x y z s), qD (coverQ x y z s), 0) w) := by
  have hR1 := Blk.new w #[.string ⟨#[]⟩, .string ⟨#[]⟩] 46
  have hW1 := below_alloc w (.cells #[.string ⟨#[]⟩, .string ⟨#[]⟩] 46)
  have l0 := hb0.lt; have l1 := hb1.lt; have l2 := hb2.lt; have l3 := hb3.lt
  have hb0 := hb0.pass hW1
  have hb1 := hb1.pass hW1
  have hb2 := hb2.pass hW1
  have hb3 := hb3.pass hW1
  have HK := Lib.hid (Kept.of (Nat.le_refl _) hW1.size hW1).drew
  have HT := Lib.hid hT
  have hxy : x * y ≤ 100000 * 1048576 := Nat.mul_le_mul hx hy
  obtain ⟨p, hp⟩ : ∃ p, p = x * y := ⟨_, rfl⟩
  have hwm : IntKind.i64.wrap ((x : Int) * (y : Int)) = (p : Int) := by
    rw [hp, ← Int.natCast_mul, ← hp, IntKind.wrap_i64]; rw [← hp] at hxy; omega
  rw [← hp] at hxy
  have hpb : p < 9223372036854775808 := by omega
  have hzb : z < 9223372036854775808 := by omega
  have hsb : s < 9223372036854775808 := by omega
  have TA := Lib.hid (fun W h => ratio_q p z hpb hzb hz0 (w := W) h)
  have TB := Lib.hid (fun W h => ratio_q s 1000 hsb (by decide) (by decide) (w := W) h)
  have oA : okQ (mkRat p z) := (ratio_fr p z hpb hzb).ok.1
  have oB : okQ (mkRat s 1000) := (ratio_fr s 1000 hsb (by decide)).ok.1
  have oC : okQ (mkRat p z * mkRat s 1000) := (sm.mul (sm_ratio p z hpb hzb hz0) (sm_ratio s 1000 hsb (by decide) (by decide))).ok (by decide) (Rat.mul_nonneg oA.1 oB.1)
  have HO := Lib.hid (And.intro oA (And.intro oB oC))
  have HQ : Hid (coverQ x y z s = mkRat p z * mkRat s 1000) := Lib.hid (by unfold coverQ; rw [hp])
  have k0 := hb0.cell 0; have k1 := hb1.cell 0; have k2 := hb2.cell 0; have k3 := hb3.cell 0
  clear hW1 hT oA oB oC hx hy hz hs hxy hp hpb hzb hsb k0 k1 k2 k3
  rw [HQ.out]
  generalize mkRat (p : Int) z = qa at *
  generalize mkRat (s : Int) 1000 = qb at *
  have hm : Tryz.prog.follows .mixedOrders = true := by kernel_rfl
  have hfnR : ∀ f, Fence.wide.fn f := fun _ => trivial
  go_enter Tryz.func76, Tryz.ntmps76
  go_wp2_with fail
  refine wp_region_J (fun W => W.cell? ⟨b0, 0, none⟩ = some (.int .i64 (x : Int)) ∧ W.cell? ⟨b1, 0, none⟩ = some (.int .i64 (y : Int)) ∧ W.cell? ⟨b2, 0, none⟩ = some (.int .i64 (z : Int)) ∧ W.cell? ⟨b3, 0, none⟩ = some (.int .i64 (s : Int))) [] hm ?hCells0 (fun hCells => ?_)
  case hCells0 => exact ⟨hb0.cell 0, hb1.cell 0, hb2.cell 0, hb3.cell 0⟩
  have g := hR1.drew
  clear hb0 hb1 hb2 hb3 hR1
  refine takeB hfnR (by kernel_rfl) 0 (v := ?_) rfl (by kernel_rfl) (fun _ _ _ h => h) (by kernel_rfl) hCells (Or.inl ⟨by rfl, ?_⟩) ?_
  rotate_left 1
  · intro w hSw; (try dsimp only at hSw); go_simp; (try with_reducible rfl)
  try simp only [Act.put, List.setIfInBounds_toArray, List.set_cons_zero, List.set_cons_succ]
  refine takeB hfnR (by kernel_rfl) 1 (v := ?_) rfl (by kernel_rfl) (fun _ _ _ h => h) (by kernel_rfl) hCells (Or.inl ⟨by rfl, ?_⟩) ?_
  rotate_left 1
  · intro w hSw; (try dsimp only at hSw); go_simp; (try with_reducible rfl)
  try simp only [Act.put, List.setIfInBounds_toArray, List.set_cons_zero, List.set_cons_succ]
  refine takeB hfnR (by kernel_rfl) 2 (v := ?_) rfl (by kernel_rfl) (fun _ _ _ h => h) (by kernel_rfl) hCells (Or.inl ⟨by rfl, ?_⟩) ?_
  rotate_left 1
  · intro w hSw; (try dsimp only at hSw); go_simp; (try with_reducible rfl)
  try simp only [Act.put, List.setIfInBounds_toArray, List.set_cons_zero, List.set_cons_succ]
  refine takeB hfnR (by kernel_rfl) 3 (v := ?_) rfl (by kernel_rfl) (fun _ _ _ h => h) (by kernel_rfl) hCells (Or.inl ⟨by rfl, ?_⟩) ?_
  rotate_left 1
  · intro w hSw; (try dsimp only at hSw); go_simp; (try with_reducible rfl)
  try simp only [Act.put, List.setIfInBounds_toArray, List.set_cons_zero, List.set_cons_succ]
  refine takeB hfnR (by kernel_rfl) 8 (v := ?_) rfl (by kernel_rfl) (fun _ _ _ h => h) (by kernel_rfl) hCells (Or.inl ⟨by rfl, ?_⟩) ?_
  rotate_left 1
  · intro w hSw; (try dsimp only at hSw); go_simp; (try with_reducible rfl)
  try simp only [Act.put, List.setIfInBounds_toArray, List.set_cons_zero, List.set_cons_succ]
  refine oneJ 4 (by kernel_rfl) rfl (fun K hK => ?_)
  go_simp
  refine ⟨rfl, ?_⟩
  (refine (callsIn_wide.2 (TA.out _ (HT.out.below HK.out.2.2 (Nat.le_refl _)))).mono ?_; rintro e w3 ⟨rfl, hv3⟩)
  refine hK.out _ _ (holdJ ?_ (fun hCells => ?_))
  · clear hK; (try dsimp only); (exact ⟨pc hv3 hCells.1, pc hv3 hCells.2.1, pc hv3 hCells.2.2.1, pc hv3 hCells.2.2.2⟩)
  clear hK K
  try simp only [Act.put, List.setIfInBounds_toArray, List.set_cons_zero, List.set_cons_succ]
  have HK := Lib.hid (HK.out.pass hv3)
  have g := g.pass hv3
  clear hv3
  refine takeB hfnR (by kernel_rfl) 5 (v := ?_) rfl (by kernel_rfl) (fun _ _ _ h => h) (by kernel_rfl) hCells (Or.inl ⟨by rfl, ?_⟩) ?_
  rotate_left 1
  · intro w hSw; (try dsimp only at hSw); go_simp; (try with_reducible rfl)
  try simp only [Act.put, List.setIfInBounds_toArray, List.set_cons_zero, List.set_cons_succ]
  refine takeB hfnR (by kernel_rfl) 6 (v := ?_) rfl (by kernel_rfl) (fun _ _ _ h => h) (by kernel_rfl) hCells (Or.inl ⟨by rfl, ?_⟩) ?_
  rotate_left 1
  · intro w hSw; (try dsimp only at hSw); go_simp; (try with_reducible rfl)
  try simp only [Act.put, List.setIfInBounds_toArray, List.set_cons_zero, List.set_cons_succ]
  refine oneJ 7 (by kernel_rfl) rfl (fun K hK => ?_)
  go_simp
  refine ⟨rfl, ?_⟩
  (refine (callsIn_wide.2 (must_ok _ _ _)).mono ?_; rintro e w4 ⟨rfl, hv4⟩)
  refine hK.out _ _ (holdJ ?_ (fun hCells => ?_))
  · clear hK; (try dsimp only); (exact ⟨pc hv4 hCells.1, pc hv4 hCells.2.1, pc hv4 hCells.2.2.1, pc hv4 hCells.2.2.2⟩)
  clear hK K
  try simp only [Act.put, List.setIfInBounds_toArray, List.set_cons_zero, List.set_cons_succ]
  have HK := Lib.hid (HK.out.pass hv4)
  have g := g.pass hv4
  clear hv4
  refine oneJ 9 (by kernel_rfl) rfl (fun K hK => ?_)
  go_simp
  refine ⟨rfl, ?_⟩
  (refine (callsIn_wide.2 (TB.out _ (HT.out.below HK.out.2.2 (Nat.le_refl _)))).mono ?_; rintro e w5 ⟨rfl, hv5⟩)
  refine hK.out _ _ (holdJ ?_ (fun hCells => ?_))
  · clear hK; (try dsimp only); (exact ⟨pc hv5 hCells.1, pc hv5 hCells.2.1, pc hv5 hCells.2.2.1, pc hv5 hCells.2.2.2⟩)
  clear hK K
  try simp only [Act.put, List.setIfInBounds_toArray, List.set_cons_zero, List.set_cons_succ]
  have HK := Lib.hid (HK.out.pass hv5)
  have g := g.pass hv5
  clear hv5
  refine takeB hfnR (by kernel_rfl) 10 (v := ?_) rfl (by kernel_rfl) (fun _ _ _ h => h) (by kernel_rfl) hCells (Or.inl ⟨by rfl, ?_⟩) ?_
  rotate_left 1
  · intro w hSw; (try dsimp only at hSw); go_simp; (try with_reducible rfl)
  try simp only [Act.put, List.setIfInBounds_toArray, List.set_cons_zero, List.set_cons_succ]
  refine takeB hfnR (by kernel_rfl) 11 (v := ?_) rfl (by kernel_rfl) (fun _ _ _ h => h) (by kernel_rfl) hCells (Or.inl ⟨by rfl, ?_⟩) ?_
  rotate_left 1
  · intro w hSw; (try dsimp only at hSw); go_simp; (try with_reducible rfl)
  try simp only [Act.put, List.setIfInBounds_toArray, List.set_cons_zero, List.set_cons_succ]
  refine oneJ 12 (by kernel_rfl) rfl (fun K hK => ?_)
  go_simp
  refine ⟨rfl, ?_⟩
  (refine (callsIn_wide.2 (must_ok _ _ _)).mono ?_; rintro e w6 ⟨rfl, hv6⟩)
  refine hK.out _ _ (holdJ ?_ (fun hCells => ?_))
  · clear hK; (try dsimp only); (exact ⟨pc hv6 hCells.1, pc hv6 hCells.2.1, pc hv6 hCells.2.2.1, pc hv6 hCells.2.2.2⟩)
  clear hK K
  try simp only [Act.put, List.setIfInBounds_toArray, List.set_cons_zero, List.set_cons_succ]
  have HK := Lib.hid (HK.out.pass hv6)
  have g := g.pass hv6
  clear hv6
  refine oneJ 13 (by kernel_rfl) rfl (fun K hK => ?_)
  go_simp
  refine ⟨rfl, ?_⟩
  (refine (callsIn_wide.2 (mul_q _ _ HO.out.1 HO.out.2.1 HO.out.2.2 (HT.out.below HK.out.2.2 (Nat.le_refl _)))).mono ?_; rintro e w7 ⟨rfl, hv7⟩)
  refine hK.out _ _ (holdJ ?_ (fun hCells => ?_))
  · clear hK; (try dsimp only); (exact ⟨pc hv7 hCells.1, pc hv7 hCells.2.1, pc hv7 hCells.2.2.1, pc hv7 hCells.2.2.2⟩)
  clear hK K
  try simp only [Act.put, List.setIfInBounds_toArray, List.set_cons_zero, List.set_cons_succ]
  have HK := Lib.hid (HK.out.pass hv7)
  have g := g.pass hv7
  clear hv7
  refine takeB hfnR (by kernel_rfl) 14 (v := ?_) rfl (by kernel_rfl) (fun _ _ _ h => h) (by kernel_rfl) hCells (Or.inl ⟨by rfl, ?_⟩) ?_
  rotate_left 1
  · intro w hSw; (try dsimp only at hSw); go_simp; (try with_reducible rfl)
  try simp only [Act.put, List.setIfInBounds_toArray, List.set_cons_zero, List.set_cons_succ]
  refine takeB hfnR (by kernel_rfl) 15 (v := ?_) rfl (by kernel_rfl) (fun _ _ _ h => h) (by kernel_rfl) hCells (Or.inl ⟨by rfl, ?_⟩) ?_
  rotate_left 1
  · intro w hSw; (try dsimp only at hSw); go_simp; (try with_reducible rfl)
  try simp only [Act.put, List.setIfInBounds_toArray, List.set_cons_zero, List.set_cons_succ]
  refine oneJ 16 (by kernel_rfl) rfl (fun K hK => ?_)
  go_simp
  refine ⟨rfl, ?_⟩
  (refine (callsIn_wide.2 (must_ok _ _ _)).mono ?_; rintro e w8 ⟨rfl, hv8⟩)
  refine hK.out _ _ (holdJ ?_ (fun hCells => ?_))
  · clear hK; (try dsimp only); (exact ⟨pc hv8 hCells.1, pc hv8 hCells.2.1, pc hv8 hCells.2.2.1, pc hv8 hCells.2.2.2⟩)
  clear hK K
  try simp only [Act.put, List.setIfInBounds_toArray, List.set_cons_zero, List.set_cons_succ]
  have HK := Lib.hid (HK.out.pass hv8)
  have g := g.pass hv8
  clear hv8
  obtain ⟨⟨r0, r1⟩, f0, f1⟩ := g.two
  refine oneJ 17 (by kernel_rfl) rfl (fun K hK => ?_)
  go_simp
  refine hK.out _ _ (holdJ ?_ (fun hCells => ?_))
  · clear hK; (try dsimp only); (exact ⟨far2 hCells.1 (by omega), far2 hCells.2.1 (by omega), far2 hCells.2.2.1 (by omega), far2 hCells.2.2.2 (by omega)⟩)
  clear hK K
  try simp only [Act.put, List.setIfInBounds_toArray, List.set_cons_zero, List.set_cons_succ]
  refine wpAnyJ_done (by kernel_rfl) (NoPan.normal ?_) _
  go_wp2_with fail
  refine bodyPost_ret (results_c1 (g := w.heap.size) rfl rfl ((g.set 0 _).set 1 _) Tryz.underlying46 rfl (by kernel_rfl)) rfl ?_
  exact ⟨.inl ⟨by simp, rfl⟩, (HK.out.2.2.setCell (by simp) _).setCell (by simp) _⟩
end Go.Proofs.Cr
namespace Go.Proofs.Cr
open Go.RowKit Go.Shelf
attribute [local go_sem] Oper.semAt_some

def inB (n lo hi : Int) : Bool := decide (lo ≤ n) && decide (n ≤ hi)
def coverS (wi sp se ar : Int) : ByteArray × ByteArray × Int :=
  if inB wi 0 100000 = true ∧ inB sp 0 1048576 = true ∧ inB se 0 1048576 = true ∧ inB ar 1 1125899906842624 = true then
    (qN (coverQ wi.toNat sp.toNat ar.toNat se.toNat), qD (coverQ wi.toNat sp.toNat ar.toNat se.toNat), 0) else (⟨#[]⟩, ⟨#[]⟩, 2)
set_option maxRecDepth 100000 in
set_option maxHeartbeats 4000000 in
/-- 'detect.Cover'. -/
theorem Cover_any (wi sp se ar : Int) (w : World) (hT : TabW w) :
    Calls Tryz.prog 33 #[.int .i64 wi, .int .i64 sp, .int .i64 se, .int .i64 ar] w (PartPost (coverS wi sp se ar) w) := by
  obtain ⟨⟨hA1, hA2, hA3⟩, ⟨hA4, hA5⟩, hW1⟩ := five_new w #[.int .i64 wi] #[.int .i64 sp] #[.int .i64 se] #[.int .i64 ar] #[.string ⟨#[]⟩, .string ⟨#[]⟩] 3 3 3 3 46
  have TA := Lib.hid (fun W => within_any wi 0 100000 W)
  have TB := Lib.hid (fun W => within_any sp 0 1048576 W)
  have TC := Lib.hid (fun W => within_any se 0 1048576 W)
  have TD := Lib.hid (fun W => within_any ar 1 1125899906842624 W)
  have HW1 := Lib.hid hW1
  have HT := Lib.hid hT
  have c1 := hA1.cell 0
  have c2 := hA2.cell 0
  have c3 := hA3.cell 0
  have c4 := hA4.cell 0
  clear hW1 hT
  obtain ⟨d1, e1⟩ : ∃ d, d = inB wi 0 100000 := ⟨_, rfl⟩
  obtain ⟨d2, e2⟩ : ∃ d, d = inB sp 0 1048576 := ⟨_, rfl⟩
  obtain ⟨d3, e3⟩ : ∃ d, d = inB se 0 1048576 := ⟨_, rfl⟩
  obtain ⟨d4, e4⟩ : ∃ d, d = inB ar 1 1125899906842624 := ⟨_, rfl⟩
  unfold inB at e1 e2 e3 e4
  rw [← e1] at TA
  rw [← e2] at TB
  rw [← e3] at TC
  rw [← e4] at TD
  have HE := Lib.hid (show coverS wi sp se ar = if d1 = true ∧ d2 = true ∧ d3 = true ∧ d4 = true then (qN (coverQ wi.toNat sp.toNat ar.toNat se.toNat), qD (coverQ wi.toNat sp.toNat ar.toNat se.toNat), 0) else (⟨#[]⟩, ⟨#[]⟩, 2) by rw [e1, e2, e3, e4]; rfl)
  have HD := Lib.hid (And.intro e1 (And.intro e2 (And.intro e3 e4)))
  clear e1 e2 e3 e4
  obtain ⟨⟨r0, r1⟩, f0, f1⟩ := hA5.two
  go_enter Tryz.func33, Tryz.ntmps33
  go_wp2_with fail
  refine (TA.out _).mono ?_
  rintro e w2 ⟨rfl, rfl⟩
  cases d1 with
  | false =>
    go_wp2_with fail
    refine bodyPost_ret (results_ct (g := w.heap.size + 1 + 1 + 1 + 1) rfl rfl hA5 Tryz.underlying46 rfl (by kernel_rfl)) rfl ?_
    exact ⟨by rw [HE.out]; simp [pv], HW1.out⟩
  | true =>
    go_wp2_with fail
    refine (TB.out _).mono ?_
    rintro e w2 ⟨rfl, rfl⟩
    cases d2 with
    | false =>
      go_wp2_with fail
      refine bodyPost_ret (results_ct (g := w.heap.size + 1 + 1 + 1 + 1) rfl rfl hA5 Tryz.underlying46 rfl (by kernel_rfl)) rfl ?_
      exact ⟨by rw [HE.out]; simp [pv], HW1.out⟩
    | true =>
      go_wp2_with fail
      refine (TC.out _).mono ?_
      rintro e w2 ⟨rfl, rfl⟩
      cases d3 with
      | false =>
        go_wp2_with fail
        refine bodyPost_ret (results_ct (g := w.heap.size + 1 + 1 + 1 + 1) rfl rfl hA5 Tryz.underlying46 rfl (by kernel_rfl)) rfl ?_
        exact ⟨by rw [HE.out]; simp [pv], HW1.out⟩
      | true =>
        go_wp2_with fail
        refine (TD.out _).mono ?_
        rintro e w2 ⟨rfl, rfl⟩
        cases d4 with
        | false =>
          go_wp2_with fail
          refine bodyPost_ret (results_ct (g := w.heap.size + 1 + 1 + 1 + 1) rfl rfl hA5 Tryz.underlying46 rfl (by kernel_rfl)) rfl ?_
          exact ⟨by rw [HE.out]; simp [pv], HW1.out⟩
        | true =>
          have hb : (0 ≤ wi ∧ wi ≤ 100000) ∧ (0 ≤ sp ∧ sp ≤ 1048576) ∧ (0 ≤ se ∧ se ≤ 1048576) ∧ (1 ≤ ar ∧ ar ≤ 1125899906842624) := by
            have h := HD.out
            simp only [Bool.true_eq, Bool.and_eq_true, decide_eq_true_eq] at h
            exact h
          obtain ⟨x, rfl⟩ : ∃ x : Nat, wi = x := ⟨wi.toNat, by omega⟩
          obtain ⟨y, rfl⟩ : ∃ y : Nat, sp = y := ⟨sp.toNat, by omega⟩
          obtain ⟨s, rfl⟩ : ∃ s : Nat, se = s := ⟨se.toNat, by omega⟩
          obtain ⟨z, rfl⟩ : ∃ z : Nat, ar = z := ⟨ar.toNat, by omega⟩
          have TT := Lib.hid (tried_any 76 #[.pointer (some ⟨w.heap.size, 0, none⟩), .pointer (some ⟨w.heap.size + 1, 0, none⟩), .pointer (some ⟨w.heap.size + 1 + 1 + 1, 0, none⟩), .pointer (some ⟨w.heap.size + 1 + 1, 0, none⟩)] _ _ (fun _ _ => rfl)
            (fun W hb' => cover1_any x y z s (by omega) (by omega) (by omega) (by omega) (by omega) W w.heap.size (w.heap.size + 1) (w.heap.size + 1 + 1 + 1) (w.heap.size + 1 + 1) (hA1.pass hb') (hA2.pass hb') (hA4.pass hb') (hA3.pass hb') (HT.out.below (HW1.out.trans (hb'.mono HW1.out.size)) (Nat.le_refl _))))
          have hmf : ∀ (fn : Fn) (first cap : Array Value) (w : World), (Instr.makeFunc fn first cap).run Tryz.prog w = .ok (.func fn first cap) w := fun _ _ _ _ => rfl
          clear hb
          go_wp2_with fail
          refine TT.out.mono ?_
          rintro e w3 ⟨he, hb3⟩
          simp only [pv] at he
          subst he
          have hR3 := hA5.pass hb3
          have HB3 := Lib.hid (HW1.out.trans (hb3.mono HW1.out.size))
          clear hb3 hA1 hA2 hA3 hA4 hA5 c1 c2 c3 c4 r0 r1 f0 f1
          obtain ⟨⟨r0, r1⟩, f0, f1⟩ := hR3.two
          go_wp2_with fail
          refine bodyPost_ret (results_ct (g := w.heap.size + 1 + 1 + 1 + 1) rfl rfl ((hR3.set 0 _).set 1 _) Tryz.underlying46 rfl (by kernel_rfl)) rfl ?_
          exact ⟨by rw [HE.out]; simp [pv], (HB3.out.setCell (by simp; omega) _).setCell (by simp; omega) _⟩
end Go.Proofs.Cr
