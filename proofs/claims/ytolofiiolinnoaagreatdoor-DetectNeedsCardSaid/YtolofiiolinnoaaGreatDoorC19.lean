/- Contracts of functions that the laws reach, and plain lemmas. Part 19. -/
import Derived.Test.YtolofiiolinnoaaGreatDoorC18
set_option linter.all false
namespace Go.Proofs.Cr
open Go.RowKit Go.Shelf
attribute [local go_sem] Oper.semAt_some

theorem need_sm {L : List Bd} {N k : Nat} {q r : Rat} (h : CurveP L N) (hq0 : 0 ≤ q) (hs : sm k q) (hr : NeedR L N q r) : sm (k + 109) r := by
  rcases hr with ⟨_, rfl⟩ | ⟨i, hi, h1, h2, rfl⟩
  · exact ⟨Nat.pow_pos (by decide), by rw [show (0 : Rat).den = 1 from rfl]; exact Nat.one_lt_pow (by omega) (by decide)⟩
  · obtain ⟨⟨f1, s1⟩, f2, s2⟩ := shortB_fr (h.sh i (by omega))
    obtain ⟨⟨f3, s3⟩, f4, s4⟩ := shortB_fr (h.sh (i + 1) (by omega))
    have hup := h.up i hi
    have d1 : 0 ≤ qx L (i + 1) - qx L i := by grind
    have d2 : 0 < qy L (i + 1) - qy L i := by grind
    have n2 : qy L (i + 1) - qy L i ≠ 0 := by grind
    have m1 : sm 36 (qx L (i + 1) - qx L i) := sm.sub s3 s1 f3.1 f1.1
    have m2 : sm 36 (qy L (i + 1) - qy L i) := sm.sub s4 s2 f4.1 f2.1
    have m3 : sm 72 ((qx L (i + 1) - qx L i) / (qy L (i + 1) - qy L i)) := sm.div m1 m2 (by grind) n2
    have d3 : 0 ≤ (qx L (i + 1) - qx L i) / (qy L (i + 1) - qy L i) := by rw [Rat.div_def]; exact Rat.mul_nonneg d1 (Rat.le_of_lt (Rat.inv_pos.2 d2))
    have m4 : sm (k + 18) (q - qy L i) := sm.sub hs s2 hq0 f2.1
    have d4 : 0 ≤ q - qy L i := by grind
    have m5 : sm (72 + (k + 18)) ((qx L (i + 1) - qx L i) / (qy L (i + 1) - qy L i) * (q - qy L i)) := sm.mul m3 m4
    have d5 : 0 ≤ (qx L (i + 1) - qx L i) / (qy L (i + 1) - qy L i) * (q - qy L i) := Rat.mul_nonneg d3 d4
    have m6 : sm (18 + (72 + (k + 18)) + 1) (qx L i + (qx L (i + 1) - qx L i) / (qy L (i + 1) - qy L i) * (q - qy L i)) := sm.add s1 m5 f1.1 d5
    exact m6.mono (by omega)
theorem of256 (y : Nat) (hy : y < 256) (w : World) (hT : TabW w) : Calls Tryz.prog 30 #[.int .i64 (y : Int), .int .i64 256] w fun e w' => e = .returned (.agg #[.string (qN (mkRat y 256)), .string (qD (mkRat y 256))]) ∧ Below w.heap.size w w' := lawOf_any y 256 (by omega) (by decide) (by decide) w hT
theorem part_ok (y : Nat) (hy : y < 256) : okQ (mkRat y 256) ∧ sm 19 (mkRat y 256) := ⟨(ratio_fr y 256 (by omega) (by decide)).ok.1, sm_ratio y 256 (by omega) (by decide) (by decide)⟩
theorem part_less {c : Rat} {y : Nat} (hy : y < 256) (hc : 0 < c) : c * mkRat y 256 < c := by
  have h1 : mkRat y 256 < 1 := by
    rw [Rat.mkRat_eq_div]
    have : ((y : Int) : Rat) < ((256 : Int) : Rat) := Rat.intCast_lt_intCast.2 (by omega)
    rw [Rat.div_lt_iff (by decide +kernel)]
    have e : (1 : Rat) * ((256 : Nat) : Rat) = ((256 : Int) : Rat) := by decide +kernel
    rw [e]; exact this
  have h2 := Rat.mul_lt_mul_of_pos_left h1 hc
  rwa [Rat.mul_one] at h2
theorem qN_zero {c : Rat} (h : okQ c) : ((qN c).toList == [48]) = decide (c = 0) := by
  have hf := h.fr
  have h1 := (chk_ok hf.chk).1
  rw [zero_eq h1, Bool.eq_iff_iff, decide_eq_true_eq, decide_eq_true_eq]
  have := hf.nvs.1
  rw [← Rat.num_eq_zero]
  omega
theorem last_chance {L : List Bd} {N : Nat} (h : CurveP L N) : (L.getD N .zero).hn = qN (qy L N) ∧ (L.getD N .zero).hd = qD (qy L N) ∧ okQ (qy L N) := by
  obtain ⟨_, f, _⟩ := shortB_fr (h.sh N (Nat.le_refl _))
  exact ⟨f.ok.2.1, f.ok.2.2, f.ok.1⟩
set_option maxRecDepth 100000 in
set_option maxHeartbeats 8000000 in
/-- The law DetectNeeds. -/
theorem Needs_walk (A : Option Addr) (c : Nat) (L : List Bd) (a1 a2 : ByteArray) (y : Nat) (hy : y < 256) (w : World) (hr : L.length ≤ 66 → RdB w A L) (hc : L.length ≤ c) (hT : TabW w) (hZ : ZO w) :
    Calls Tryz.prog 6 #[.slice A L.length c, .agg #[.string a1, .string a2], .int .u8 (y : Int)] w fun e w' => e = .returned (.bool true) ∧ Below w.heap.size w w' := by
  have ga := Blk.new w #[.string a1, .string a2] 46
  have hW1 := below_alloc w (.cells #[.string a1, .string a2] 46)
  have TA := Lib.hid (alive_any _ (hT.below hW1 (Nat.le_refl _)) (hZ.below hW1 (Nat.le_refl _)))
  have HR := Lib.hid (fun h W (hb : Below w.heap.size w W) => (hr h).below hb (Nat.le_refl _))
  have HTZ := Lib.hid (fun W (hb : Below w.heap.size w W) => And.intro (hT.below hb (Nat.le_refl _)) (hZ.below hb (Nat.le_refl _)))
  have HB := Lib.hid hW1
  have HC := Lib.hid hc
  have TG := Lib.hid (fun W (hb : Below w.heap.size w W) => great_all A c L W (fun h => HR.out h W hb))
  have TN := Lib.hid (fun W (hb : Below w.heap.size w W) (h : L.length ≤ 66) => Need_any A c L a1 a2 W (HR.out h W hb) HC.out (HTZ.out W hb).1 (HTZ.out W hb).2)
  have TE := Lib.hid (fun N W (h : EnvL A c L N W) q (hq : okQ q) (hs : sm 300 q) => Chance_q h q hq hs)
  have HEE := Lib.hid (fun N W (hb : Below w.heap.size w W) (h : L.length ≤ 66) (hN : CurveP L N) => (show EnvL A c L N W from ⟨⟨HR.out h W hb, HC.out⟩, HTZ.out W hb, hN⟩))
  have TS := Lib.hid (fun W g (h : Blk W g #[.string a1, .string a2] 46) => lawShort_any 40 (some ⟨g, 0, none⟩) 1 [(a1, a2)] W (RdP.one h))
  have HY := Lib.hid hy
  obtain ⟨M, hM⟩ : ∃ M, M = L.length := ⟨_, rfl⟩
  rw [← hM] at TG TN TE HEE ⊢
  have HM := Lib.hid hM
  have hfnR : ∀ f, Fence.wide.fn f := fun _ => trivial
  have hm : Tryz.prog.follows .mixedOrders = true := by kernel_rfl
  have hyw : IntKind.i64.wrap (y : Int) = (y : Int) := i64_id y (by omega)
  clear hr hc hT hZ hW1 hM hy
  go_enter Tryz.func6, Tryz.ntmps6
  go_wp2_with fail
  refine TA.out.mono ?_
  rintro e w1 ⟨rfl, hb1⟩
  have HB := Lib.hid (HB.out.trans (hb1.mono HB.out.size))
  have ga := ga.pass hb1
  clear hb1
  go_wp2_with fail
  refine (TG.out _ HB.out).mono ?_
  rintro e w2 ⟨⟨b, rfl, hgb⟩, hb2⟩
  have HB := Lib.hid (HB.out.trans (hb2.mono HB.out.size))
  have ga := ga.pass hb2
  have HG := Lib.hid hgb
  clear hb2 hgb
  cases b with
  | true =>
    go_wp2_with fail
    go_ret
    exact ⟨rfl, HB.out⟩
  | false =>
    have H66 := Lib.hid (HG.out rfl).1
    have gS := Blk.new w2 #[.string a1, .string a2] 46
    have HB := Lib.hid (HB.out.alloc HB.out.size (.cells #[.string a1, .string a2] 46))
    have ga2 := ga.alloc (.cells #[.string a1, .string a2] 46)
    obtain ⟨⟨c0_0, c0_1⟩, _, _⟩ := ga.two
    have TSS := Lib.hid (TS.out _ _ gS)
    rw [show [(a1, a2)].length = 1 from rfl] at TSS
    clear gS
    go_wp2_with fail
    refine TSS.out.mono ?_
    rintro e w3 ⟨rfl, hb3⟩
    have HB := Lib.hid (HB.out.trans (hb3.mono HB.out.size))
    have ga := ga2.pass hb3
    obtain ⟨d, hd⟩ : ∃ d, d = fewL 40 [(a1, a2)] := ⟨_, rfl⟩
    rw [← hd]
    have HD := Lib.hid hd
    clear hb3 hd ga2 c0_0 c0_1
    cases d with
    | false =>
      go_wp2_with fail
      go_ret
      exact ⟨rfl, HB.out⟩
    | true =>
      obtain ⟨⟨c0_0, c0_1⟩, _, _⟩ := ga.two
      go_wp2_with fail
      refine (TN.out _ HB.out H66.out).mono ?_
      rintro e w4 ⟨⟨he, hk⟩ | ⟨N, q, hk, ⟨he, hk2⟩ | ⟨cc, he, hk2, hk3⟩⟩, hb4⟩
      · simp only [pv] at he
        subst he
        have HB := Lib.hid (HB.out.trans (hb4.mono HB.out.size))
        have HB := Lib.hid (HB.out.alloc HB.out.size (.cells #[.string ⟨#[]⟩, .string ⟨#[]⟩] 46))
        have ga := (ga.pass hb4).alloc (.cells #[.string ⟨#[]⟩, .string ⟨#[]⟩] 46)
        have HK := Lib.hid (HB.out.drew)
        clear hb4 hk c0_0 c0_1
        go_wp2_with fail
        refine wp_region_J (fun W => W.cell? ⟨w.heap.size, 0, none⟩ = some (.string a1) ∧ W.cell? ⟨w.heap.size, 1, none⟩ = some (.string a2)) [] hm ?hCells0 (fun hCells => ?_)
        case hCells0 => exact ga.two.1
        refine takeB hfnR (by kernel_rfl) 0 (v := ?_) rfl (by kernel_rfl) (fun _ _ _ h => h) (by kernel_rfl) hCells (Or.inl ⟨by rfl, ?_⟩) ?_
        rotate_left 1
        · intro w hSw; (try dsimp only at hSw); go_simp; (try with_reducible rfl)
        try simp only [Act.put, List.setIfInBounds_toArray, List.set_cons_zero, List.set_cons_succ]
        refine takeB hfnR (by kernel_rfl) 1 (v := ?_) rfl (by kernel_rfl) (fun _ _ _ h => h) (by kernel_rfl) hCells (Or.inl ⟨by rfl, ?_⟩) ?_
        rotate_left 1
        · intro w hSw; (try dsimp only at hSw); go_simp; (try with_reducible rfl)
        try simp only [Act.put, List.setIfInBounds_toArray, List.set_cons_zero, List.set_cons_succ]
        refine takeB hfnR (by kernel_rfl) 2 (v := ?_) rfl (by kernel_rfl) (fun _ _ _ h => h) (by kernel_rfl) hCells (Or.inl ⟨by rfl, ?_⟩) ?_
        rotate_left 1
        · intro w hSw; (try dsimp only at hSw); go_simp; (try with_reducible rfl)
        try simp only [Act.put, List.setIfInBounds_toArray, List.set_cons_zero, List.set_cons_succ]
        refine takeB hfnR (by kernel_rfl) 3 (v := ?_) rfl (by kernel_rfl) (fun _ _ _ h => h) (by kernel_rfl) hCells (Or.inl ⟨by rfl, ?_⟩) ?_
        rotate_left 1
        · intro w hSw; (try dsimp only at hSw); go_simp; (try with_reducible rfl)
        try simp only [Act.put, List.setIfInBounds_toArray, List.set_cons_zero, List.set_cons_succ]
        refine takeB hfnR (by kernel_rfl) 4 (v := ?_) rfl (by kernel_rfl) (fun _ _ _ h => h) (by kernel_rfl) hCells (Or.inl ⟨by rfl, ?_⟩) ?_
        rotate_left 1
        · intro w hSw; (try dsimp only at hSw); go_simp; (try with_reducible rfl)
        try simp only [Act.put, List.setIfInBounds_toArray, List.set_cons_zero, List.set_cons_succ]
        refine takeB hfnR (by kernel_rfl) 5 (v := undef) rfl (by kernel_rfl) (fun _ _ _ h => h) (by kernel_rfl) hCells (Or.inr ⟨by rfl, rfl⟩) ?_
        try simp only [Act.put, List.setIfInBounds_toArray, List.set_cons_zero, List.set_cons_succ]
        refine takeB hfnR (by kernel_rfl) 6 (v := undef) rfl (by kernel_rfl) (fun _ _ _ h => h) (by kernel_rfl) hCells (Or.inr ⟨by rfl, rfl⟩) ?_
        try simp only [Act.put, List.setIfInBounds_toArray, List.set_cons_zero, List.set_cons_succ]
        refine takeB hfnR (by kernel_rfl) 7 (v := undef) rfl (by kernel_rfl) (fun _ _ _ h => h) (by kernel_rfl) hCells (Or.inr ⟨by rfl, rfl⟩) ?_
        try simp only [Act.put, List.setIfInBounds_toArray, List.set_cons_zero, List.set_cons_succ]
        refine takeB hfnR (by kernel_rfl) 8 (v := undef) rfl (by kernel_rfl) (fun _ _ _ h => h) (by kernel_rfl) hCells (Or.inr ⟨by rfl, rfl⟩) ?_
        try simp only [Act.put, List.setIfInBounds_toArray, List.set_cons_zero, List.set_cons_succ]
        refine takeB hfnR (by kernel_rfl) 9 (v := undef) rfl (by kernel_rfl) (fun _ _ _ h => h) (by kernel_rfl) hCells (Or.inr ⟨by rfl, rfl⟩) ?_
        try simp only [Act.put, List.setIfInBounds_toArray, List.set_cons_zero, List.set_cons_succ]
        refine takeB hfnR (by kernel_rfl) 10 (v := undef) rfl (by kernel_rfl) (fun _ _ _ h => h) (by kernel_rfl) hCells (Or.inr ⟨by rfl, rfl⟩) ?_
        try simp only [Act.put, List.setIfInBounds_toArray, List.set_cons_zero, List.set_cons_succ]
        refine takeB hfnR (by kernel_rfl) 11 (v := undef) rfl (by kernel_rfl) (fun _ _ _ h => h) (by kernel_rfl) hCells (Or.inr ⟨by rfl, rfl⟩) ?_
        try simp only [Act.put, List.setIfInBounds_toArray, List.set_cons_zero, List.set_cons_succ]
        refine takeB hfnR (by kernel_rfl) 12 (v := undef) rfl (by kernel_rfl) (fun _ _ _ h => h) (by kernel_rfl) hCells (Or.inr ⟨by rfl, rfl⟩) ?_
        try simp only [Act.put, List.setIfInBounds_toArray, List.set_cons_zero, List.set_cons_succ]
        refine takeB hfnR (by kernel_rfl) 13 (v := undef) rfl (by kernel_rfl) (fun _ _ _ h => h) (by kernel_rfl) hCells (Or.inr ⟨by rfl, rfl⟩) ?_
        try simp only [Act.put, List.setIfInBounds_toArray, List.set_cons_zero, List.set_cons_succ]
        refine takeB hfnR (by kernel_rfl) 14 (v := undef) rfl (by kernel_rfl) (fun _ _ _ h => h) (by kernel_rfl) hCells (Or.inr ⟨by rfl, rfl⟩) ?_
        try simp only [Act.put, List.setIfInBounds_toArray, List.set_cons_zero, List.set_cons_succ]
        refine takeB hfnR (by kernel_rfl) 15 (v := undef) rfl (by kernel_rfl) (fun _ _ _ h => h) (by kernel_rfl) hCells (Or.inr ⟨by rfl, rfl⟩) ?_
        try simp only [Act.put, List.setIfInBounds_toArray, List.set_cons_zero, List.set_cons_succ]
        refine takeB hfnR (by kernel_rfl) 16 (v := undef) rfl (by kernel_rfl) (fun _ _ _ h => h) (by kernel_rfl) hCells (Or.inr ⟨by rfl, rfl⟩) ?_
        try simp only [Act.put, List.setIfInBounds_toArray, List.set_cons_zero, List.set_cons_succ]
        refine takeB hfnR (by kernel_rfl) 17 (v := undef) rfl (by kernel_rfl) (fun _ _ _ h => h) (by kernel_rfl) hCells (Or.inr ⟨by rfl, rfl⟩) ?_
        try simp only [Act.put, List.setIfInBounds_toArray, List.set_cons_zero, List.set_cons_succ]
        refine takeB hfnR (by kernel_rfl) 18 (v := undef) rfl (by kernel_rfl) (fun _ _ _ h => h) (by kernel_rfl) hCells (Or.inr ⟨by rfl, rfl⟩) ?_
        try simp only [Act.put, List.setIfInBounds_toArray, List.set_cons_zero, List.set_cons_succ]
        refine takeB hfnR (by kernel_rfl) 19 (v := ?_) rfl (by kernel_rfl) (fun _ _ _ h => h) (by kernel_rfl) hCells (Or.inl ⟨by rfl, ?_⟩) ?_
        rotate_left 1
        · intro w hSw; (try dsimp only at hSw); go_simp; (try with_reducible rfl)
        try simp only [Act.put, List.setIfInBounds_toArray, List.set_cons_zero, List.set_cons_succ]
        refine takeB hfnR (by kernel_rfl) 20 (v := ?_) rfl (by kernel_rfl) (fun _ _ _ h => h) (by kernel_rfl) hCells (Or.inl ⟨by rfl, ?_⟩) ?_
        rotate_left 1
        · intro w hSw; (try dsimp only at hSw); go_simp; (try with_reducible rfl)
        try simp only [Act.put, List.setIfInBounds_toArray, List.set_cons_zero, List.set_cons_succ]
        refine takeB hfnR (by kernel_rfl) 21 (v := ?_) rfl (by kernel_rfl) (fun _ _ _ h => h) (by kernel_rfl) hCells (Or.inl ⟨by rfl, ?_⟩) ?_
        rotate_left 1
        · intro w hSw; (try dsimp only at hSw); go_simp; (try with_reducible rfl)
        try simp only [Act.put, List.setIfInBounds_toArray, List.set_cons_zero, List.set_cons_succ]
        refine wpAnyJ_done (by kernel_rfl) (NoPan.normal ?_) _
        go_wp2_with fail
        go_ret
        exact ⟨rfl, HK.out⟩
      · simp only [pv] at he
        subst he
        have HB := Lib.hid (HB.out.trans (hb4.mono HB.out.size))
        have hRd := (HR.out (by have := HM.out; have := H66.out; omega) _ HB.out).2 (by have := hk.1.len; omega)
        have HB := Lib.hid (HB.out.alloc HB.out.size (.cells #[.string ⟨#[]⟩, .string ⟨#[]⟩] 46))
        have ga := (ga.pass hb4).alloc (.cells #[.string ⟨#[]⟩, .string ⟨#[]⟩] 46)
        have HK := Lib.hid ((Kept.of (Nat.le_refl _) HB.out.size HB.out).drew)
        obtain ⟨b, off, rfl, hbb, hcs⟩ := hRd
        have hMN : M = N + 1 := by have := hk.1.len; have := HM.out; omega
        have hl := (hcs N (by have := hk.1.len; omega)).2
        have hlc := last_chance hk.1
        rw [hlc.1, hlc.2.1] at hl
        have e1 := hk.2.2.1
        have e2 := hk.2.2.2
        rw [e1, e2] at ga
        have hl := And.intro (pc (below_alloc w4 (.cells #[.string ⟨#[]⟩, .string ⟨#[]⟩] 46)) hl.1) (pc (below_alloc w4 (.cells #[.string ⟨#[]⟩, .string ⟨#[]⟩] 46)) hl.2)
        have TQ := Lib.hid (fun W => cmp_q q (qy L N) hk.2.1.1 hlc.2.2 W)
        have hgt : cmpQ q (qy L N) = 1 := cmpQ_gt hk2
        rw [hgt] at TQ
        have hsub : IntKind.i64.wrap ((M : Int) - 1) = (N : Int) := by rw [hMN]; have := i64_id N (by have := hk.1.most; omega); simpa using this
        have hlt : (N : Int) < (M : Int) := by omega
        have hn0 : ¬ (N : Int) < 0 := by omega
        generalize qy L N = ql at TQ hl hgt
        clear hb4 hk hk2 c0_0 c0_1 hcs hlc e1 e2 hgt hMN
        go_wp2_with fail
        refine wp_region_J (fun W => (W.cell? ⟨w.heap.size, 0, none⟩ = some (.string (qN q)) ∧ W.cell? ⟨w.heap.size, 1, none⟩ = some (.string (qD q))) ∧ (W.cell? ⟨b, off + N * 4 + 2, none⟩ = some (.string (qN ql)) ∧ W.cell? ⟨b, off + N * 4 + 3, none⟩ = some (.string (qD ql)))) [] hm ?hCells0 (fun hCells => ?_)
        case hCells0 => exact ⟨ga.two.1, hl⟩
        refine takeB hfnR (by kernel_rfl) 0 (v := ?_) rfl (by kernel_rfl) (fun _ _ _ h => h) (by kernel_rfl) hCells (Or.inl ⟨by rfl, ?_⟩) ?_
        rotate_left 1
        · intro w hSw; (try dsimp only at hSw); go_simp; (try with_reducible rfl)
        try simp only [Act.put, List.setIfInBounds_toArray, List.set_cons_zero, List.set_cons_succ]
        refine takeB hfnR (by kernel_rfl) 1 (v := ?_) rfl (by kernel_rfl) (fun _ _ _ h => h) (by kernel_rfl) hCells (Or.inl ⟨by rfl, ?_⟩) ?_
        rotate_left 1
        · intro w hSw; (try dsimp only at hSw); go_simp; (try with_reducible rfl)
        try simp only [Act.put, List.setIfInBounds_toArray, List.set_cons_zero, List.set_cons_succ]
        refine takeB hfnR (by kernel_rfl) 2 (v := ?_) rfl (by kernel_rfl) (fun _ _ _ h => h) (by kernel_rfl) hCells (Or.inl ⟨by rfl, ?_⟩) ?_
        rotate_left 1
        · intro w hSw; (try dsimp only at hSw); go_simp; (try with_reducible rfl)
        try simp only [Act.put, List.setIfInBounds_toArray, List.set_cons_zero, List.set_cons_succ]
        refine takeB hfnR (by kernel_rfl) 3 (v := ?_) rfl (by kernel_rfl) (fun _ _ _ h => h) (by kernel_rfl) hCells (Or.inl ⟨by rfl, ?_⟩) ?_
        rotate_left 1
        · intro w hSw; (try dsimp only at hSw); go_simp; (try with_reducible rfl)
        try simp only [Act.put, List.setIfInBounds_toArray, List.set_cons_zero, List.set_cons_succ]
        refine takeB hfnR (by kernel_rfl) 4 (v := ?_) rfl (by kernel_rfl) (fun _ _ _ h => h) (by kernel_rfl) hCells (Or.inl ⟨by rfl, ?_⟩) ?_
        rotate_left 1
        · intro w hSw; (try dsimp only at hSw); go_simp; (try with_reducible rfl)
        try simp only [Act.put, List.setIfInBounds_toArray, List.set_cons_zero, List.set_cons_succ]
        refine takeB hfnR (by kernel_rfl) 5 (v := ?_) rfl (by kernel_rfl) (fun _ _ _ h => h) (by kernel_rfl) hCells (Or.inl ⟨by rfl, ?_⟩) ?_
        rotate_left 1
        · intro w hSw; (try dsimp only at hSw); go_simp; (try with_reducible rfl)
        try simp only [Act.put, List.setIfInBounds_toArray, List.set_cons_zero, List.set_cons_succ]
        refine takeB hfnR (by kernel_rfl) 6 (v := ?_) rfl (by kernel_rfl) (fun _ _ _ h => h) (by kernel_rfl) hCells (Or.inl ⟨by rfl, ?_⟩) ?_
        rotate_left 1
        · intro w hSw; (try dsimp only at hSw); go_simp; (try with_reducible rfl)
        try simp only [Act.put, List.setIfInBounds_toArray, List.set_cons_zero, List.set_cons_succ]
        refine takeB hfnR (by kernel_rfl) 7 (v := ?_) rfl (by kernel_rfl) (fun _ _ _ h => h) (by kernel_rfl) hCells (Or.inl ⟨by rfl, ?_⟩) ?_
        rotate_left 1
        · intro w hSw; (try dsimp only at hSw); go_simp; (try with_reducible rfl)
        try simp only [Act.put, List.setIfInBounds_toArray, List.set_cons_zero, List.set_cons_succ]
        refine takeB hfnR (by kernel_rfl) 8 (v := ?_) rfl (by kernel_rfl) (fun _ _ _ h => h) (by kernel_rfl) hCells (Or.inl ⟨by rfl, ?_⟩) ?_
        rotate_left 1
        · intro w hSw; (try dsimp only at hSw); go_simp; (try with_reducible rfl)
        try simp only [Act.put, List.setIfInBounds_toArray, List.set_cons_zero, List.set_cons_succ]
        refine takeB hfnR (by kernel_rfl) 9 (v := ?_) rfl (by kernel_rfl) (fun _ _ _ h => h) (by kernel_rfl) hCells (Or.inl ⟨by rfl, ?_⟩) ?_
        rotate_left 1
        · intro w hSw; (try dsimp only at hSw); go_simp; (try with_reducible rfl)
        try simp only [Act.put, List.setIfInBounds_toArray, List.set_cons_zero, List.set_cons_succ]
        refine takeB hfnR (by kernel_rfl) 10 (v := ?_) rfl (by kernel_rfl) (fun _ _ _ h => h) (by kernel_rfl) hCells (Or.inl ⟨by rfl, ?_⟩) ?_
        rotate_left 1
        · intro w hSw; (try dsimp only at hSw); go_simp; (try with_reducible rfl)
        try simp only [Act.put, List.setIfInBounds_toArray, List.set_cons_zero, List.set_cons_succ]
        refine takeB hfnR (by kernel_rfl) 11 (v := ?_) rfl (by kernel_rfl) (fun _ _ _ h => h) (by kernel_rfl) hCells (Or.inl ⟨by rfl, ?_⟩) ?_
        rotate_left 1
        · intro w hSw; (try dsimp only at hSw); go_simp; (try with_reducible rfl)
        try simp only [Act.put, List.setIfInBounds_toArray, List.set_cons_zero, List.set_cons_succ]
        refine takeB hfnR (by kernel_rfl) 12 (v := ?_) rfl (by kernel_rfl) (fun _ _ _ h => h) (by kernel_rfl) hCells (Or.inl ⟨by rfl, ?_⟩) ?_
        rotate_left 1
        · intro w hSw; (try dsimp only at hSw); go_simp; (try with_reducible rfl)
        try simp only [Act.put, List.setIfInBounds_toArray, List.set_cons_zero, List.set_cons_succ]
        refine takeB hfnR (by kernel_rfl) 13 (v := ?_) rfl (by kernel_rfl) (fun _ _ _ h => h) (by kernel_rfl) hCells (Or.inl ⟨by rfl, ?_⟩) ?_
        rotate_left 1
        · intro w hSw; (try dsimp only at hSw); go_simp; (try with_reducible rfl)
        try simp only [Act.put, List.setIfInBounds_toArray, List.set_cons_zero, List.set_cons_succ]
        refine takeB hfnR (by kernel_rfl) 14 (v := ?_) rfl (by kernel_rfl) (fun _ _ _ h => h) (by kernel_rfl) hCells (Or.inl ⟨by rfl, ?_⟩) ?_
        rotate_left 1
        · intro w hSw; (try dsimp only at hSw); go_simp; (try with_reducible rfl)
        try simp only [Act.put, List.setIfInBounds_toArray, List.set_cons_zero, List.set_cons_succ]
        refine takeB hfnR (by kernel_rfl) 15 (v := ?_) rfl (by kernel_rfl) (fun _ _ _ h => h) (by kernel_rfl) hCells (Or.inl ⟨by rfl, ?_⟩) ?_
        rotate_left 1
        · intro w hSw; (try dsimp only at hSw); go_simp; (try with_reducible rfl)
        try simp only [Act.put, List.setIfInBounds_toArray, List.set_cons_zero, List.set_cons_succ]
        refine oneJ 16 (by kernel_rfl) rfl (fun K hK => ?_)
        go_simp
        refine ⟨rfl, ?_⟩
        (refine (callsIn_wide.2 (TQ.out _)).mono ?_; rintro e w5 ⟨rfl, hv5⟩)
        refine hK.out _ _ (holdJ ?_ (fun hCells => ?_))
        · clear hK; (try dsimp only); (exact ⟨⟨pc hv5 hCells.1.1, pc hv5 hCells.1.2⟩, pc hv5 hCells.2.1, pc hv5 hCells.2.2⟩)
        clear hK K
        try simp only [Act.put, List.setIfInBounds_toArray, List.set_cons_zero, List.set_cons_succ]
        have HK := Lib.hid (HK.out.pass hv5)
        clear hv5
        refine takeB hfnR (by kernel_rfl) 17 (v := ?_) rfl (by kernel_rfl) (fun _ _ _ h => h) (by kernel_rfl) hCells (Or.inl ⟨by rfl, ?_⟩) ?_
        rotate_left 1
        · intro w hSw; (try dsimp only at hSw); go_simp; (try with_reducible rfl)
        try simp only [Act.put, List.setIfInBounds_toArray, List.set_cons_zero, List.set_cons_succ]
        refine takeB hfnR (by kernel_rfl) 18 (v := ?_) rfl (by kernel_rfl) (fun _ _ _ h => h) (by kernel_rfl) hCells (Or.inl ⟨by rfl, ?_⟩) ?_
        rotate_left 1
        · intro w hSw; (try dsimp only at hSw); go_simp; (try with_reducible rfl)
        try simp only [Act.put, List.setIfInBounds_toArray, List.set_cons_zero, List.set_cons_succ]
        refine takeB hfnR (by kernel_rfl) 19 (v := ?_) rfl (by kernel_rfl) (fun _ _ _ h => h) (by kernel_rfl) hCells (Or.inl ⟨by rfl, ?_⟩) ?_
        rotate_left 1
        · intro w hSw; (try dsimp only at hSw); go_simp; (try with_reducible rfl)
        try simp only [Act.put, List.setIfInBounds_toArray, List.set_cons_zero, List.set_cons_succ]
        refine takeB hfnR (by kernel_rfl) 20 (v := ?_) rfl (by kernel_rfl) (fun _ _ _ h => h) (by kernel_rfl) hCells (Or.inl ⟨by rfl, ?_⟩) ?_
        rotate_left 1
        · intro w hSw; (try dsimp only at hSw); go_simp; (try with_reducible rfl)
        try simp only [Act.put, List.setIfInBounds_toArray, List.set_cons_zero, List.set_cons_succ]
        refine takeB hfnR (by kernel_rfl) 21 (v := ?_) rfl (by kernel_rfl) (fun _ _ _ h => h) (by kernel_rfl) hCells (Or.inl ⟨by rfl, ?_⟩) ?_
        rotate_left 1
        · intro w hSw; (try dsimp only at hSw); go_simp; (try with_reducible rfl)
        try simp only [Act.put, List.setIfInBounds_toArray, List.set_cons_zero, List.set_cons_succ]
        refine wpAnyJ_done (by kernel_rfl) (NoPan.normal ?_) _
        go_wp2_with fail
        go_ret
        exact ⟨rfl, HK.out.2.2⟩
      · simp only [pv] at he
        subst he
        obtain ⟨p40, hp1, hp2, hp3, hp4⟩ := few_fr (few_one HD.out.symm).1 (few_one HD.out.symm).2 (by have := hk.2.1.1.fr.chk; rw [← hk.2.2.1, ← hk.2.2.2] at this; exact this)
        have hpq : p40 = q := by
          have h1 := hp1.fr
          rw [← hp3, ← hp4, hk.2.2.1, hk.2.2.2] at h1
          exact h1.fun hk.2.1.1.fr
        subst hpq
        have hcs := need_sm hk.1 hp1.1 hp2 hk2
        have hos : sm (149 + 19) (cc * mkRat y 256) := sm.mul (j := 149) hcs (part_ok y HY.out).2
        have HCC := Lib.hid (show (okQ cc ∧ sm 300 cc) ∧ (okQ (cc * mkRat y 256) ∧ sm 300 (cc * mkRat y 256)) from ⟨⟨hk3, hcs.mono (by decide)⟩, hos.ok (by decide) (Rat.mul_nonneg hk3.1 (part_ok y HY.out).1.1), hos.mono (by decide)⟩)
        have HPO := Lib.hid (part_ok y HY.out)
        have HNR := Lib.hid (And.intro hk.1 hk2)
        have HPQ := Lib.hid hp1
        have HB := Lib.hid (HB.out.trans (hb4.mono HB.out.size))
        have HE := Lib.hid (HEE.out N _ HB.out H66.out hk.1)
        have HB := Lib.hid (HB.out.alloc HB.out.size (.cells #[.string (qN cc), .string (qD cc)] 46))
        have HE := Lib.hid (HE.out.alloc (.cells #[.string (qN cc), .string (qD cc)] 46))
        have ga := (ga.pass hb4).alloc (.cells #[.string (qN cc), .string (qD cc)] 46)
        have gcc := Blk.new w4 #[.string (qN cc), .string (qD cc)] 46
        have TE := Lib.hid (TE.out N)
        have HMU := Lib.hid (And.intro HCC.out.1.1 HCC.out.2.1)
        rw [hp3, hp4] at ga
        clear hb4 hk hk2 hk3 hp1 hp2 hp3 hp4 hcs hos c0_0 c0_1 TS TSS TN TG TA HD
        obtain ⟨⟨c0_0, c0_1⟩, _, _⟩ := gcc.two
        go_wp2_with fail
        refine (TE.out _ HE.out cc HCC.out.1.1 HCC.out.1.2).mono ?_
        rintro e w5 ⟨x, ⟨rfl, hr0, ok0⟩, hb5⟩
        have HXX := Lib.hid (And.intro hr0 ok0)
        clear c0_0 c0_1
        have HB := Lib.hid (HB.out.trans (hb5.mono HB.out.size))
        have HE := Lib.hid (HE.out.pass hb5)
        have ga := ga.pass hb5
        have gcc := gcc.pass hb5
        clear hb5 hr0 ok0
        have HB := Lib.hid (HB.out.alloc HB.out.size (.cells #[.string (qN x), .string (qD x)] 46))
        have HE := Lib.hid (HE.out.alloc (.cells #[.string (qN x), .string (qD x)] 46))
        have ga := ga.alloc (.cells #[.string (qN x), .string (qD x)] 46)
        have gcc := gcc.alloc (.cells #[.string (qN x), .string (qD x)] 46)
        have gx := Blk.new w5 #[.string (qN x), .string (qD x)] 46
        go_wp2_with fail
        have HB := Lib.hid (HB.out.drew)
        have HE := Lib.hid (HE.out.pass (Below.refl _ _).drew)
        have ga := ga.drew
        have gcc := gcc.drew
        have gx := gx.drew
        have hsrc := gcc.lt
        have HX := Lib.hid (Below.refl (w5.alloc (.cells #[.string (qN x), .string (qD x)] 46)).drew.heap.size (w5.alloc (.cells #[.string (qN x), .string (qD x)] 46)).drew)
        refine wp_region_J (fun W => W.cell? ⟨w4.heap.size, 0, none⟩ = some (.string (qN cc)) ∧ W.cell? ⟨w4.heap.size, 1, none⟩ = some (.string (qD cc))) [] hm ?hCells0 (fun hCells => ?_)
        case hCells0 => exact gcc.two.1
        generalize (w5.alloc (.cells #[.string (qN x), .string (qD x)] 46)).drew = W0 at HB HE HX hsrc hCells ga gcc gx ⊢
        refine takeB hfnR (by kernel_rfl) 0 (v := ?_) rfl (by kernel_rfl) (fun _ _ _ h => h) (by kernel_rfl) hCells (Or.inl ⟨by rfl, ?_⟩) ?_
        rotate_left 1
        · intro w hSw; (try dsimp only at hSw); go_simp; (try with_reducible rfl)
        try simp only [Act.put, List.setIfInBounds_toArray, List.set_cons_zero, List.set_cons_succ]
        refine takeB hfnR (by kernel_rfl) 1 (v := ?_) rfl (by kernel_rfl) (fun _ _ _ h => h) (by kernel_rfl) hCells (Or.inl ⟨by rfl, ?_⟩) ?_
        rotate_left 1
        · intro w hSw; (try dsimp only at hSw); go_simp; (try with_reducible rfl)
        try simp only [Act.put, List.setIfInBounds_toArray, List.set_cons_zero, List.set_cons_succ]
        refine takeB hfnR (by kernel_rfl) 2 (v := ?_) rfl (by kernel_rfl) (fun _ _ _ h => h) (by kernel_rfl) hCells (Or.inl ⟨by rfl, ?_⟩) ?_
        rotate_left 1
        · intro w hSw; (try dsimp only at hSw); go_simp; (try with_reducible rfl)
        try simp only [Act.put, List.setIfInBounds_toArray, List.set_cons_zero, List.set_cons_succ]
        refine wpAnyJ_ready (rs := [3, 8]) (by kernel_rfl) (by simp) (consJ 3 rfl (fun K hK => ?_) (consJ 8 rfl (fun K hK => ?_) AllJ.nil))
        ·
          go_simp
          refine ⟨rfl, ?_⟩
          refine (callsIn_wide.2 (of256 y HY.out _ (HE.out.2.1.1.below HX.out (Nat.le_refl _)))).mono ?_
          rintro e v3_0 ⟨rfl, hv⟩
          refine hK.out _ _ (holdJ ?_ (fun hCells => ?_))
          · clear hK; (try dsimp only); exact ⟨pc hv hCells.1, pc hv hCells.2⟩
          clear hK K
          have HX := Lib.hid (HX.out.trans (hv.mono HX.out.size))
          clear hv
          try simp only [Act.put, List.setIfInBounds_toArray, List.set_cons_zero, List.set_cons_succ]
          refine wpAnyJ_ready (rs := [4, 8]) (by kernel_rfl) (by simp) (consJ 4 rfl (fun K hK => ?_) (consJ 8 rfl (fun K hK => ?_) AllJ.nil))
          ·
            go_simp
            refine ⟨rfl, ?_⟩
            refine (callsIn_wide.2 ((mul_q cc (mkRat y 256) HMU.out.1 HPO.out.1 HMU.out.2 (HE.out.2.1.1.below HX.out (Nat.le_refl _))).mono (fun _ _ h => got_r HMU.out.2 h))).mono ?_
            rintro e v4_1 ⟨less, ⟨rfl, hr0, ok0⟩, hv⟩
            have HLL := Lib.hid (And.intro hr0 ok0)
            clear hr0 ok0
            refine hK.out _ _ (holdJ ?_ (fun hCells => ?_))
            · clear hK; (try dsimp only); exact ⟨pc hv hCells.1, pc hv hCells.2⟩
            clear hK K
            have HX := Lib.hid (HX.out.trans (hv.mono HX.out.size))
            clear hv
            try simp only [Act.put, List.setIfInBounds_toArray, List.set_cons_zero, List.set_cons_succ]
            refine takeB hfnR (by kernel_rfl) 5 (v := ?_) rfl (by kernel_rfl) (fun _ _ _ h => h) (by kernel_rfl) hCells (Or.inl ⟨by rfl, ?_⟩) ?_
            rotate_left 1
            · intro w hSw; (try dsimp only at hSw); go_simp; (try with_reducible rfl)
            try simp only [Act.put, List.setIfInBounds_toArray, List.set_cons_zero, List.set_cons_succ]
            refine takeB hfnR (by kernel_rfl) 6 (v := ?_) rfl (by kernel_rfl) (fun _ _ _ h => h) (by kernel_rfl) hCells (Or.inl ⟨by rfl, ?_⟩) ?_
            rotate_left 1
            · intro w hSw; (try dsimp only at hSw); go_simp; (try with_reducible rfl)
            try simp only [Act.put, List.setIfInBounds_toArray, List.set_cons_zero, List.set_cons_succ]
            refine takeB hfnR (by kernel_rfl) 7 (v := ?_) rfl (by kernel_rfl) (fun _ _ _ h => h) (by kernel_rfl) hCells (Or.inl ⟨by rfl, ?_⟩) ?_
            rotate_left 1
            · intro w hSw; (try dsimp only at hSw); go_simp; (try with_reducible rfl)
            try simp only [Act.put, List.setIfInBounds_toArray, List.set_cons_zero, List.set_cons_succ]
            refine oneJ 8 (by kernel_rfl) rfl (fun K hK => ?_)
            go_simp
            refine hK.out _ _ (holdJ ?_ (fun hCells => ?_))
            · clear hK; (try dsimp only); exact ⟨pc (below_alloc _ _) hCells.1, pc (below_alloc _ _) hCells.2⟩
            clear hK K
            have gb := Blk.new v4_1 #[.string ⟨#[]⟩, .string ⟨#[]⟩] 46
            obtain ⟨bs, hbs⟩ : ∃ bs, bs = v4_1.heap.size := ⟨_, rfl⟩
            have hge : W0.heap.size ≤ bs := by rw [hbs]; exact HX.out.size
            have HX := Lib.hid (HX.out.alloc HX.out.size (.cells #[.string ⟨#[]⟩, .string ⟨#[]⟩] 46))
            rw [← hbs] at gb ⊢
            clear hbs
            generalize v4_1.alloc (.cells #[.string ⟨#[]⟩, .string ⟨#[]⟩] 46) = va_3 at gb HX hCells ⊢
            try simp only [Act.put, List.setIfInBounds_toArray, List.set_cons_zero, List.set_cons_succ]
            obtain ⟨⟨r0, r1⟩, f0, f1⟩ := gb.two
            refine oneJ 9 (by kernel_rfl) rfl (fun K hK => ?_)
            go_simp
            refine hK.out _ _ (holdJ ?_ (fun hCells => ?_))
            · clear hK; (try dsimp only); exact ⟨far2 hCells.1 (by omega), far2 hCells.2 (by omega)⟩
            clear hK K r0 r1 f0 f1
            try simp only [Act.put, List.setIfInBounds_toArray, List.set_cons_zero, List.set_cons_succ]
            refine takeB hfnR (by kernel_rfl) 10 (v := ?_) rfl (by kernel_rfl) (fun _ _ _ h => h) (by kernel_rfl) hCells (Or.inl ⟨by rfl, ?_⟩) ?_
            rotate_left 1
            · intro w hSw; (try dsimp only at hSw); go_simp; (try with_reducible rfl)
            try simp only [Act.put, List.setIfInBounds_toArray, List.set_cons_zero, List.set_cons_succ]
            refine wpAnyJ_done (by kernel_rfl) (NoPan.normal ?_) _
            have HX := Lib.hid ((HX.out.setCell (p := ⟨bs, 0, none⟩) hge (.string (qN less))).setCell (p := ⟨bs, 1, none⟩) hge (.string (qD less)))
            have gl := (gb.set 0 (.string (qN less))).set 1 (.string (qD less))
            have ga := ga.below HX.out ga.lt
            have gcc := gcc.below HX.out gcc.lt
            have gx := gx.below HX.out gx.lt
            have HB := Lib.hid (HB.out.trans (HX.out.mono HB.out.size))
            have HE := Lib.hid (HE.out.pass HX.out)
            clear HX gb hCells hsrc hge
            generalize (va_3.setCell ⟨bs, 0, none⟩ (.string (qN less))).setCell ⟨bs, 1, none⟩ (.string (qD less)) = W1 at HB HE ga gcc gx gl ⊢
            obtain ⟨⟨c0_0, c0_1⟩, _, _⟩ := gl.two
            go_wp2_with fail
            have HLS := Lib.hid (show okQ less ∧ sm 300 less by rw [HLL.out.1]; exact HCC.out.2)
            refine (TE.out _ HE.out less HLS.out.1 HLS.out.2).mono ?_
            rintro e w6 ⟨yy, ⟨rfl, hr0, ok0⟩, hb6⟩
            have HYY := Lib.hid (And.intro hr0 ok0)
            clear c0_0 c0_1
            have HB := Lib.hid (HB.out.trans (hb6.mono HB.out.size))
            have HE := Lib.hid (HE.out.pass hb6)
            have ga := ga.pass hb6
            have gcc := gcc.pass hb6
            have gx := gx.pass hb6
            have gl := gl.pass hb6
            clear hb6 hr0 ok0
            have HB := Lib.hid (HB.out.alloc HB.out.size (.cells #[.string (qN yy), .string (qD yy)] 46))
            have HE := Lib.hid (HE.out.alloc (.cells #[.string (qN yy), .string (qD yy)] 46))
            have ga := ga.alloc (.cells #[.string (qN yy), .string (qD yy)] 46)
            have gcc := gcc.alloc (.cells #[.string (qN yy), .string (qD yy)] 46)
            have gx := gx.alloc (.cells #[.string (qN yy), .string (qD yy)] 46)
            have gl := gl.alloc (.cells #[.string (qN yy), .string (qD yy)] 46)
            have gy := Blk.new w6 #[.string (qN yy), .string (qD yy)] 46
            have hxq : x = p40 := need_has HNR.out.1 HNR.out.2 HXX.out.1
            rw [hxq] at gx
            obtain ⟨⟨c0_0, c0_1⟩, _, _⟩ := gx.two
            obtain ⟨⟨c1_0, c1_1⟩, _, _⟩ := ga.two
            obtain ⟨⟨c2_0, c2_1⟩, _, _⟩ := gcc.two
            obtain ⟨⟨c3_0, c3_1⟩, _, _⟩ := gy.two
            by_cases hc0 : cc = 0
            · have hz : ((qN cc).toList == [48]) = true := by rw [qN_zero HCC.out.1.1]; exact decide_eq_true hc0
              clear hc0 hxq
              go_wp2_with fail
              go_ret
              exact ⟨rfl, HB.out⟩
            · have hz : ((qN cc).toList == [48]) = false := by rw [qN_zero HCC.out.1.1]; exact decide_eq_false hc0
              have hlt : yy < p40 := need_less HNR.out.1 HNR.out.2 (by rw [HLL.out.1]; exact part_less HY.out (by have := HCC.out.1.1.1; grind)) HYY.out.1 HLS.out.1.1
              have TQ := Lib.hid (fun W => cmp_q yy p40 HYY.out.2 HPQ.out W)
              rw [cmpQ_lt hlt] at TQ
              clear hc0 hxq hlt
              go_wp2_with fail
              refine (TQ.out _).mono ?_
              rintro e w30 ⟨rfl, hb30⟩
              have HB := Lib.hid (HB.out.trans (hb30.mono HB.out.size))
              clear hb30
              go_wp2_with fail
              go_ret
              exact ⟨rfl, HB.out⟩
          ·
            go_simp
            refine hK.out _ _ (holdJ ?_ (fun hCells => ?_))
            · clear hK; (try dsimp only); exact ⟨pc (below_alloc _ _) hCells.1, pc (below_alloc _ _) hCells.2⟩
            clear hK K
            have gb := Blk.new v3_0 #[.string ⟨#[]⟩, .string ⟨#[]⟩] 46
            obtain ⟨bs, hbs⟩ : ∃ bs, bs = v3_0.heap.size := ⟨_, rfl⟩
            have hge : W0.heap.size ≤ bs := by rw [hbs]; exact HX.out.size
            have HX := Lib.hid (HX.out.alloc HX.out.size (.cells #[.string ⟨#[]⟩, .string ⟨#[]⟩] 46))
            rw [← hbs] at gb ⊢
            clear hbs
            generalize v3_0.alloc (.cells #[.string ⟨#[]⟩, .string ⟨#[]⟩] 46) = va_1 at gb HX hCells ⊢
            try simp only [Act.put, List.setIfInBounds_toArray, List.set_cons_zero, List.set_cons_succ]
            refine oneJ 4 (by kernel_rfl) rfl (fun K hK => ?_)
            go_simp
            refine ⟨rfl, ?_⟩
            refine (callsIn_wide.2 ((mul_q cc (mkRat y 256) HMU.out.1 HPO.out.1 HMU.out.2 (HE.out.2.1.1.below HX.out (Nat.le_refl _))).mono (fun _ _ h => got_r HMU.out.2 h))).mono ?_
            rintro e v4_2 ⟨less, ⟨rfl, hr0, ok0⟩, hv⟩
            have HLL := Lib.hid (And.intro hr0 ok0)
            clear hr0 ok0
            refine hK.out _ _ (holdJ ?_ (fun hCells => ?_))
            · clear hK; (try dsimp only); exact ⟨pc hv hCells.1, pc hv hCells.2⟩
            clear hK K
            have HX := Lib.hid (HX.out.trans (hv.mono HX.out.size))
            have gb := gb.pass hv
            clear hv
            try simp only [Act.put, List.setIfInBounds_toArray, List.set_cons_zero, List.set_cons_succ]
            refine takeB hfnR (by kernel_rfl) 5 (v := ?_) rfl (by kernel_rfl) (fun _ _ _ h => h) (by kernel_rfl) hCells (Or.inl ⟨by rfl, ?_⟩) ?_
            rotate_left 1
            · intro w hSw; (try dsimp only at hSw); go_simp; (try with_reducible rfl)
            try simp only [Act.put, List.setIfInBounds_toArray, List.set_cons_zero, List.set_cons_succ]
            refine takeB hfnR (by kernel_rfl) 6 (v := ?_) rfl (by kernel_rfl) (fun _ _ _ h => h) (by kernel_rfl) hCells (Or.inl ⟨by rfl, ?_⟩) ?_
            rotate_left 1
            · intro w hSw; (try dsimp only at hSw); go_simp; (try with_reducible rfl)
            try simp only [Act.put, List.setIfInBounds_toArray, List.set_cons_zero, List.set_cons_succ]
            refine takeB hfnR (by kernel_rfl) 7 (v := ?_) rfl (by kernel_rfl) (fun _ _ _ h => h) (by kernel_rfl) hCells (Or.inl ⟨by rfl, ?_⟩) ?_
            rotate_left 1
            · intro w hSw; (try dsimp only at hSw); go_simp; (try with_reducible rfl)
            try simp only [Act.put, List.setIfInBounds_toArray, List.set_cons_zero, List.set_cons_succ]
            obtain ⟨⟨r0, r1⟩, f0, f1⟩ := gb.two
            refine oneJ 9 (by kernel_rfl) rfl (fun K hK => ?_)
            go_simp
            refine hK.out _ _ (holdJ ?_ (fun hCells => ?_))
            · clear hK; (try dsimp only); exact ⟨far2 hCells.1 (by omega), far2 hCells.2 (by omega)⟩
            clear hK K r0 r1 f0 f1
            try simp only [Act.put, List.setIfInBounds_toArray, List.set_cons_zero, List.set_cons_succ]
            refine takeB hfnR (by kernel_rfl) 10 (v := ?_) rfl (by kernel_rfl) (fun _ _ _ h => h) (by kernel_rfl) hCells (Or.inl ⟨by rfl, ?_⟩) ?_
            rotate_left 1
            · intro w hSw; (try dsimp only at hSw); go_simp; (try with_reducible rfl)
            try simp only [Act.put, List.setIfInBounds_toArray, List.set_cons_zero, List.set_cons_succ]
            refine wpAnyJ_done (by kernel_rfl) (NoPan.normal ?_) _
            have HX := Lib.hid ((HX.out.setCell (p := ⟨bs, 0, none⟩) hge (.string (qN less))).setCell (p := ⟨bs, 1, none⟩) hge (.string (qD less)))
            have gl := (gb.set 0 (.string (qN less))).set 1 (.string (qD less))
            have ga := ga.below HX.out ga.lt
            have gcc := gcc.below HX.out gcc.lt
            have gx := gx.below HX.out gx.lt
            have HB := Lib.hid (HB.out.trans (HX.out.mono HB.out.size))
            have HE := Lib.hid (HE.out.pass HX.out)
            clear HX gb hCells hsrc hge
            generalize (v4_2.setCell ⟨bs, 0, none⟩ (.string (qN less))).setCell ⟨bs, 1, none⟩ (.string (qD less)) = W1 at HB HE ga gcc gx gl ⊢
            obtain ⟨⟨c0_0, c0_1⟩, _, _⟩ := gl.two
            go_wp2_with fail
            have HLS := Lib.hid (show okQ less ∧ sm 300 less by rw [HLL.out.1]; exact HCC.out.2)
            refine (TE.out _ HE.out less HLS.out.1 HLS.out.2).mono ?_
            rintro e w6 ⟨yy, ⟨rfl, hr0, ok0⟩, hb6⟩
            have HYY := Lib.hid (And.intro hr0 ok0)
            clear c0_0 c0_1
            have HB := Lib.hid (HB.out.trans (hb6.mono HB.out.size))
            have HE := Lib.hid (HE.out.pass hb6)
            have ga := ga.pass hb6
            have gcc := gcc.pass hb6
            have gx := gx.pass hb6
            have gl := gl.pass hb6
            clear hb6 hr0 ok0
            have HB := Lib.hid (HB.out.alloc HB.out.size (.cells #[.string (qN yy), .string (qD yy)] 46))
            have HE := Lib.hid (HE.out.alloc (.cells #[.string (qN yy), .string (qD yy)] 46))
            have ga := ga.alloc (.cells #[.string (qN yy), .string (qD yy)] 46)
            have gcc := gcc.alloc (.cells #[.string (qN yy), .string (qD yy)] 46)
            have gx := gx.alloc (.cells #[.string (qN yy), .string (qD yy)] 46)
            have gl := gl.alloc (.cells #[.string (qN yy), .string (qD yy)] 46)
            have gy := Blk.new w6 #[.string (qN yy), .string (qD yy)] 46
            have hxq : x = p40 := need_has HNR.out.1 HNR.out.2 HXX.out.1
            rw [hxq] at gx
            obtain ⟨⟨c0_0, c0_1⟩, _, _⟩ := gx.two
            obtain ⟨⟨c1_0, c1_1⟩, _, _⟩ := ga.two
            obtain ⟨⟨c2_0, c2_1⟩, _, _⟩ := gcc.two
            obtain ⟨⟨c3_0, c3_1⟩, _, _⟩ := gy.two
            by_cases hc0 : cc = 0
            · have hz : ((qN cc).toList == [48]) = true := by rw [qN_zero HCC.out.1.1]; exact decide_eq_true hc0
              clear hc0 hxq
              go_wp2_with fail
              go_ret
              exact ⟨rfl, HB.out⟩
            · have hz : ((qN cc).toList == [48]) = false := by rw [qN_zero HCC.out.1.1]; exact decide_eq_false hc0
              have hlt : yy < p40 := need_less HNR.out.1 HNR.out.2 (by rw [HLL.out.1]; exact part_less HY.out (by have := HCC.out.1.1.1; grind)) HYY.out.1 HLS.out.1.1
              have TQ := Lib.hid (fun W => cmp_q yy p40 HYY.out.2 HPQ.out W)
              rw [cmpQ_lt hlt] at TQ
              clear hc0 hxq hlt
              go_wp2_with fail
              refine (TQ.out _).mono ?_
              rintro e w30 ⟨rfl, hb30⟩
              have HB := Lib.hid (HB.out.trans (hb30.mono HB.out.size))
              clear hb30
              go_wp2_with fail
              go_ret
              exact ⟨rfl, HB.out⟩
        ·
          go_simp
          refine hK.out _ _ (holdJ ?_ (fun hCells => ?_))
          · clear hK; (try dsimp only); exact ⟨pc (below_alloc _ _) hCells.1, pc (below_alloc _ _) hCells.2⟩
          clear hK K
          have gb := Blk.new W0 #[.string ⟨#[]⟩, .string ⟨#[]⟩] 46
          obtain ⟨bs, hbs⟩ : ∃ bs, bs = W0.heap.size := ⟨_, rfl⟩
          have hge : W0.heap.size ≤ bs := by rw [hbs]; exact HX.out.size
          have HX := Lib.hid (HX.out.alloc HX.out.size (.cells #[.string ⟨#[]⟩, .string ⟨#[]⟩] 46))
          rw [← hbs] at gb ⊢
          clear hbs
          generalize W0.alloc (.cells #[.string ⟨#[]⟩, .string ⟨#[]⟩] 46) = va_0 at gb HX hCells ⊢
          try simp only [Act.put, List.setIfInBounds_toArray, List.set_cons_zero, List.set_cons_succ]
          refine oneJ 3 (by kernel_rfl) rfl (fun K hK => ?_)
          go_simp
          refine ⟨rfl, ?_⟩
          refine (callsIn_wide.2 (of256 y HY.out _ (HE.out.2.1.1.below HX.out (Nat.le_refl _)))).mono ?_
          rintro e v3_1 ⟨rfl, hv⟩
          refine hK.out _ _ (holdJ ?_ (fun hCells => ?_))
          · clear hK; (try dsimp only); exact ⟨pc hv hCells.1, pc hv hCells.2⟩
          clear hK K
          have HX := Lib.hid (HX.out.trans (hv.mono HX.out.size))
          have gb := gb.pass hv
          clear hv
          try simp only [Act.put, List.setIfInBounds_toArray, List.set_cons_zero, List.set_cons_succ]
          refine oneJ 4 (by kernel_rfl) rfl (fun K hK => ?_)
          go_simp
          refine ⟨rfl, ?_⟩
          refine (callsIn_wide.2 ((mul_q cc (mkRat y 256) HMU.out.1 HPO.out.1 HMU.out.2 (HE.out.2.1.1.below HX.out (Nat.le_refl _))).mono (fun _ _ h => got_r HMU.out.2 h))).mono ?_
          rintro e v4_2 ⟨less, ⟨rfl, hr0, ok0⟩, hv⟩
          have HLL := Lib.hid (And.intro hr0 ok0)
          clear hr0 ok0
          refine hK.out _ _ (holdJ ?_ (fun hCells => ?_))
          · clear hK; (try dsimp only); exact ⟨pc hv hCells.1, pc hv hCells.2⟩
          clear hK K
          have HX := Lib.hid (HX.out.trans (hv.mono HX.out.size))
          have gb := gb.pass hv
          clear hv
          try simp only [Act.put, List.setIfInBounds_toArray, List.set_cons_zero, List.set_cons_succ]
          refine takeB hfnR (by kernel_rfl) 5 (v := ?_) rfl (by kernel_rfl) (fun _ _ _ h => h) (by kernel_rfl) hCells (Or.inl ⟨by rfl, ?_⟩) ?_
          rotate_left 1
          · intro w hSw; (try dsimp only at hSw); go_simp; (try with_reducible rfl)
          try simp only [Act.put, List.setIfInBounds_toArray, List.set_cons_zero, List.set_cons_succ]
          refine takeB hfnR (by kernel_rfl) 6 (v := ?_) rfl (by kernel_rfl) (fun _ _ _ h => h) (by kernel_rfl) hCells (Or.inl ⟨by rfl, ?_⟩) ?_
          rotate_left 1
          · intro w hSw; (try dsimp only at hSw); go_simp; (try with_reducible rfl)
          try simp only [Act.put, List.setIfInBounds_toArray, List.set_cons_zero, List.set_cons_succ]
          refine takeB hfnR (by kernel_rfl) 7 (v := ?_) rfl (by kernel_rfl) (fun _ _ _ h => h) (by kernel_rfl) hCells (Or.inl ⟨by rfl, ?_⟩) ?_
          rotate_left 1
          · intro w hSw; (try dsimp only at hSw); go_simp; (try with_reducible rfl)
          try simp only [Act.put, List.setIfInBounds_toArray, List.set_cons_zero, List.set_cons_succ]
          obtain ⟨⟨r0, r1⟩, f0, f1⟩ := gb.two
          refine oneJ 9 (by kernel_rfl) rfl (fun K hK => ?_)
          go_simp
          refine hK.out _ _ (holdJ ?_ (fun hCells => ?_))
          · clear hK; (try dsimp only); exact ⟨far2 hCells.1 (by omega), far2 hCells.2 (by omega)⟩
          clear hK K r0 r1 f0 f1
          try simp only [Act.put, List.setIfInBounds_toArray, List.set_cons_zero, List.set_cons_succ]
          refine takeB hfnR (by kernel_rfl) 10 (v := ?_) rfl (by kernel_rfl) (fun _ _ _ h => h) (by kernel_rfl) hCells (Or.inl ⟨by rfl, ?_⟩) ?_
          rotate_left 1
          · intro w hSw; (try dsimp only at hSw); go_simp; (try with_reducible rfl)
          try simp only [Act.put, List.setIfInBounds_toArray, List.set_cons_zero, List.set_cons_succ]
          refine wpAnyJ_done (by kernel_rfl) (NoPan.normal ?_) _
          have HX := Lib.hid ((HX.out.setCell (p := ⟨bs, 0, none⟩) hge (.string (qN less))).setCell (p := ⟨bs, 1, none⟩) hge (.string (qD less)))
          have gl := (gb.set 0 (.string (qN less))).set 1 (.string (qD less))
          have ga := ga.below HX.out ga.lt
          have gcc := gcc.below HX.out gcc.lt
          have gx := gx.below HX.out gx.lt
          have HB := Lib.hid (HB.out.trans (HX.out.mono HB.out.size))
          have HE := Lib.hid (HE.out.pass HX.out)
          clear HX gb hCells hsrc hge
          generalize (v4_2.setCell ⟨bs, 0, none⟩ (.string (qN less))).setCell ⟨bs, 1, none⟩ (.string (qD less)) = W1 at HB HE ga gcc gx gl ⊢
          obtain ⟨⟨c0_0, c0_1⟩, _, _⟩ := gl.two
          go_wp2_with fail
          have HLS := Lib.hid (show okQ less ∧ sm 300 less by rw [HLL.out.1]; exact HCC.out.2)
          refine (TE.out _ HE.out less HLS.out.1 HLS.out.2).mono ?_
          rintro e w6 ⟨yy, ⟨rfl, hr0, ok0⟩, hb6⟩
          have HYY := Lib.hid (And.intro hr0 ok0)
          clear c0_0 c0_1
          have HB := Lib.hid (HB.out.trans (hb6.mono HB.out.size))
          have HE := Lib.hid (HE.out.pass hb6)
          have ga := ga.pass hb6
          have gcc := gcc.pass hb6
          have gx := gx.pass hb6
          have gl := gl.pass hb6
          clear hb6 hr0 ok0
          have HB := Lib.hid (HB.out.alloc HB.out.size (.cells #[.string (qN yy), .string (qD yy)] 46))
          have HE := Lib.hid (HE.out.alloc (.cells #[.string (qN yy), .string (qD yy)] 46))
          have ga := ga.alloc (.cells #[.string (qN yy), .string (qD yy)] 46)
          have gcc := gcc.alloc (.cells #[.string (qN yy), .string (qD yy)] 46)
          have gx := gx.alloc (.cells #[.string (qN yy), .string (qD yy)] 46)
          have gl := gl.alloc (.cells #[.string (qN yy), .string (qD yy)] 46)
          have gy := Blk.new w6 #[.string (qN yy), .string (qD yy)] 46
          have hxq : x = p40 := need_has HNR.out.1 HNR.out.2 HXX.out.1
          rw [hxq] at gx
          obtain ⟨⟨c0_0, c0_1⟩, _, _⟩ := gx.two
          obtain ⟨⟨c1_0, c1_1⟩, _, _⟩ := ga.two
          obtain ⟨⟨c2_0, c2_1⟩, _, _⟩ := gcc.two
          obtain ⟨⟨c3_0, c3_1⟩, _, _⟩ := gy.two
          by_cases hc0 : cc = 0
          · have hz : ((qN cc).toList == [48]) = true := by rw [qN_zero HCC.out.1.1]; exact decide_eq_true hc0
            clear hc0 hxq
            go_wp2_with fail
            go_ret
            exact ⟨rfl, HB.out⟩
          · have hz : ((qN cc).toList == [48]) = false := by rw [qN_zero HCC.out.1.1]; exact decide_eq_false hc0
            have hlt : yy < p40 := need_less HNR.out.1 HNR.out.2 (by rw [HLL.out.1]; exact part_less HY.out (by have := HCC.out.1.1.1; grind)) HYY.out.1 HLS.out.1.1
            have TQ := Lib.hid (fun W => cmp_q yy p40 HYY.out.2 HPQ.out W)
            rw [cmpQ_lt hlt] at TQ
            clear hc0 hxq hlt
            go_wp2_with fail
            refine (TQ.out _).mono ?_
            rintro e w30 ⟨rfl, hb30⟩
            have HB := Lib.hid (HB.out.trans (hb30.mono HB.out.size))
            clear hb30
            go_wp2_with fail
            go_ret
            exact ⟨rfl, HB.out⟩
end Go.Proofs.Cr
