/- Contracts of functions that the laws reach, and plain lemmas. Part 20. -/
import Derived.Test.YtolofiiolinnoaaGreatDoorC18
set_option linter.all false
namespace Go.Proofs.Cr
open Go.RowKit Go.Shelf
attribute [local go_sem] Oper.semAt_some

theorem of11 (w : World) (hT : TabW w) : Calls Tryz.prog 30 #[.int .i64 1, .int .i64 1] w fun e w' => e = .returned (.agg #[.string (qN (mkRat 1 1)), .string (qD (mkRat 1 1))]) ∧ Below w.heap.size w w' := lawOf_any 1 1 (by decide) (by decide) (by decide) w hT
theorem one_ok' : okQ (mkRat 1 1) := (ratio_fr 1 1 (by decide) (by decide)).ok.1
theorem one_eq' : mkRat 1 1 = (1 : Rat) := by decide +kernel
section
variable {L : List Bd} {N : Nat} {p q : Rat}
theorem PartOK.way (h : PartOK L N p q) (hpq : p ≤ q) : okQ (q - p) ∧ sm 80 (q - p) := by
  have h1 : sm (40 + 40) (q - p) := sm.sub h.qq.2 h.pp.2 h.qq.1.1 h.pp.1.1
  exact ⟨h1.ok (by decide) (by grind), h1⟩
theorem PartOK.rise (h : PartOK L N p q) (hpq : p ≤ q) {r s : Rat} (hr : ChanceR L N p r) (hs : ChanceR L N q s) : okQ (s - r) := by
  have h1 := chance_sm h.cv h.pp.1.1 h.pp.2 hr
  have h2 := chance_sm h.cv h.qq.1.1 h.qq.2 hs
  have h3 : sm (40 + 109 + (40 + 109)) (s - r) := sm.sub (j := 40 + 109) (k := 40 + 109) h2 h1 (chance_nonneg h.cv hs) (chance_nonneg h.cv hr)
  exact h3.ok (by decide) (by have := chance_mono h.cv hr hs hpq; grind)
theorem slope_nonneg {q a : Rat} (h : CurveP L N) (ha : SlopeR L N q a) : 0 ≤ a := by
  rcases ha with ⟨i, hi, _, _, rfl⟩ | ⟨_, rfl⟩
  · exact slq_nonneg h hi
  · exact Rat.le_refl
theorem PartOK.prod (h : PartOK L N p q) (hpq : p ≤ q) {t a : Rat} (ha : SlopeR L N t a) : okQ (a * (q - p)) := by
  have h1 : sm (72 + 80) (a * (q - p)) := sm.mul (slope_sm h.cv ha) (h.way hpq).2
  exact h1.ok (by decide) (Rat.mul_nonneg (slope_nonneg h.cv ha) (h.way hpq).1.1)
theorem PartOK.halfboth (h : PartOK L N p q) {r s : Rat} (hr : ChanceR L N p r) (hs : ChanceR L N q s) : okQ ((r + s) * mkRat 1 2) := by
  have h1 : sm (299 + 19) ((r + s) * mkRat 1 2) := sm.mul (h.both hr hs).2 half_ok.2
  exact h1.ok (by decide) (Rat.mul_nonneg (h.both hr hs).1.1 half_pos)
theorem PartOK.swap (h : PartOK L N p q) : PartOK L N q p := ⟨h.cv, h.qq, h.pp⟩
theorem PartOK.concave (h : PartOK L N p q) (hpq : p ≤ q) {x y z b m v hv a t wy ri mo le : Rat} (hx : ChanceR L N p x) (hy : ChanceR L N q y) (hb : b = p + q) (hm : m = b * mkRat 1 2) (hz : ChanceR L N m z) (hv1 : v = x + y) (hh : hv = v * mkRat 1 2)
    (ha : SlopeR L N p a) (ht : SlopeR L N q t) (hw : wy = q - p) (hri : ri = y - x) (hmo : mo = a * wy) (hle : le = t * wy) : (ri ≤ mo ∧ le ≤ ri) := by
  subst hb hm hv1 hh hw hri hmo hle
  exact ⟨slope_most h.cv hx hy ha, slope_least h.cv hx hy ht hpq⟩
end
set_option maxRecDepth 100000 in
set_option maxHeartbeats 16000000 in
/-- The law DetectConcave. -/
theorem Concave_walk (A : Option Addr) (c : Nat) (L : List Bd) (a1 a2 b1 b2 : ByteArray) (w : World) (hr : L.length ≤ 66 → RdB w A L) (hc : L.length ≤ c) (hT : TabW w) (hZ : ZO w) :
    Calls Tryz.prog 10 #[.slice A L.length c, .agg #[.string a1, .string a2], .agg #[.string b1, .string b2]] w fun e w' => e = .returned (.bool true) ∧ Below w.heap.size w w' := by
  obtain ⟨ga, gc, hW1⟩ := two_new w #[.string a1, .string a2] #[.string b1, .string b2] 46 46
  have TA := Lib.hid (alive_any _ (hT.below hW1 (Nat.le_refl _)) (hZ.below hW1 (Nat.le_refl _)))
  have HR := Lib.hid (fun h W (hb : Below w.heap.size w W) => (hr h).below hb (Nat.le_refl _))
  have HTZ := Lib.hid (fun W (hb : Below w.heap.size w W) => And.intro (hT.below hb (Nat.le_refl _)) (hZ.below hb (Nat.le_refl _)))
  have HB := Lib.hid hW1
  have HC := Lib.hid hc
  have TG := Lib.hid (fun W (hb : Below w.heap.size w W) => great_all A c L W (fun h => HR.out h W hb))
  have TV := Lib.hid (fun W (hb : Below w.heap.size w W) (h : L.length ≤ 66) => checkCurve_any A c L W (HR.out h W hb) HC.out (HTZ.out W hb).1 (HTZ.out W hb).2)
  have TE := Lib.hid (fun N W (h : EnvL A c L N W) q (hq : okQ q) (hs : sm 300 q) => Chance_q h q hq hs)
  have TL := Lib.hid (fun N W (h : EnvL A c L N W) q (hq : okQ q) (hs : sm 300 q) => Slope_q h q hq hs)
  have HEE := Lib.hid (fun N W (hb : Below w.heap.size w W) (h : L.length ≤ 66) (hN : CurveP L N) => (show EnvL A c L N W from ⟨⟨HR.out h W hb, HC.out⟩, HTZ.out W hb, hN⟩))
  have TS := Lib.hid (fun W g (h : Blk W g #[.string a1, .string a2, .string b1, .string b2] 46) => lawShort_any 40 (some ⟨g, 0, none⟩) 2 [(a1, a2), (b1, b2)] W (RdP.two h))
  obtain ⟨M, hM⟩ : ∃ M, M = L.length := ⟨_, rfl⟩
  rw [← hM] at TG TV TE TL HEE ⊢
  have HM := Lib.hid hM
  have hfnR : ∀ f, Fence.wide.fn f := fun _ => trivial
  have hm : Tryz.prog.follows .mixedOrders = true := by kernel_rfl
  clear hr hc hT hZ hW1 hM
  go_enter Tryz.func10, Tryz.ntmps10
  go_wp2_with fail
  refine TA.out.mono ?_
  rintro e w1 ⟨rfl, hb1⟩
  have HB := Lib.hid (HB.out.trans (hb1.mono HB.out.size))
  have ga := ga.pass hb1
  have gc := gc.pass hb1
  clear hb1
  go_wp2_with fail
  refine (TG.out _ HB.out).mono ?_
  rintro e w2 ⟨⟨b, rfl, hgb⟩, hb2⟩
  have HB := Lib.hid (HB.out.trans (hb2.mono HB.out.size))
  have ga := ga.pass hb2
  have gc := gc.pass hb2
  have HG := Lib.hid hgb
  clear hb2 hgb
  cases b with
  | true =>
    go_wp2_with fail
    go_ret
    exact ⟨rfl, HB.out⟩
  | false =>
    have H66 := Lib.hid (HG.out rfl).1
    have gS := Blk.new w2 #[.string a1, .string a2, .string b1, .string b2] 46
    have HB := Lib.hid (HB.out.alloc HB.out.size (.cells #[.string a1, .string a2, .string b1, .string b2] 46))
    have ga2 := ga.alloc (.cells #[.string a1, .string a2, .string b1, .string b2] 46)
    have gc2 := gc.alloc (.cells #[.string a1, .string a2, .string b1, .string b2] 46)
    obtain ⟨⟨c0_0, c0_1⟩, _, _⟩ := ga.two
    obtain ⟨⟨c1_0, c1_1⟩, _, _⟩ := gc.two
    have TSS := Lib.hid (TS.out _ _ gS)
    rw [show [(a1, a2), (b1, b2)].length = 2 from rfl] at TSS
    clear gS
    go_wp2_with fail
    refine TSS.out.mono ?_
    rintro e w3 ⟨rfl, hb3⟩
    have HB := Lib.hid (HB.out.trans (hb3.mono HB.out.size))
    have ga := ga2.pass hb3
    have gc := gc2.pass hb3
    obtain ⟨d, hd⟩ : ∃ d, d = fewL 40 [(a1, a2), (b1, b2)] := ⟨_, rfl⟩
    rw [← hd]
    have HD := Lib.hid hd
    clear hb3 hd ga2 gc2 c0_0 c0_1 c1_0 c1_1
    cases d with
    | false =>
      go_wp2_with fail
      go_ret
      exact ⟨rfl, HB.out⟩
    | true =>
      go_wp2_with fail
      refine (TV.out _ HB.out H66.out).mono ?_
      rintro e w4 ⟨⟨rfl, hcv⟩ | ⟨rfl, hcv⟩, hb4⟩
      · obtain ⟨N, hcv⟩ := hcv
        have HCV := Lib.hid hcv
        have HB := Lib.hid (HB.out.trans (hb4.mono HB.out.size))
        have ga := ga.pass hb4
        have gc := gc.pass hb4
        clear hb4 hcv
        obtain ⟨⟨c0_0, c0_1⟩, _, _⟩ := ga.two
        go_wp2_with fail
        refine (check_any a1 a2 _).mono ?_
        rintro e w5 ⟨rfl, hb5⟩
        have HB := Lib.hid (HB.out.trans (hb5.mono HB.out.size))
        have ga := ga.pass hb5
        have gc := gc.pass hb5
        obtain ⟨f, hf⟩ : ∃ f, f = chk a1 a2 := ⟨_, rfl⟩
        rw [← hf]
        have HF := Lib.hid hf
        clear hb5 hf c0_0 c0_1
        cases f with
        | false =>
          rw [show okErr false = 2 from rfl]
          go_wp2_with fail
          go_ret
          exact ⟨rfl, HB.out⟩
        | true =>
          rw [show okErr true = 0 from rfl]
          obtain ⟨⟨c0_0, c0_1⟩, _, _⟩ := gc.two
          go_wp2_with fail
          refine (check_any b1 b2 _).mono ?_
          rintro e w6 ⟨rfl, hb6⟩
          have HB := Lib.hid (HB.out.trans (hb6.mono HB.out.size))
          have ga := ga.pass hb6
          have gc := gc.pass hb6
          obtain ⟨h, hh⟩ : ∃ h, h = chk b1 b2 := ⟨_, rfl⟩
          rw [← hh]
          have HH := Lib.hid hh
          clear hb6 hh c0_0 c0_1
          cases h with
          | false =>
            rw [show okErr false = 2 from rfl]
            go_wp2_with fail
            go_ret
            exact ⟨rfl, HB.out⟩
          | true =>
            rw [show okErr true = 0 from rfl]
            have hfew := few_two HD.out.symm
            obtain ⟨p, hp1, hp2, ea1, ea2⟩ := few_fr hfew.1.1 hfew.1.2 HF.out.symm
            obtain ⟨q, hq1, hq2, eb1, eb2⟩ := few_fr hfew.2.1 hfew.2.2 HH.out.symm
            have PK := Lib.hid (show PartOK L N p q from ⟨HCV.out, ⟨hp1, hp2⟩, ⟨hq1, hq2⟩⟩)
            have HE := Lib.hid (HEE.out N _ HB.out H66.out HCV.out)
            have TE := Lib.hid (TE.out N)
            have TL := Lib.hid (TL.out N)
            rw [ea1, ea2] at ga
            rw [eb1, eb2] at gc
            clear ea1 ea2 eb1 eb2 hfew hp1 hp2 hq1 hq2 HD HF HH TS TSS TV TG TA
            obtain ⟨⟨c0_0, c0_1⟩, f0, f1⟩ := ga.two
            obtain ⟨⟨c1_0, c1_1⟩, f2, f3⟩ := gc.two
            go_wp2_with fail
            refine (cmp_q p q PK.out.pp.1 PK.out.qq.1 _).mono ?_
            rintro e w7 ⟨rfl, hb7⟩
            have HB := Lib.hid (HB.out.trans (hb7.mono HB.out.size))
            have HE := Lib.hid (HE.out.pass hb7)
            have ga := ga.pass hb7
            have gc := gc.pass hb7
            clear hb7 c0_0 c0_1 f0 f1 c1_0 c1_1 f2 f3
            by_cases hlt : q < p
            · rw [cmpQ_gt hlt]
              have PK := Lib.hid PK.out.swap
              have HLE := Lib.hid (Rat.le_of_lt hlt)
              obtain ⟨⟨c0_0, c0_1⟩, f0, f1⟩ := ga.two
              obtain ⟨⟨c1_0, c1_1⟩, f2, f3⟩ := gc.two
              have hab : w.heap.size ≠ w.heap.size + 1 := by omega
              have ga2 := (((ga.set 0 (.string (qN q))).set 1 (.string (qD q))).far (p := ⟨w.heap.size + 1, 0, none⟩) hab (.string (qN p))).far (p := ⟨w.heap.size + 1, 1, none⟩) hab (.string (qD p))
              have gc2 := ((((gc.far (p := ⟨w.heap.size, 0, none⟩) hab.symm (.string (qN q))).far (p := ⟨w.heap.size, 1, none⟩) hab.symm (.string (qD q))).set 0 (.string (qN p))).set 1 (.string (qD p)))
              have HB := Lib.hid ((((HB.out.setCell (p := ⟨w.heap.size, 0, none⟩) (Nat.le_refl _) (.string (qN q))).setCell (p := ⟨w.heap.size, 1, none⟩) (Nat.le_refl _) (.string (qD q))).setCell (p := ⟨w.heap.size + 1, 0, none⟩) (Nat.le_succ _) (.string (qN p))).setCell (p := ⟨w.heap.size + 1, 1, none⟩) (Nat.le_succ _) (.string (qD p)))
              have HE := Lib.hid (HEE.out N _ HB.out H66.out HCV.out)
              have ga : Blk ((((w7.setCell ⟨w.heap.size, 0, none⟩ (.string (qN q))).setCell ⟨w.heap.size, 1, none⟩ (.string (qD q))).setCell ⟨w.heap.size + 1, 0, none⟩ (.string (qN p))).setCell ⟨w.heap.size + 1, 1, none⟩ (.string (qD p))) w.heap.size #[.string (qN q), .string (qD q)] 46 := ga2
              have gc : Blk ((((w7.setCell ⟨w.heap.size, 0, none⟩ (.string (qN q))).setCell ⟨w.heap.size, 1, none⟩ (.string (qD q))).setCell ⟨w.heap.size + 1, 0, none⟩ (.string (qN p))).setCell ⟨w.heap.size + 1, 1, none⟩ (.string (qD p))) (w.heap.size + 1) #[.string (qN p), .string (qD p)] 46 := gc2
              have c0 := ga.two.1
              have c1 := gc.two.1
              clear ga2 gc2 hab hlt
              obtain ⟨⟨c0_0, c0_1⟩, _, _⟩ := ga.two
              go_wp2_with fail
              refine (TE.out _ HE.out q PK.out.pp.1 (PK.out.pp.2.mono (by decide))).mono ?_
              rintro e w8 ⟨x, ⟨rfl, hr0, ok0⟩, hb8⟩
              have HXX := Lib.hid (And.intro hr0 ok0)
              clear c0_0 c0_1
              have HB := Lib.hid (HB.out.trans (hb8.mono HB.out.size))
              have HE := Lib.hid (HE.out.pass hb8)
              have ga := ga.pass hb8
              have gc := gc.pass hb8
              clear hb8 hr0 ok0
              have HB := Lib.hid (HB.out.alloc HB.out.size (.cells #[.string (qN x), .string (qD x)] 46))
              have HE := Lib.hid (HE.out.alloc (.cells #[.string (qN x), .string (qD x)] 46))
              have ga := ga.alloc (.cells #[.string (qN x), .string (qD x)] 46)
              have gc := gc.alloc (.cells #[.string (qN x), .string (qD x)] 46)
              have gx := Blk.new w8 #[.string (qN x), .string (qD x)] 46
              obtain ⟨⟨c0_0, c0_1⟩, _, _⟩ := gc.two
              go_wp2_with fail
              refine (TE.out _ HE.out p PK.out.qq.1 (PK.out.qq.2.mono (by decide))).mono ?_
              rintro e w9 ⟨y, ⟨rfl, hr0, ok0⟩, hb9⟩
              have HYY := Lib.hid (And.intro hr0 ok0)
              clear c0_0 c0_1
              have HB := Lib.hid (HB.out.trans (hb9.mono HB.out.size))
              have HE := Lib.hid (HE.out.pass hb9)
              have ga := ga.pass hb9
              have gc := gc.pass hb9
              have gx := gx.pass hb9
              clear hb9 hr0 ok0
              have HB := Lib.hid (HB.out.alloc HB.out.size (.cells #[.string (qN y), .string (qD y)] 46))
              have HE := Lib.hid (HE.out.alloc (.cells #[.string (qN y), .string (qD y)] 46))
              have ga := ga.alloc (.cells #[.string (qN y), .string (qD y)] 46)
              have gc := gc.alloc (.cells #[.string (qN y), .string (qD y)] 46)
              have gx := gx.alloc (.cells #[.string (qN y), .string (qD y)] 46)
              have gy := Blk.new w9 #[.string (qN y), .string (qD y)] 46
              obtain ⟨⟨c0_0, c0_1⟩, _, _⟩ := ga.two
              obtain ⟨⟨c1_0, c1_1⟩, _, _⟩ := gc.two
              go_wp2_with fail
              refine ((add_q q p PK.out.pp.1 PK.out.qq.1 PK.out.sum.1 HE.out.2.1.1).mono (fun _ _ h => got_r PK.out.sum.1 h)).mono ?_
              rintro e w10 ⟨sm1, ⟨rfl, hr0, ok0⟩, hb10⟩
              have HS := Lib.hid (And.intro hr0 ok0)
              clear c0_0 c0_1 c1_0 c1_1
              have HB := Lib.hid (HB.out.trans (hb10.mono HB.out.size))
              have HE := Lib.hid (HE.out.pass hb10)
              have ga := ga.pass hb10
              have gc := gc.pass hb10
              have gx := gx.pass hb10
              have gy := gy.pass hb10
              clear hb10 hr0 ok0
              have HB := Lib.hid (HB.out.alloc HB.out.size (.cells #[.string (qN sm1), .string (qD sm1)] 46))
              have HE := Lib.hid (HE.out.alloc (.cells #[.string (qN sm1), .string (qD sm1)] 46))
              have ga := ga.alloc (.cells #[.string (qN sm1), .string (qD sm1)] 46)
              have gc := gc.alloc (.cells #[.string (qN sm1), .string (qD sm1)] 46)
              have gx := gx.alloc (.cells #[.string (qN sm1), .string (qD sm1)] 46)
              have gy := gy.alloc (.cells #[.string (qN sm1), .string (qD sm1)] 46)
              have gs := Blk.new w10 #[.string (qN sm1), .string (qD sm1)] 46
              go_wp2_with fail
              have HMU := Lib.hid (show okQ sm1 ∧ okQ (sm1 * mkRat 1 2) by rw [HS.out.1]; exact ⟨PK.out.sum.1, PK.out.mid.1⟩)
              have HB := Lib.hid (HB.out.drew)
              have HE := Lib.hid (HE.out.pass (Below.refl _ _).drew)
              have ga := ga.drew
              have gc := gc.drew
              have gx := gx.drew
              have gy := gy.drew
              have gs := gs.drew
              have hsrc := gs.lt
              have HX := Lib.hid (Below.refl (w10.alloc (.cells #[.string (qN sm1), .string (qD sm1)] 46)).drew.heap.size (w10.alloc (.cells #[.string (qN sm1), .string (qD sm1)] 46)).drew)
              obtain ⟨n0, hn0⟩ : ∃ n0, n0 = (w10.alloc (.cells #[.string (qN sm1), .string (qD sm1)] 46)).drew.heap.size := ⟨_, rfl⟩
              refine wp_region_I (fun a0 a2 W => ∃ (bs : Nat) (R : Rat), a2 = ((((((((a0.put (some 90) (.agg #[.string (qN sm1), .string (qD sm1)])).put (some 91) (.agg #[.string (qN (mkRat 1 2)), .string (qD (mkRat 1 2))])).put (some 92) (.tuple #[.agg #[.string (qN R), .string (qD R)], .int .i64 0])).put (some 89) (.tuple #[.agg #[.string (qN R), .string (qD R)], .int .i64 0])).put (some 93) (.agg #[.string (qN R), .string (qD R)])).put (some 94) (.int .i64 0)).put (some 14) (.pointer (some ⟨bs, 0, none⟩))).put (some 15) (.int .i64 0)) ∧ (R = sm1 * (mkRat 1 2) ∧ okQ R) ∧ Blk W bs #[.string (qN R), .string (qD R)] 46 ∧ Below n0 (w10.alloc (.cells #[.string (qN sm1), .string (qD sm1)] 46)).drew W ∧ n0 ≤ bs) (fun W => W = (w10.alloc (.cells #[.string (qN sm1), .string (qD sm1)] 46)).drew) (fun W => W.cell? ⟨w10.heap.size, 0, none⟩ = some (.string (qN sm1)) ∧ W.cell? ⟨w10.heap.size, 1, none⟩ = some (.string (qD sm1))) [] hm gs.two.1 rfl ?_ ?_
              · intro W0 hCells hS
                subst hS
                generalize (w10.alloc (.cells #[.string (qN sm1), .string (qD sm1)] 46)).drew = W0 at HE HX hsrc hn0 hCells ⊢
                refine takeB hfnR (by kernel_rfl) 0 (v := ?_) rfl (by kernel_rfl) (fun _ _ _ h => h) (by kernel_rfl) hCells (Or.inl ⟨by rfl, ?_⟩) ?_
                rotate_left 1
                · intro w hSw; (try dsimp only at hSw); go_simp; (try with_reducible rfl)
                try simp only [Act.put, List.setIfInBounds_toArray, List.set_cons_zero, List.set_cons_succ]
                refine wpAnyJ_ready (rs := [1, 6]) (by kernel_rfl) (by simp) (consJ 1 rfl (fun K hK => ?_) (consJ 6 rfl (fun K hK => ?_) AllJ.nil))
                ·
                  go_simp
                  refine ⟨rfl, ?_⟩
                  refine (callsIn_wide.2 (of12 _ (HE.out.2.1.1.below HX.out (Nat.le_refl _)))).mono ?_
                  rintro e v1_0 ⟨rfl, hv⟩
                  refine hK.out _ _ (holdJ ?_ (fun hCells => ?_))
                  · clear hK; (try dsimp only); exact ⟨pc hv hCells.1, pc hv hCells.2⟩
                  clear hK K
                  have HX := Lib.hid (HX.out.trans (hv.mono HX.out.size))
                  clear hv
                  try simp only [Act.put, List.setIfInBounds_toArray, List.set_cons_zero, List.set_cons_succ]
                  refine wpAnyJ_ready (rs := [2, 6]) (by kernel_rfl) (by simp) (consJ 2 rfl (fun K hK => ?_) (consJ 6 rfl (fun K hK => ?_) AllJ.nil))
                  ·
                    go_simp
                    refine ⟨rfl, ?_⟩
                    refine (callsIn_wide.2 ((mul_q sm1 (mkRat 1 2) HMU.out.1 half_ok.1 HMU.out.2 (HE.out.2.1.1.below HX.out (Nat.le_refl _))).mono (fun _ _ h => got_r HMU.out.2 h))).mono ?_
                    rintro e v2_1 ⟨mid, ⟨rfl, hr0, ok0⟩, hv⟩
                    have HRR := Lib.hid (And.intro hr0 ok0)
                    clear hr0 ok0
                    refine hK.out _ _ (holdJ ?_ (fun hCells => ?_))
                    · clear hK; (try dsimp only); exact ⟨pc hv hCells.1, pc hv hCells.2⟩
                    clear hK K
                    have HX := Lib.hid (HX.out.trans (hv.mono HX.out.size))
                    clear hv
                    try simp only [Act.put, List.setIfInBounds_toArray, List.set_cons_zero, List.set_cons_succ]
                    refine takeB hfnR (by kernel_rfl) 3 (v := ?_) rfl (by kernel_rfl) (fun _ _ _ h => h) (by kernel_rfl) hCells (Or.inl ⟨by rfl, ?_⟩) ?_
                    rotate_left 1
                    · intro w hSw; (try dsimp only at hSw); go_simp; (try with_reducible rfl)
                    try simp only [Act.put, List.setIfInBounds_toArray, List.set_cons_zero, List.set_cons_succ]
                    refine takeB hfnR (by kernel_rfl) 4 (v := ?_) rfl (by kernel_rfl) (fun _ _ _ h => h) (by kernel_rfl) hCells (Or.inl ⟨by rfl, ?_⟩) ?_
                    rotate_left 1
                    · intro w hSw; (try dsimp only at hSw); go_simp; (try with_reducible rfl)
                    try simp only [Act.put, List.setIfInBounds_toArray, List.set_cons_zero, List.set_cons_succ]
                    refine takeB hfnR (by kernel_rfl) 5 (v := ?_) rfl (by kernel_rfl) (fun _ _ _ h => h) (by kernel_rfl) hCells (Or.inl ⟨by rfl, ?_⟩) ?_
                    rotate_left 1
                    · intro w hSw; (try dsimp only at hSw); go_simp; (try with_reducible rfl)
                    try simp only [Act.put, List.setIfInBounds_toArray, List.set_cons_zero, List.set_cons_succ]
                    refine oneJ 6 (by kernel_rfl) rfl (fun K hK => ?_)
                    go_simp
                    refine hK.out _ _ (holdJ ?_ (fun hCells => ?_))
                    · clear hK; (try dsimp only); exact ⟨pc (below_alloc _ _) hCells.1, pc (below_alloc _ _) hCells.2⟩
                    clear hK K
                    have gb := Blk.new v2_1 #[.string ⟨#[]⟩, .string ⟨#[]⟩] 46
                    obtain ⟨bs, hbs⟩ : ∃ bs, bs = v2_1.heap.size := ⟨_, rfl⟩
                    have hge : W0.heap.size ≤ bs := by rw [hbs]; exact HX.out.size
                    have HX := Lib.hid (HX.out.alloc HX.out.size (.cells #[.string ⟨#[]⟩, .string ⟨#[]⟩] 46))
                    rw [← hbs] at gb ⊢
                    clear hbs
                    generalize v2_1.alloc (.cells #[.string ⟨#[]⟩, .string ⟨#[]⟩] 46) = va_3 at gb HX hCells ⊢
                    try simp only [Act.put, List.setIfInBounds_toArray, List.set_cons_zero, List.set_cons_succ]
                    obtain ⟨⟨r0, r1⟩, f0, f1⟩ := gb.two
                    refine oneJ 7 (by kernel_rfl) rfl (fun K hK => ?_)
                    go_simp
                    refine hK.out _ _ (holdJ ?_ (fun hCells => ?_))
                    · clear hK; (try dsimp only); exact ⟨far2 hCells.1 (by omega), far2 hCells.2 (by omega)⟩
                    clear hK K r0 r1 f0 f1
                    try simp only [Act.put, List.setIfInBounds_toArray, List.set_cons_zero, List.set_cons_succ]
                    refine takeB hfnR (by kernel_rfl) 8 (v := ?_) rfl (by kernel_rfl) (fun _ _ _ h => h) (by kernel_rfl) hCells (Or.inl ⟨by rfl, ?_⟩) ?_
                    rotate_left 1
                    · intro w hSw; (try dsimp only at hSw); go_simp; (try with_reducible rfl)
                    try simp only [Act.put, List.setIfInBounds_toArray, List.set_cons_zero, List.set_cons_succ]
                    refine wpAnyJ_done (by kernel_rfl) (NoPan.normal ?_) _
                    refine ⟨rfl, bs, mid, ?_, HRR.out, (gb.set 0 _).set 1 _, by rw [hn0]; exact (HX.out.setCell (p := ⟨bs, 0, none⟩) hge _).setCell (p := ⟨bs, 1, none⟩) hge _, by rw [hn0]; exact hge⟩
                    simp only [Act.put, List.setIfInBounds_toArray, List.set_cons_zero, List.set_cons_succ]
                  ·
                    go_simp
                    refine hK.out _ _ (holdJ ?_ (fun hCells => ?_))
                    · clear hK; (try dsimp only); exact ⟨pc (below_alloc _ _) hCells.1, pc (below_alloc _ _) hCells.2⟩
                    clear hK K
                    have gb := Blk.new v1_0 #[.string ⟨#[]⟩, .string ⟨#[]⟩] 46
                    obtain ⟨bs, hbs⟩ : ∃ bs, bs = v1_0.heap.size := ⟨_, rfl⟩
                    have hge : W0.heap.size ≤ bs := by rw [hbs]; exact HX.out.size
                    have HX := Lib.hid (HX.out.alloc HX.out.size (.cells #[.string ⟨#[]⟩, .string ⟨#[]⟩] 46))
                    rw [← hbs] at gb ⊢
                    clear hbs
                    generalize v1_0.alloc (.cells #[.string ⟨#[]⟩, .string ⟨#[]⟩] 46) = va_1 at gb HX hCells ⊢
                    try simp only [Act.put, List.setIfInBounds_toArray, List.set_cons_zero, List.set_cons_succ]
                    refine oneJ 2 (by kernel_rfl) rfl (fun K hK => ?_)
                    go_simp
                    refine ⟨rfl, ?_⟩
                    refine (callsIn_wide.2 ((mul_q sm1 (mkRat 1 2) HMU.out.1 half_ok.1 HMU.out.2 (HE.out.2.1.1.below HX.out (Nat.le_refl _))).mono (fun _ _ h => got_r HMU.out.2 h))).mono ?_
                    rintro e v2_2 ⟨mid, ⟨rfl, hr0, ok0⟩, hv⟩
                    have HRR := Lib.hid (And.intro hr0 ok0)
                    clear hr0 ok0
                    refine hK.out _ _ (holdJ ?_ (fun hCells => ?_))
                    · clear hK; (try dsimp only); exact ⟨pc hv hCells.1, pc hv hCells.2⟩
                    clear hK K
                    have HX := Lib.hid (HX.out.trans (hv.mono HX.out.size))
                    have gb := gb.pass hv
                    clear hv
                    try simp only [Act.put, List.setIfInBounds_toArray, List.set_cons_zero, List.set_cons_succ]
                    refine takeB hfnR (by kernel_rfl) 3 (v := ?_) rfl (by kernel_rfl) (fun _ _ _ h => h) (by kernel_rfl) hCells (Or.inl ⟨by rfl, ?_⟩) ?_
                    rotate_left 1
                    · intro w hSw; (try dsimp only at hSw); go_simp; (try with_reducible rfl)
                    try simp only [Act.put, List.setIfInBounds_toArray, List.set_cons_zero, List.set_cons_succ]
                    refine takeB hfnR (by kernel_rfl) 4 (v := ?_) rfl (by kernel_rfl) (fun _ _ _ h => h) (by kernel_rfl) hCells (Or.inl ⟨by rfl, ?_⟩) ?_
                    rotate_left 1
                    · intro w hSw; (try dsimp only at hSw); go_simp; (try with_reducible rfl)
                    try simp only [Act.put, List.setIfInBounds_toArray, List.set_cons_zero, List.set_cons_succ]
                    refine takeB hfnR (by kernel_rfl) 5 (v := ?_) rfl (by kernel_rfl) (fun _ _ _ h => h) (by kernel_rfl) hCells (Or.inl ⟨by rfl, ?_⟩) ?_
                    rotate_left 1
                    · intro w hSw; (try dsimp only at hSw); go_simp; (try with_reducible rfl)
                    try simp only [Act.put, List.setIfInBounds_toArray, List.set_cons_zero, List.set_cons_succ]
                    obtain ⟨⟨r0, r1⟩, f0, f1⟩ := gb.two
                    refine oneJ 7 (by kernel_rfl) rfl (fun K hK => ?_)
                    go_simp
                    refine hK.out _ _ (holdJ ?_ (fun hCells => ?_))
                    · clear hK; (try dsimp only); exact ⟨far2 hCells.1 (by omega), far2 hCells.2 (by omega)⟩
                    clear hK K r0 r1 f0 f1
                    try simp only [Act.put, List.setIfInBounds_toArray, List.set_cons_zero, List.set_cons_succ]
                    refine takeB hfnR (by kernel_rfl) 8 (v := ?_) rfl (by kernel_rfl) (fun _ _ _ h => h) (by kernel_rfl) hCells (Or.inl ⟨by rfl, ?_⟩) ?_
                    rotate_left 1
                    · intro w hSw; (try dsimp only at hSw); go_simp; (try with_reducible rfl)
                    try simp only [Act.put, List.setIfInBounds_toArray, List.set_cons_zero, List.set_cons_succ]
                    refine wpAnyJ_done (by kernel_rfl) (NoPan.normal ?_) _
                    refine ⟨rfl, bs, mid, ?_, HRR.out, (gb.set 0 _).set 1 _, by rw [hn0]; exact (HX.out.setCell (p := ⟨bs, 0, none⟩) hge _).setCell (p := ⟨bs, 1, none⟩) hge _, by rw [hn0]; exact hge⟩
                    simp only [Act.put, List.setIfInBounds_toArray, List.set_cons_zero, List.set_cons_succ]
                ·
                  go_simp
                  refine hK.out _ _ (holdJ ?_ (fun hCells => ?_))
                  · clear hK; (try dsimp only); exact ⟨pc (below_alloc _ _) hCells.1, pc (below_alloc _ _) hCells.2⟩
                  clear hK K
                  have gb := Blk.new W0 #[.string ⟨#[]⟩, .string ⟨#[]⟩] 46
                  obtain ⟨bs, hbs⟩ : ∃ bs, bs = W0.heap.size := ⟨_, rfl⟩
                  have hge : W0.heap.size ≤ bs := by rw [hbs]; exact HX.out.size
                  have HX := Lib.hid (HX.out.alloc HX.out.size (.cells #[.string ⟨#[]⟩, .string ⟨#[]⟩] 46))
                  rw [← hbs] at gb ⊢
                  clear hbs
                  generalize W0.alloc (.cells #[.string ⟨#[]⟩, .string ⟨#[]⟩] 46) = va_0 at gb HX hCells ⊢
                  try simp only [Act.put, List.setIfInBounds_toArray, List.set_cons_zero, List.set_cons_succ]
                  refine oneJ 1 (by kernel_rfl) rfl (fun K hK => ?_)
                  go_simp
                  refine ⟨rfl, ?_⟩
                  refine (callsIn_wide.2 (of12 _ (HE.out.2.1.1.below HX.out (Nat.le_refl _)))).mono ?_
                  rintro e v1_1 ⟨rfl, hv⟩
                  refine hK.out _ _ (holdJ ?_ (fun hCells => ?_))
                  · clear hK; (try dsimp only); exact ⟨pc hv hCells.1, pc hv hCells.2⟩
                  clear hK K
                  have HX := Lib.hid (HX.out.trans (hv.mono HX.out.size))
                  have gb := gb.pass hv
                  clear hv
                  try simp only [Act.put, List.setIfInBounds_toArray, List.set_cons_zero, List.set_cons_succ]
                  refine oneJ 2 (by kernel_rfl) rfl (fun K hK => ?_)
                  go_simp
                  refine ⟨rfl, ?_⟩
                  refine (callsIn_wide.2 ((mul_q sm1 (mkRat 1 2) HMU.out.1 half_ok.1 HMU.out.2 (HE.out.2.1.1.below HX.out (Nat.le_refl _))).mono (fun _ _ h => got_r HMU.out.2 h))).mono ?_
                  rintro e v2_2 ⟨mid, ⟨rfl, hr0, ok0⟩, hv⟩
                  have HRR := Lib.hid (And.intro hr0 ok0)
                  clear hr0 ok0
                  refine hK.out _ _ (holdJ ?_ (fun hCells => ?_))
                  · clear hK; (try dsimp only); exact ⟨pc hv hCells.1, pc hv hCells.2⟩
                  clear hK K
                  have HX := Lib.hid (HX.out.trans (hv.mono HX.out.size))
                  have gb := gb.pass hv
                  clear hv
                  try simp only [Act.put, List.setIfInBounds_toArray, List.set_cons_zero, List.set_cons_succ]
                  refine takeB hfnR (by kernel_rfl) 3 (v := ?_) rfl (by kernel_rfl) (fun _ _ _ h => h) (by kernel_rfl) hCells (Or.inl ⟨by rfl, ?_⟩) ?_
                  rotate_left 1
                  · intro w hSw; (try dsimp only at hSw); go_simp; (try with_reducible rfl)
                  try simp only [Act.put, List.setIfInBounds_toArray, List.set_cons_zero, List.set_cons_succ]
                  refine takeB hfnR (by kernel_rfl) 4 (v := ?_) rfl (by kernel_rfl) (fun _ _ _ h => h) (by kernel_rfl) hCells (Or.inl ⟨by rfl, ?_⟩) ?_
                  rotate_left 1
                  · intro w hSw; (try dsimp only at hSw); go_simp; (try with_reducible rfl)
                  try simp only [Act.put, List.setIfInBounds_toArray, List.set_cons_zero, List.set_cons_succ]
                  refine takeB hfnR (by kernel_rfl) 5 (v := ?_) rfl (by kernel_rfl) (fun _ _ _ h => h) (by kernel_rfl) hCells (Or.inl ⟨by rfl, ?_⟩) ?_
                  rotate_left 1
                  · intro w hSw; (try dsimp only at hSw); go_simp; (try with_reducible rfl)
                  try simp only [Act.put, List.setIfInBounds_toArray, List.set_cons_zero, List.set_cons_succ]
                  obtain ⟨⟨r0, r1⟩, f0, f1⟩ := gb.two
                  refine oneJ 7 (by kernel_rfl) rfl (fun K hK => ?_)
                  go_simp
                  refine hK.out _ _ (holdJ ?_ (fun hCells => ?_))
                  · clear hK; (try dsimp only); exact ⟨far2 hCells.1 (by omega), far2 hCells.2 (by omega)⟩
                  clear hK K r0 r1 f0 f1
                  try simp only [Act.put, List.setIfInBounds_toArray, List.set_cons_zero, List.set_cons_succ]
                  refine takeB hfnR (by kernel_rfl) 8 (v := ?_) rfl (by kernel_rfl) (fun _ _ _ h => h) (by kernel_rfl) hCells (Or.inl ⟨by rfl, ?_⟩) ?_
                  rotate_left 1
                  · intro w hSw; (try dsimp only at hSw); go_simp; (try with_reducible rfl)
                  try simp only [Act.put, List.setIfInBounds_toArray, List.set_cons_zero, List.set_cons_succ]
                  refine wpAnyJ_done (by kernel_rfl) (NoPan.normal ?_) _
                  refine ⟨rfl, bs, mid, ?_, HRR.out, (gb.set 0 _).set 1 _, by rw [hn0]; exact (HX.out.setCell (p := ⟨bs, 0, none⟩) hge _).setCell (p := ⟨bs, 1, none⟩) hge _, by rw [hn0]; exact hge⟩
                  simp only [Act.put, List.setIfInBounds_toArray, List.set_cons_zero, List.set_cons_succ]
              · rintro a2 W11 ⟨b11, mid, rfl, hfact, gm, hX, hge⟩
                have HMM := Lib.hid hfact
                rw [hn0] at hX
                have ga := ga.below hX ga.lt
                have gc := gc.below hX gc.lt
                have gx := gx.below hX gx.lt
                have gy := gy.below hX gy.lt
                have gs := gs.below hX gs.lt
                have HB := Lib.hid (HB.out.trans (hX.mono HB.out.size))
                have HE := Lib.hid (HE.out.pass hX)
                clear HX hX hge hsrc hfact hn0
                simp only [Act.put, List.setIfInBounds_toArray, List.set_cons_zero, List.set_cons_succ]
                obtain ⟨⟨c0_0, c0_1⟩, _, _⟩ := gm.two
                go_wp2_with fail
                have HMS := Lib.hid (show okQ mid ∧ sm 300 mid by rw [HMM.out.1, HS.out.1]; exact ⟨PK.out.mid.1, PK.out.mid.2.mono (by decide)⟩)
                refine (TE.out _ HE.out mid HMS.out.1 HMS.out.2).mono ?_
                rintro e w12 ⟨z, ⟨rfl, hr0, ok0⟩, hb12⟩
                have HZZ := Lib.hid (And.intro hr0 ok0)
                clear c0_0 c0_1
                have HB := Lib.hid (HB.out.trans (hb12.mono HB.out.size))
                have HE := Lib.hid (HE.out.pass hb12)
                have ga := ga.pass hb12
                have gc := gc.pass hb12
                have gx := gx.pass hb12
                have gy := gy.pass hb12
                have gs := gs.pass hb12
                have gm := gm.pass hb12
                clear hb12 hr0 ok0
                have HB := Lib.hid (HB.out.alloc HB.out.size (.cells #[.string (qN z), .string (qD z)] 46))
                have HE := Lib.hid (HE.out.alloc (.cells #[.string (qN z), .string (qD z)] 46))
                have ga := ga.alloc (.cells #[.string (qN z), .string (qD z)] 46)
                have gc := gc.alloc (.cells #[.string (qN z), .string (qD z)] 46)
                have gx := gx.alloc (.cells #[.string (qN z), .string (qD z)] 46)
                have gy := gy.alloc (.cells #[.string (qN z), .string (qD z)] 46)
                have gs := gs.alloc (.cells #[.string (qN z), .string (qD z)] 46)
                have gm := gm.alloc (.cells #[.string (qN z), .string (qD z)] 46)
                have gz := Blk.new w12 #[.string (qN z), .string (qD z)] 46
                obtain ⟨⟨c0_0, c0_1⟩, _, _⟩ := gx.two
                obtain ⟨⟨c1_0, c1_1⟩, _, _⟩ := gy.two
                go_wp2_with fail
                have HBO := Lib.hid (PK.out.both HXX.out.1 HYY.out.1)
                refine ((add_q x y HXX.out.2 HYY.out.2 HBO.out.1 HE.out.2.1.1).mono (fun _ _ h => got_r HBO.out.1 h)).mono ?_
                rintro e w13 ⟨bo, ⟨rfl, hr0, ok0⟩, hb13⟩
                have HBB := Lib.hid (And.intro hr0 ok0)
                clear c0_0 c0_1 c1_0 c1_1
                have HB := Lib.hid (HB.out.trans (hb13.mono HB.out.size))
                have HE := Lib.hid (HE.out.pass hb13)
                have ga := ga.pass hb13
                have gc := gc.pass hb13
                have gx := gx.pass hb13
                have gy := gy.pass hb13
                have gs := gs.pass hb13
                have gm := gm.pass hb13
                have gz := gz.pass hb13
                clear hb13 hr0 ok0
                have HB := Lib.hid (HB.out.alloc HB.out.size (.cells #[.string (qN bo), .string (qD bo)] 46))
                have HE := Lib.hid (HE.out.alloc (.cells #[.string (qN bo), .string (qD bo)] 46))
                have ga := ga.alloc (.cells #[.string (qN bo), .string (qD bo)] 46)
                have gc := gc.alloc (.cells #[.string (qN bo), .string (qD bo)] 46)
                have gx := gx.alloc (.cells #[.string (qN bo), .string (qD bo)] 46)
                have gy := gy.alloc (.cells #[.string (qN bo), .string (qD bo)] 46)
                have gs := gs.alloc (.cells #[.string (qN bo), .string (qD bo)] 46)
                have gm := gm.alloc (.cells #[.string (qN bo), .string (qD bo)] 46)
                have gz := gz.alloc (.cells #[.string (qN bo), .string (qD bo)] 46)
                have gb2 := Blk.new w13 #[.string (qN bo), .string (qD bo)] 46
                go_wp2_with fail
                have HMU := Lib.hid (show okQ bo ∧ okQ (bo * mkRat 1 2) by rw [HBB.out.1]; exact ⟨HBO.out.1, PK.out.halfboth HXX.out.1 HYY.out.1⟩)
                have HB := Lib.hid (HB.out.drew)
                have HE := Lib.hid (HE.out.pass (Below.refl _ _).drew)
                have ga := ga.drew
                have gc := gc.drew
                have gx := gx.drew
                have gy := gy.drew
                have gs := gs.drew
                have gm := gm.drew
                have gz := gz.drew
                have gb2 := gb2.drew
                have hsrc := gb2.lt
                have HX := Lib.hid (Below.refl (w13.alloc (.cells #[.string (qN bo), .string (qD bo)] 46)).drew.heap.size (w13.alloc (.cells #[.string (qN bo), .string (qD bo)] 46)).drew)
                obtain ⟨n0, hn0⟩ : ∃ n0, n0 = (w13.alloc (.cells #[.string (qN bo), .string (qD bo)] 46)).drew.heap.size := ⟨_, rfl⟩
                refine wp_region_I (fun a0 a2 W => ∃ (bs : Nat) (R : Rat), a2 = ((((((((a0.put (some 108) (.agg #[.string (qN bo), .string (qD bo)])).put (some 109) (.agg #[.string (qN (mkRat 1 2)), .string (qD (mkRat 1 2))])).put (some 110) (.tuple #[.agg #[.string (qN R), .string (qD R)], .int .i64 0])).put (some 107) (.tuple #[.agg #[.string (qN R), .string (qD R)], .int .i64 0])).put (some 111) (.agg #[.string (qN R), .string (qD R)])).put (some 112) (.int .i64 0)).put (some 20) (.pointer (some ⟨bs, 0, none⟩))).put (some 21) (.int .i64 0)) ∧ (R = bo * (mkRat 1 2) ∧ okQ R) ∧ Blk W bs #[.string (qN R), .string (qD R)] 46 ∧ Below n0 (w13.alloc (.cells #[.string (qN bo), .string (qD bo)] 46)).drew W ∧ n0 ≤ bs) (fun W => W = (w13.alloc (.cells #[.string (qN bo), .string (qD bo)] 46)).drew) (fun W => W.cell? ⟨w13.heap.size, 0, none⟩ = some (.string (qN bo)) ∧ W.cell? ⟨w13.heap.size, 1, none⟩ = some (.string (qD bo))) [] hm gb2.two.1 rfl ?_ ?_
                · intro W0 hCells hS
                  subst hS
                  generalize (w13.alloc (.cells #[.string (qN bo), .string (qD bo)] 46)).drew = W0 at HE HX hsrc hn0 hCells ⊢
                  refine takeB hfnR (by kernel_rfl) 0 (v := ?_) rfl (by kernel_rfl) (fun _ _ _ h => h) (by kernel_rfl) hCells (Or.inl ⟨by rfl, ?_⟩) ?_
                  rotate_left 1
                  · intro w hSw; (try dsimp only at hSw); go_simp; (try with_reducible rfl)
                  try simp only [Act.put, List.setIfInBounds_toArray, List.set_cons_zero, List.set_cons_succ]
                  refine wpAnyJ_ready (rs := [1, 6]) (by kernel_rfl) (by simp) (consJ 1 rfl (fun K hK => ?_) (consJ 6 rfl (fun K hK => ?_) AllJ.nil))
                  ·
                    go_simp
                    refine ⟨rfl, ?_⟩
                    refine (callsIn_wide.2 (of12 _ (HE.out.2.1.1.below HX.out (Nat.le_refl _)))).mono ?_
                    rintro e v1_0 ⟨rfl, hv⟩
                    refine hK.out _ _ (holdJ ?_ (fun hCells => ?_))
                    · clear hK; (try dsimp only); exact ⟨pc hv hCells.1, pc hv hCells.2⟩
                    clear hK K
                    have HX := Lib.hid (HX.out.trans (hv.mono HX.out.size))
                    clear hv
                    try simp only [Act.put, List.setIfInBounds_toArray, List.set_cons_zero, List.set_cons_succ]
                    refine wpAnyJ_ready (rs := [2, 6]) (by kernel_rfl) (by simp) (consJ 2 rfl (fun K hK => ?_) (consJ 6 rfl (fun K hK => ?_) AllJ.nil))
                    ·
                      go_simp
                      refine ⟨rfl, ?_⟩
                      refine (callsIn_wide.2 ((mul_q bo (mkRat 1 2) HMU.out.1 half_ok.1 HMU.out.2 (HE.out.2.1.1.below HX.out (Nat.le_refl _))).mono (fun _ _ h => got_r HMU.out.2 h))).mono ?_
                      rintro e v2_1 ⟨hf, ⟨rfl, hr0, ok0⟩, hv⟩
                      have HRR := Lib.hid (And.intro hr0 ok0)
                      clear hr0 ok0
                      refine hK.out _ _ (holdJ ?_ (fun hCells => ?_))
                      · clear hK; (try dsimp only); exact ⟨pc hv hCells.1, pc hv hCells.2⟩
                      clear hK K
                      have HX := Lib.hid (HX.out.trans (hv.mono HX.out.size))
                      clear hv
                      try simp only [Act.put, List.setIfInBounds_toArray, List.set_cons_zero, List.set_cons_succ]
                      refine takeB hfnR (by kernel_rfl) 3 (v := ?_) rfl (by kernel_rfl) (fun _ _ _ h => h) (by kernel_rfl) hCells (Or.inl ⟨by rfl, ?_⟩) ?_
                      rotate_left 1
                      · intro w hSw; (try dsimp only at hSw); go_simp; (try with_reducible rfl)
                      try simp only [Act.put, List.setIfInBounds_toArray, List.set_cons_zero, List.set_cons_succ]
                      refine takeB hfnR (by kernel_rfl) 4 (v := ?_) rfl (by kernel_rfl) (fun _ _ _ h => h) (by kernel_rfl) hCells (Or.inl ⟨by rfl, ?_⟩) ?_
                      rotate_left 1
                      · intro w hSw; (try dsimp only at hSw); go_simp; (try with_reducible rfl)
                      try simp only [Act.put, List.setIfInBounds_toArray, List.set_cons_zero, List.set_cons_succ]
                      refine takeB hfnR (by kernel_rfl) 5 (v := ?_) rfl (by kernel_rfl) (fun _ _ _ h => h) (by kernel_rfl) hCells (Or.inl ⟨by rfl, ?_⟩) ?_
                      rotate_left 1
                      · intro w hSw; (try dsimp only at hSw); go_simp; (try with_reducible rfl)
                      try simp only [Act.put, List.setIfInBounds_toArray, List.set_cons_zero, List.set_cons_succ]
                      refine oneJ 6 (by kernel_rfl) rfl (fun K hK => ?_)
                      go_simp
                      refine hK.out _ _ (holdJ ?_ (fun hCells => ?_))
                      · clear hK; (try dsimp only); exact ⟨pc (below_alloc _ _) hCells.1, pc (below_alloc _ _) hCells.2⟩
                      clear hK K
                      have gb := Blk.new v2_1 #[.string ⟨#[]⟩, .string ⟨#[]⟩] 46
                      obtain ⟨bs, hbs⟩ : ∃ bs, bs = v2_1.heap.size := ⟨_, rfl⟩
                      have hge : W0.heap.size ≤ bs := by rw [hbs]; exact HX.out.size
                      have HX := Lib.hid (HX.out.alloc HX.out.size (.cells #[.string ⟨#[]⟩, .string ⟨#[]⟩] 46))
                      rw [← hbs] at gb ⊢
                      clear hbs
                      generalize v2_1.alloc (.cells #[.string ⟨#[]⟩, .string ⟨#[]⟩] 46) = va_3 at gb HX hCells ⊢
                      try simp only [Act.put, List.setIfInBounds_toArray, List.set_cons_zero, List.set_cons_succ]
                      obtain ⟨⟨r0, r1⟩, f0, f1⟩ := gb.two
                      refine oneJ 7 (by kernel_rfl) rfl (fun K hK => ?_)
                      go_simp
                      refine hK.out _ _ (holdJ ?_ (fun hCells => ?_))
                      · clear hK; (try dsimp only); exact ⟨far2 hCells.1 (by omega), far2 hCells.2 (by omega)⟩
                      clear hK K r0 r1 f0 f1
                      try simp only [Act.put, List.setIfInBounds_toArray, List.set_cons_zero, List.set_cons_succ]
                      refine takeB hfnR (by kernel_rfl) 8 (v := ?_) rfl (by kernel_rfl) (fun _ _ _ h => h) (by kernel_rfl) hCells (Or.inl ⟨by rfl, ?_⟩) ?_
                      rotate_left 1
                      · intro w hSw; (try dsimp only at hSw); go_simp; (try with_reducible rfl)
                      try simp only [Act.put, List.setIfInBounds_toArray, List.set_cons_zero, List.set_cons_succ]
                      refine wpAnyJ_done (by kernel_rfl) (NoPan.normal ?_) _
                      refine ⟨rfl, bs, hf, ?_, HRR.out, (gb.set 0 _).set 1 _, by rw [hn0]; exact (HX.out.setCell (p := ⟨bs, 0, none⟩) hge _).setCell (p := ⟨bs, 1, none⟩) hge _, by rw [hn0]; exact hge⟩
                      simp only [Act.put, List.setIfInBounds_toArray, List.set_cons_zero, List.set_cons_succ]
                    ·
                      go_simp
                      refine hK.out _ _ (holdJ ?_ (fun hCells => ?_))
                      · clear hK; (try dsimp only); exact ⟨pc (below_alloc _ _) hCells.1, pc (below_alloc _ _) hCells.2⟩
                      clear hK K
                      have gb := Blk.new v1_0 #[.string ⟨#[]⟩, .string ⟨#[]⟩] 46
                      obtain ⟨bs, hbs⟩ : ∃ bs, bs = v1_0.heap.size := ⟨_, rfl⟩
                      have hge : W0.heap.size ≤ bs := by rw [hbs]; exact HX.out.size
                      have HX := Lib.hid (HX.out.alloc HX.out.size (.cells #[.string ⟨#[]⟩, .string ⟨#[]⟩] 46))
                      rw [← hbs] at gb ⊢
                      clear hbs
                      generalize v1_0.alloc (.cells #[.string ⟨#[]⟩, .string ⟨#[]⟩] 46) = va_1 at gb HX hCells ⊢
                      try simp only [Act.put, List.setIfInBounds_toArray, List.set_cons_zero, List.set_cons_succ]
                      refine oneJ 2 (by kernel_rfl) rfl (fun K hK => ?_)
                      go_simp
                      refine ⟨rfl, ?_⟩
                      refine (callsIn_wide.2 ((mul_q bo (mkRat 1 2) HMU.out.1 half_ok.1 HMU.out.2 (HE.out.2.1.1.below HX.out (Nat.le_refl _))).mono (fun _ _ h => got_r HMU.out.2 h))).mono ?_
                      rintro e v2_2 ⟨hf, ⟨rfl, hr0, ok0⟩, hv⟩
                      have HRR := Lib.hid (And.intro hr0 ok0)
                      clear hr0 ok0
                      refine hK.out _ _ (holdJ ?_ (fun hCells => ?_))
                      · clear hK; (try dsimp only); exact ⟨pc hv hCells.1, pc hv hCells.2⟩
                      clear hK K
                      have HX := Lib.hid (HX.out.trans (hv.mono HX.out.size))
                      have gb := gb.pass hv
                      clear hv
                      try simp only [Act.put, List.setIfInBounds_toArray, List.set_cons_zero, List.set_cons_succ]
                      refine takeB hfnR (by kernel_rfl) 3 (v := ?_) rfl (by kernel_rfl) (fun _ _ _ h => h) (by kernel_rfl) hCells (Or.inl ⟨by rfl, ?_⟩) ?_
                      rotate_left 1
                      · intro w hSw; (try dsimp only at hSw); go_simp; (try with_reducible rfl)
                      try simp only [Act.put, List.setIfInBounds_toArray, List.set_cons_zero, List.set_cons_succ]
                      refine takeB hfnR (by kernel_rfl) 4 (v := ?_) rfl (by kernel_rfl) (fun _ _ _ h => h) (by kernel_rfl) hCells (Or.inl ⟨by rfl, ?_⟩) ?_
                      rotate_left 1
                      · intro w hSw; (try dsimp only at hSw); go_simp; (try with_reducible rfl)
                      try simp only [Act.put, List.setIfInBounds_toArray, List.set_cons_zero, List.set_cons_succ]
                      refine takeB hfnR (by kernel_rfl) 5 (v := ?_) rfl (by kernel_rfl) (fun _ _ _ h => h) (by kernel_rfl) hCells (Or.inl ⟨by rfl, ?_⟩) ?_
                      rotate_left 1
                      · intro w hSw; (try dsimp only at hSw); go_simp; (try with_reducible rfl)
                      try simp only [Act.put, List.setIfInBounds_toArray, List.set_cons_zero, List.set_cons_succ]
                      obtain ⟨⟨r0, r1⟩, f0, f1⟩ := gb.two
                      refine oneJ 7 (by kernel_rfl) rfl (fun K hK => ?_)
                      go_simp
                      refine hK.out _ _ (holdJ ?_ (fun hCells => ?_))
                      · clear hK; (try dsimp only); exact ⟨far2 hCells.1 (by omega), far2 hCells.2 (by omega)⟩
                      clear hK K r0 r1 f0 f1
                      try simp only [Act.put, List.setIfInBounds_toArray, List.set_cons_zero, List.set_cons_succ]
                      refine takeB hfnR (by kernel_rfl) 8 (v := ?_) rfl (by kernel_rfl) (fun _ _ _ h => h) (by kernel_rfl) hCells (Or.inl ⟨by rfl, ?_⟩) ?_
                      rotate_left 1
                      · intro w hSw; (try dsimp only at hSw); go_simp; (try with_reducible rfl)
                      try simp only [Act.put, List.setIfInBounds_toArray, List.set_cons_zero, List.set_cons_succ]
                      refine wpAnyJ_done (by kernel_rfl) (NoPan.normal ?_) _
                      refine ⟨rfl, bs, hf, ?_, HRR.out, (gb.set 0 _).set 1 _, by rw [hn0]; exact (HX.out.setCell (p := ⟨bs, 0, none⟩) hge _).setCell (p := ⟨bs, 1, none⟩) hge _, by rw [hn0]; exact hge⟩
                      simp only [Act.put, List.setIfInBounds_toArray, List.set_cons_zero, List.set_cons_succ]
                  ·
                    go_simp
                    refine hK.out _ _ (holdJ ?_ (fun hCells => ?_))
                    · clear hK; (try dsimp only); exact ⟨pc (below_alloc _ _) hCells.1, pc (below_alloc _ _) hCells.2⟩
                    clear hK K
                    have gb := Blk.new W0 #[.string ⟨#[]⟩, .string ⟨#[]⟩] 46
                    obtain ⟨bs, hbs⟩ : ∃ bs, bs = W0.heap.size := ⟨_, rfl⟩
                    have hge : W0.heap.size ≤ bs := by rw [hbs]; exact HX.out.size
                    have HX := Lib.hid (HX.out.alloc HX.out.size (.cells #[.string ⟨#[]⟩, .string ⟨#[]⟩] 46))
                    rw [← hbs] at gb ⊢
                    clear hbs
                    generalize W0.alloc (.cells #[.string ⟨#[]⟩, .string ⟨#[]⟩] 46) = va_0 at gb HX hCells ⊢
                    try simp only [Act.put, List.setIfInBounds_toArray, List.set_cons_zero, List.set_cons_succ]
                    refine oneJ 1 (by kernel_rfl) rfl (fun K hK => ?_)
                    go_simp
                    refine ⟨rfl, ?_⟩
                    refine (callsIn_wide.2 (of12 _ (HE.out.2.1.1.below HX.out (Nat.le_refl _)))).mono ?_
                    rintro e v1_1 ⟨rfl, hv⟩
                    refine hK.out _ _ (holdJ ?_ (fun hCells => ?_))
                    · clear hK; (try dsimp only); exact ⟨pc hv hCells.1, pc hv hCells.2⟩
                    clear hK K
                    have HX := Lib.hid (HX.out.trans (hv.mono HX.out.size))
                    have gb := gb.pass hv
                    clear hv
                    try simp only [Act.put, List.setIfInBounds_toArray, List.set_cons_zero, List.set_cons_succ]
                    refine oneJ 2 (by kernel_rfl) rfl (fun K hK => ?_)
                    go_simp
                    refine ⟨rfl, ?_⟩
                    refine (callsIn_wide.2 ((mul_q bo (mkRat 1 2) HMU.out.1 half_ok.1 HMU.out.2 (HE.out.2.1.1.below HX.out (Nat.le_refl _))).mono (fun _ _ h => got_r HMU.out.2 h))).mono ?_
                    rintro e v2_2 ⟨hf, ⟨rfl, hr0, ok0⟩, hv⟩
                    have HRR := Lib.hid (And.intro hr0 ok0)
                    clear hr0 ok0
                    refine hK.out _ _ (holdJ ?_ (fun hCells => ?_))
                    · clear hK; (try dsimp only); exact ⟨pc hv hCells.1, pc hv hCells.2⟩
                    clear hK K
                    have HX := Lib.hid (HX.out.trans (hv.mono HX.out.size))
                    have gb := gb.pass hv
                    clear hv
                    try simp only [Act.put, List.setIfInBounds_toArray, List.set_cons_zero, List.set_cons_succ]
                    refine takeB hfnR (by kernel_rfl) 3 (v := ?_) rfl (by kernel_rfl) (fun _ _ _ h => h) (by kernel_rfl) hCells (Or.inl ⟨by rfl, ?_⟩) ?_
                    rotate_left 1
                    · intro w hSw; (try dsimp only at hSw); go_simp; (try with_reducible rfl)
                    try simp only [Act.put, List.setIfInBounds_toArray, List.set_cons_zero, List.set_cons_succ]
                    refine takeB hfnR (by kernel_rfl) 4 (v := ?_) rfl (by kernel_rfl) (fun _ _ _ h => h) (by kernel_rfl) hCells (Or.inl ⟨by rfl, ?_⟩) ?_
                    rotate_left 1
                    · intro w hSw; (try dsimp only at hSw); go_simp; (try with_reducible rfl)
                    try simp only [Act.put, List.setIfInBounds_toArray, List.set_cons_zero, List.set_cons_succ]
                    refine takeB hfnR (by kernel_rfl) 5 (v := ?_) rfl (by kernel_rfl) (fun _ _ _ h => h) (by kernel_rfl) hCells (Or.inl ⟨by rfl, ?_⟩) ?_
                    rotate_left 1
                    · intro w hSw; (try dsimp only at hSw); go_simp; (try with_reducible rfl)
                    try simp only [Act.put, List.setIfInBounds_toArray, List.set_cons_zero, List.set_cons_succ]
                    obtain ⟨⟨r0, r1⟩, f0, f1⟩ := gb.two
                    refine oneJ 7 (by kernel_rfl) rfl (fun K hK => ?_)
                    go_simp
                    refine hK.out _ _ (holdJ ?_ (fun hCells => ?_))
                    · clear hK; (try dsimp only); exact ⟨far2 hCells.1 (by omega), far2 hCells.2 (by omega)⟩
                    clear hK K r0 r1 f0 f1
                    try simp only [Act.put, List.setIfInBounds_toArray, List.set_cons_zero, List.set_cons_succ]
                    refine takeB hfnR (by kernel_rfl) 8 (v := ?_) rfl (by kernel_rfl) (fun _ _ _ h => h) (by kernel_rfl) hCells (Or.inl ⟨by rfl, ?_⟩) ?_
                    rotate_left 1
                    · intro w hSw; (try dsimp only at hSw); go_simp; (try with_reducible rfl)
                    try simp only [Act.put, List.setIfInBounds_toArray, List.set_cons_zero, List.set_cons_succ]
                    refine wpAnyJ_done (by kernel_rfl) (NoPan.normal ?_) _
                    refine ⟨rfl, bs, hf, ?_, HRR.out, (gb.set 0 _).set 1 _, by rw [hn0]; exact (HX.out.setCell (p := ⟨bs, 0, none⟩) hge _).setCell (p := ⟨bs, 1, none⟩) hge _, by rw [hn0]; exact hge⟩
                    simp only [Act.put, List.setIfInBounds_toArray, List.set_cons_zero, List.set_cons_succ]
                · rintro a2 W14 ⟨b14, hf, rfl, hfact, gh, hX, hge⟩
                  have HHF := Lib.hid hfact
                  rw [hn0] at hX
                  have ga := ga.below hX ga.lt
                  have gc := gc.below hX gc.lt
                  have gx := gx.below hX gx.lt
                  have gy := gy.below hX gy.lt
                  have gs := gs.below hX gs.lt
                  have gm := gm.below hX gm.lt
                  have gz := gz.below hX gz.lt
                  have gb2 := gb2.below hX gb2.lt
                  have HB := Lib.hid (HB.out.trans (hX.mono HB.out.size))
                  have HE := Lib.hid (HE.out.pass hX)
                  clear HX hX hge hsrc hfact hn0
                  simp only [Act.put, List.setIfInBounds_toArray, List.set_cons_zero, List.set_cons_succ]
                  have HCM := Lib.hid (show x ≤ y ∧ y ≤ mkRat 1 1 ∧ hf ≤ z by
                    refine ⟨chance_mono PK.out.cv HXX.out.1 HYY.out.1 HLE.out, by rw [one_eq']; exact chance_top PK.out.cv HYY.out.1, ?_⟩
                    rw [HHF.out.1, HBB.out.1]
                    exact chance_mid PK.out.cv HXX.out.1 HYY.out.1 (by rw [← HS.out.1, ← HMM.out.1]; exact HZZ.out.1))
                  have HK := Lib.hid ((Kept.of (Nat.le_refl _) HB.out.size HB.out).drew)
                  have HX := Lib.hid ((Below.refl W14.heap.size W14).drew)
                  obtain ⟨i0, hi0⟩ : ∃ i, i = w8.heap.size := ⟨_, rfl⟩
                  obtain ⟨i1, hi1⟩ : ∃ i, i = w9.heap.size := ⟨_, rfl⟩
                  obtain ⟨i2, hi2⟩ : ∃ i, i = b14 := ⟨_, rfl⟩
                  obtain ⟨i3, hi3⟩ : ∃ i, i = w12.heap.size := ⟨_, rfl⟩
                  have gq0 := gx; have gq1 := gy; have gq2 := gh; have gq3 := gz
                  rw [← hi0] at gq0
                  rw [← hi1] at gq1
                  rw [← hi2] at gq2
                  rw [← hi3] at gq3
                  go_wp2_with fail
                  refine wp_region_J (fun W => (W.cell? ⟨w8.heap.size, 0, none⟩ = some (.string (qN x)) ∧ W.cell? ⟨w8.heap.size, 1, none⟩ = some (.string (qD x))) ∧ (W.cell? ⟨w9.heap.size, 0, none⟩ = some (.string (qN y)) ∧ W.cell? ⟨w9.heap.size, 1, none⟩ = some (.string (qD y))) ∧ (W.cell? ⟨b14, 0, none⟩ = some (.string (qN hf)) ∧ W.cell? ⟨b14, 1, none⟩ = some (.string (qD hf))) ∧ (W.cell? ⟨w12.heap.size, 0, none⟩ = some (.string (qN z)) ∧ W.cell? ⟨w12.heap.size, 1, none⟩ = some (.string (qD z)))) [] hm ?hCells0 (fun hCells => ?_)
                  case hCells0 => exact ⟨gx.two.1, gy.two.1, gh.two.1, gz.two.1⟩
                  clear hi0 hi1 hi2 hi3 gq0 gq1 gq2 gq3
                  generalize W14.drew = W0 at HK HX hCells ⊢
                  refine takeB hfnR (by kernel_rfl) 0 (v := ?_) rfl (by kernel_rfl) (fun _ _ _ h => h) (by kernel_rfl) hCells (Or.inl ⟨by rfl, ?_⟩) ?_
                  rotate_left 1
                  · intro w hSw; (try dsimp only at hSw); go_simp; (try with_reducible rfl)
                  try simp only [Act.put, List.setIfInBounds_toArray, List.set_cons_zero, List.set_cons_succ]
                  refine takeB hfnR (by kernel_rfl) 1 (v := ?_) rfl (by kernel_rfl) (fun _ _ _ h => h) (by kernel_rfl) hCells (Or.inl ⟨by rfl, ?_⟩) ?_
                  rotate_left 1
                  · intro w hSw; (try dsimp only at hSw); go_simp; (try with_reducible rfl)
                  try simp only [Act.put, List.setIfInBounds_toArray, List.set_cons_zero, List.set_cons_succ]
                  refine takeB hfnR (by kernel_rfl) 2 (v := ?_) rfl (by kernel_rfl) (fun _ _ _ h => h) (by kernel_rfl) hCells (Or.inl ⟨by rfl, ?_⟩) ?_
                  rotate_left 1
                  · intro w hSw; (try dsimp only at hSw); go_simp; (try with_reducible rfl)
                  try simp only [Act.put, List.setIfInBounds_toArray, List.set_cons_zero, List.set_cons_succ]
                  refine takeB hfnR (by kernel_rfl) 3 (v := ?_) rfl (by kernel_rfl) (fun _ _ _ h => h) (by kernel_rfl) hCells (Or.inl ⟨by rfl, ?_⟩) ?_
                  rotate_left 1
                  · intro w hSw; (try dsimp only at hSw); go_simp; (try with_reducible rfl)
                  try simp only [Act.put, List.setIfInBounds_toArray, List.set_cons_zero, List.set_cons_succ]
                  refine takeB hfnR (by kernel_rfl) 4 (v := ?_) rfl (by kernel_rfl) (fun _ _ _ h => h) (by kernel_rfl) hCells (Or.inl ⟨by rfl, ?_⟩) ?_
                  rotate_left 1
                  · intro w hSw; (try dsimp only at hSw); go_simp; (try with_reducible rfl)
                  try simp only [Act.put, List.setIfInBounds_toArray, List.set_cons_zero, List.set_cons_succ]
                  refine takeB hfnR (by kernel_rfl) 5 (v := ?_) rfl (by kernel_rfl) (fun _ _ _ h => h) (by kernel_rfl) hCells (Or.inl ⟨by rfl, ?_⟩) ?_
                  rotate_left 1
                  · intro w hSw; (try dsimp only at hSw); go_simp; (try with_reducible rfl)
                  try simp only [Act.put, List.setIfInBounds_toArray, List.set_cons_zero, List.set_cons_succ]
                  refine takeB hfnR (by kernel_rfl) 6 (v := ?_) rfl (by kernel_rfl) (fun _ _ _ h => h) (by kernel_rfl) hCells (Or.inl ⟨by rfl, ?_⟩) ?_
                  rotate_left 1
                  · intro w hSw; (try dsimp only at hSw); go_simp; (try with_reducible rfl)
                  try simp only [Act.put, List.setIfInBounds_toArray, List.set_cons_zero, List.set_cons_succ]
                  refine takeB hfnR (by kernel_rfl) 7 (v := ?_) rfl (by kernel_rfl) (fun _ _ _ h => h) (by kernel_rfl) hCells (Or.inl ⟨by rfl, ?_⟩) ?_
                  rotate_left 1
                  · intro w hSw; (try dsimp only at hSw); go_simp; (try with_reducible rfl)
                  try simp only [Act.put, List.setIfInBounds_toArray, List.set_cons_zero, List.set_cons_succ]
                  refine takeB hfnR (by kernel_rfl) 8 (v := ?_) rfl (by kernel_rfl) (fun _ _ _ h => h) (by kernel_rfl) hCells (Or.inl ⟨by rfl, ?_⟩) ?_
                  rotate_left 1
                  · intro w hSw; (try dsimp only at hSw); go_simp; (try with_reducible rfl)
                  try simp only [Act.put, List.setIfInBounds_toArray, List.set_cons_zero, List.set_cons_succ]
                  refine takeB hfnR (by kernel_rfl) 9 (v := ?_) rfl (by kernel_rfl) (fun _ _ _ h => h) (by kernel_rfl) hCells (Or.inl ⟨by rfl, ?_⟩) ?_
                  rotate_left 1
                  · intro w hSw; (try dsimp only at hSw); go_simp; (try with_reducible rfl)
                  try simp only [Act.put, List.setIfInBounds_toArray, List.set_cons_zero, List.set_cons_succ]
                  refine takeB hfnR (by kernel_rfl) 10 (v := ?_) rfl (by kernel_rfl) (fun _ _ _ h => h) (by kernel_rfl) hCells (Or.inl ⟨by rfl, ?_⟩) ?_
                  rotate_left 1
                  · intro w hSw; (try dsimp only at hSw); go_simp; (try with_reducible rfl)
                  try simp only [Act.put, List.setIfInBounds_toArray, List.set_cons_zero, List.set_cons_succ]
                  refine takeB hfnR (by kernel_rfl) 11 (v := ?_) rfl (by kernel_rfl) (fun _ _ _ h => h) (by kernel_rfl) hCells (Or.inl ⟨by rfl, ?_⟩) ?_
                  rotate_left 1
                  · intro w hSw; (try dsimp only at hSw); go_simp; (try with_reducible rfl)
                  try simp only [Act.put, List.setIfInBounds_toArray, List.set_cons_zero, List.set_cons_succ]
                  refine takeB hfnR (by kernel_rfl) 12 (v := ?_) rfl (by kernel_rfl) (fun _ _ _ h => h) (by kernel_rfl) hCells (Or.inl ⟨by rfl, ?_⟩) ?_
                  rotate_left 1
                  · intro w hSw; (try dsimp only at hSw); go_simp; (try with_reducible rfl)
                  try simp only [Act.put, List.setIfInBounds_toArray, List.set_cons_zero, List.set_cons_succ]
                  refine takeB hfnR (by kernel_rfl) 13 (v := ?_) rfl (by kernel_rfl) (fun _ _ _ h => h) (by kernel_rfl) hCells (Or.inl ⟨by rfl, ?_⟩) ?_
                  rotate_left 1
                  · intro w hSw; (try dsimp only at hSw); go_simp; (try with_reducible rfl)
                  try simp only [Act.put, List.setIfInBounds_toArray, List.set_cons_zero, List.set_cons_succ]
                  refine takeB hfnR (by kernel_rfl) 14 (v := ?_) rfl (by kernel_rfl) (fun _ _ _ h => h) (by kernel_rfl) hCells (Or.inl ⟨by rfl, ?_⟩) ?_
                  rotate_left 1
                  · intro w hSw; (try dsimp only at hSw); go_simp; (try with_reducible rfl)
                  try simp only [Act.put, List.setIfInBounds_toArray, List.set_cons_zero, List.set_cons_succ]
                  refine takeB hfnR (by kernel_rfl) 15 (v := ?_) rfl (by kernel_rfl) (fun _ _ _ h => h) (by kernel_rfl) hCells (Or.inl ⟨by rfl, ?_⟩) ?_
                  rotate_left 1
                  · intro w hSw; (try dsimp only at hSw); go_simp; (try with_reducible rfl)
                  try simp only [Act.put, List.setIfInBounds_toArray, List.set_cons_zero, List.set_cons_succ]
                  refine takeB hfnR (by kernel_rfl) 16 (v := ?_) rfl (by kernel_rfl) (fun _ _ _ h => h) (by kernel_rfl) hCells (Or.inl ⟨by rfl, ?_⟩) ?_
                  rotate_left 1
                  · intro w hSw; (try dsimp only at hSw); go_simp; (try with_reducible rfl)
                  try simp only [Act.put, List.setIfInBounds_toArray, List.set_cons_zero, List.set_cons_succ]
                  refine takeB hfnR (by kernel_rfl) 17 (v := ?_) rfl (by kernel_rfl) (fun _ _ _ h => h) (by kernel_rfl) hCells (Or.inl ⟨by rfl, ?_⟩) ?_
                  rotate_left 1
                  · intro w hSw; (try dsimp only at hSw); go_simp; (try with_reducible rfl)
                  try simp only [Act.put, List.setIfInBounds_toArray, List.set_cons_zero, List.set_cons_succ]
                  refine takeB hfnR (by kernel_rfl) 18 (v := ?_) rfl (by kernel_rfl) (fun _ _ _ h => h) (by kernel_rfl) hCells (Or.inl ⟨by rfl, ?_⟩) ?_
                  rotate_left 1
                  · intro w hSw; (try dsimp only at hSw); go_simp; (try with_reducible rfl)
                  try simp only [Act.put, List.setIfInBounds_toArray, List.set_cons_zero, List.set_cons_succ]
                  refine takeB hfnR (by kernel_rfl) 19 (v := ?_) rfl (by kernel_rfl) (fun _ _ _ h => h) (by kernel_rfl) hCells (Or.inl ⟨by rfl, ?_⟩) ?_
                  rotate_left 1
                  · intro w hSw; (try dsimp only at hSw); go_simp; (try with_reducible rfl)
                  try simp only [Act.put, List.setIfInBounds_toArray, List.set_cons_zero, List.set_cons_succ]
                  refine takeB hfnR (by kernel_rfl) 20 (v := ?_) rfl (by kernel_rfl) (fun _ _ _ h => h) (by kernel_rfl) hCells (Or.inl ⟨by rfl, ?_⟩) ?_
                  rotate_left 1
                  · intro w hSw; (try dsimp only at hSw); go_simp; (try with_reducible rfl)
                  try simp only [Act.put, List.setIfInBounds_toArray, List.set_cons_zero, List.set_cons_succ]
                  refine takeB hfnR (by kernel_rfl) 21 (v := ?_) rfl (by kernel_rfl) (fun _ _ _ h => h) (by kernel_rfl) hCells (Or.inl ⟨by rfl, ?_⟩) ?_
                  rotate_left 1
                  · intro w hSw; (try dsimp only at hSw); go_simp; (try with_reducible rfl)
                  try simp only [Act.put, List.setIfInBounds_toArray, List.set_cons_zero, List.set_cons_succ]
                  refine takeB hfnR (by kernel_rfl) 22 (v := ?_) rfl (by kernel_rfl) (fun _ _ _ h => h) (by kernel_rfl) hCells (Or.inl ⟨by rfl, ?_⟩) ?_
                  rotate_left 1
                  · intro w hSw; (try dsimp only at hSw); go_simp; (try with_reducible rfl)
                  try simp only [Act.put, List.setIfInBounds_toArray, List.set_cons_zero, List.set_cons_succ]
                  refine takeB hfnR (by kernel_rfl) 23 (v := ?_) rfl (by kernel_rfl) (fun _ _ _ h => h) (by kernel_rfl) hCells (Or.inl ⟨by rfl, ?_⟩) ?_
                  rotate_left 1
                  · intro w hSw; (try dsimp only at hSw); go_simp; (try with_reducible rfl)
                  try simp only [Act.put, List.setIfInBounds_toArray, List.set_cons_zero, List.set_cons_succ]
                  refine takeB hfnR (by kernel_rfl) 24 (v := ?_) rfl (by kernel_rfl) (fun _ _ _ h => h) (by kernel_rfl) hCells (Or.inl ⟨by rfl, ?_⟩) ?_
                  rotate_left 1
                  · intro w hSw; (try dsimp only at hSw); go_simp; (try with_reducible rfl)
                  try simp only [Act.put, List.setIfInBounds_toArray, List.set_cons_zero, List.set_cons_succ]
                  refine takeB hfnR (by kernel_rfl) 25 (v := ?_) rfl (by kernel_rfl) (fun _ _ _ h => h) (by kernel_rfl) hCells (Or.inl ⟨by rfl, ?_⟩) ?_
                  rotate_left 1
                  · intro w hSw; (try dsimp only at hSw); go_simp; (try with_reducible rfl)
                  try simp only [Act.put, List.setIfInBounds_toArray, List.set_cons_zero, List.set_cons_succ]
                  refine takeB hfnR (by kernel_rfl) 26 (v := ?_) rfl (by kernel_rfl) (fun _ _ _ h => h) (by kernel_rfl) hCells (Or.inl ⟨by rfl, ?_⟩) ?_
                  rotate_left 1
                  · intro w hSw; (try dsimp only at hSw); go_simp; (try with_reducible rfl)
                  try simp only [Act.put, List.setIfInBounds_toArray, List.set_cons_zero, List.set_cons_succ]
                  refine takeB hfnR (by kernel_rfl) 27 (v := ?_) rfl (by kernel_rfl) (fun _ _ _ h => h) (by kernel_rfl) hCells (Or.inl ⟨by rfl, ?_⟩) ?_
                  rotate_left 1
                  · intro w hSw; (try dsimp only at hSw); go_simp; (try with_reducible rfl)
                  try simp only [Act.put, List.setIfInBounds_toArray, List.set_cons_zero, List.set_cons_succ]
                  refine takeB hfnR (by kernel_rfl) 28 (v := ?_) rfl (by kernel_rfl) (fun _ _ _ h => h) (by kernel_rfl) hCells (Or.inl ⟨by rfl, ?_⟩) ?_
                  rotate_left 1
                  · intro w hSw; (try dsimp only at hSw); go_simp; (try with_reducible rfl)
                  try simp only [Act.put, List.setIfInBounds_toArray, List.set_cons_zero, List.set_cons_succ]
                  have hle0 : ¬ 0 < cmpQ x y := Int.not_lt.2 (cmp_notgt HCM.out.1)
                  refine oneJ 29 (by kernel_rfl) rfl (fun K hK => ?_)
                  go_simp
                  refine ⟨rfl, ?_⟩
                  (refine (callsIn_wide.2 (cmp_q x y HXX.out.2 HYY.out.2 _)).mono ?_; rintro e u0 ⟨rfl, hv⟩)
                  refine hK.out _ _ (holdJ ?_ (fun hCells => ?_))
                  · clear hK; (try dsimp only); (exact ⟨⟨pc hv hCells.1.1, pc hv hCells.1.2⟩, ⟨pc hv hCells.2.1.1, pc hv hCells.2.1.2⟩, ⟨pc hv hCells.2.2.1.1, pc hv hCells.2.2.1.2⟩, pc hv hCells.2.2.2.1, pc hv hCells.2.2.2.2⟩)
                  clear hK K
                  try simp only [Act.put, List.setIfInBounds_toArray, List.set_cons_zero, List.set_cons_succ]
                  have HX := Lib.hid (HX.out.trans (hv.mono HX.out.size))
                  clear hv
                  generalize cmpQ x y = cv0 at hle0 ⊢
                  refine takeB hfnR (by kernel_rfl) 30 (v := ?_) rfl (by kernel_rfl) (fun _ _ _ h => h) (by kernel_rfl) hCells (Or.inl ⟨by rfl, ?_⟩) ?_
                  rotate_left 1
                  · intro w hSw; (try dsimp only at hSw); go_simp; (try with_reducible rfl)
                  try simp only [Act.put, List.setIfInBounds_toArray, List.set_cons_zero, List.set_cons_succ]
                  refine takeB hfnR (by kernel_rfl) 31 (v := ?_) rfl (by kernel_rfl) (fun _ _ _ h => h) (by kernel_rfl) hCells (Or.inl ⟨by rfl, ?_⟩) ?_
                  rotate_left 1
                  · intro w hSw; (try dsimp only at hSw); go_simp; (try with_reducible rfl)
                  try simp only [Act.put, List.setIfInBounds_toArray, List.set_cons_zero, List.set_cons_succ]
                  refine takeB hfnR (by kernel_rfl) 32 (v := ?_) rfl (by kernel_rfl) (fun _ _ _ h => h) (by kernel_rfl) hCells (Or.inl ⟨by rfl, ?_⟩) ?_
                  rotate_left 1
                  · intro w hSw; (try dsimp only at hSw); go_simp; (try with_reducible rfl)
                  try simp only [Act.put, List.setIfInBounds_toArray, List.set_cons_zero, List.set_cons_succ]
                  refine takeB hfnR (by kernel_rfl) 33 (v := ?_) rfl (by kernel_rfl) (fun _ _ _ h => h) (by kernel_rfl) hCells (Or.inl ⟨by rfl, ?_⟩) ?_
                  rotate_left 1
                  · intro w hSw; (try dsimp only at hSw); go_simp; (try with_reducible rfl)
                  try simp only [Act.put, List.setIfInBounds_toArray, List.set_cons_zero, List.set_cons_succ]
                  clear hle0
                  refine oneJ 34 (by kernel_rfl) rfl (fun K hK => ?_)
                  go_simp
                  refine ⟨rfl, ?_⟩
                  (refine (callsIn_wide.2 (of11 _ (HE.out.2.1.1.below HX.out (Nat.le_refl _)))).mono ?_; rintro e u1 ⟨rfl, hv⟩)
                  refine hK.out _ _ (holdJ ?_ (fun hCells => ?_))
                  · clear hK; (try dsimp only); (exact ⟨⟨pc hv hCells.1.1, pc hv hCells.1.2⟩, ⟨pc hv hCells.2.1.1, pc hv hCells.2.1.2⟩, ⟨pc hv hCells.2.2.1.1, pc hv hCells.2.2.1.2⟩, pc hv hCells.2.2.2.1, pc hv hCells.2.2.2.2⟩)
                  clear hK K
                  try simp only [Act.put, List.setIfInBounds_toArray, List.set_cons_zero, List.set_cons_succ]
                  have HX := Lib.hid (HX.out.trans (hv.mono HX.out.size))
                  clear hv
                  have hle1 : ¬ 0 < cmpQ y (mkRat 1 1) := Int.not_lt.2 (cmp_notgt HCM.out.2.1)
                  refine oneJ 35 (by kernel_rfl) rfl (fun K hK => ?_)
                  go_simp
                  refine ⟨rfl, ?_⟩
                  (refine (callsIn_wide.2 (cmp_q y (mkRat 1 1) HYY.out.2 one_ok' _)).mono ?_; rintro e u2 ⟨rfl, hv⟩)
                  refine hK.out _ _ (holdJ ?_ (fun hCells => ?_))
                  · clear hK; (try dsimp only); (exact ⟨⟨pc hv hCells.1.1, pc hv hCells.1.2⟩, ⟨pc hv hCells.2.1.1, pc hv hCells.2.1.2⟩, ⟨pc hv hCells.2.2.1.1, pc hv hCells.2.2.1.2⟩, pc hv hCells.2.2.2.1, pc hv hCells.2.2.2.2⟩)
                  clear hK K
                  try simp only [Act.put, List.setIfInBounds_toArray, List.set_cons_zero, List.set_cons_succ]
                  have HX := Lib.hid (HX.out.trans (hv.mono HX.out.size))
                  clear hv
                  generalize cmpQ y (mkRat 1 1) = cv1 at hle1 ⊢
                  refine takeB hfnR (by kernel_rfl) 36 (v := ?_) rfl (by kernel_rfl) (fun _ _ _ h => h) (by kernel_rfl) hCells (Or.inl ⟨by rfl, ?_⟩) ?_
                  rotate_left 1
                  · intro w hSw; (try dsimp only at hSw); go_simp; (try with_reducible rfl)
                  try simp only [Act.put, List.setIfInBounds_toArray, List.set_cons_zero, List.set_cons_succ]
                  refine takeB hfnR (by kernel_rfl) 37 (v := ?_) rfl (by kernel_rfl) (fun _ _ _ h => h) (by kernel_rfl) hCells (Or.inl ⟨by rfl, ?_⟩) ?_
                  rotate_left 1
                  · intro w hSw; (try dsimp only at hSw); go_simp; (try with_reducible rfl)
                  try simp only [Act.put, List.setIfInBounds_toArray, List.set_cons_zero, List.set_cons_succ]
                  refine takeB hfnR (by kernel_rfl) 38 (v := ?_) rfl (by kernel_rfl) (fun _ _ _ h => h) (by kernel_rfl) hCells (Or.inl ⟨by rfl, ?_⟩) ?_
                  rotate_left 1
                  · intro w hSw; (try dsimp only at hSw); go_simp; (try with_reducible rfl)
                  try simp only [Act.put, List.setIfInBounds_toArray, List.set_cons_zero, List.set_cons_succ]
                  refine takeB hfnR (by kernel_rfl) 39 (v := ?_) rfl (by kernel_rfl) (fun _ _ _ h => h) (by kernel_rfl) hCells (Or.inl ⟨by rfl, ?_⟩) ?_
                  rotate_left 1
                  · intro w hSw; (try dsimp only at hSw); go_simp; (try with_reducible rfl)
                  try simp only [Act.put, List.setIfInBounds_toArray, List.set_cons_zero, List.set_cons_succ]
                  refine takeB hfnR (by kernel_rfl) 40 (v := ?_) rfl (by kernel_rfl) (fun _ _ _ h => h) (by kernel_rfl) hCells (Or.inl ⟨by rfl, ?_⟩) ?_
                  rotate_left 1
                  · intro w hSw; (try dsimp only at hSw); go_simp; (try with_reducible rfl)
                  try simp only [Act.put, List.setIfInBounds_toArray, List.set_cons_zero, List.set_cons_succ]
                  clear hle1
                  have hle2 : ¬ 0 < cmpQ hf z := Int.not_lt.2 (cmp_notgt HCM.out.2.2)
                  refine oneJ 41 (by kernel_rfl) rfl (fun K hK => ?_)
                  go_simp
                  refine ⟨rfl, ?_⟩
                  (refine (callsIn_wide.2 (cmp_q hf z HHF.out.2 HZZ.out.2 _)).mono ?_; rintro e u3 ⟨rfl, hv⟩)
                  refine hK.out _ _ (holdJ ?_ (fun hCells => ?_))
                  · clear hK; (try dsimp only); (exact ⟨⟨pc hv hCells.1.1, pc hv hCells.1.2⟩, ⟨pc hv hCells.2.1.1, pc hv hCells.2.1.2⟩, ⟨pc hv hCells.2.2.1.1, pc hv hCells.2.2.1.2⟩, pc hv hCells.2.2.2.1, pc hv hCells.2.2.2.2⟩)
                  clear hK K
                  try simp only [Act.put, List.setIfInBounds_toArray, List.set_cons_zero, List.set_cons_succ]
                  have HX := Lib.hid (HX.out.trans (hv.mono HX.out.size))
                  clear hv
                  generalize cmpQ hf z = cv2 at hle2 ⊢
                  refine takeB hfnR (by kernel_rfl) 42 (v := ?_) rfl (by kernel_rfl) (fun _ _ _ h => h) (by kernel_rfl) hCells (Or.inl ⟨by rfl, ?_⟩) ?_
                  rotate_left 1
                  · intro w hSw; (try dsimp only at hSw); go_simp; (try with_reducible rfl)
                  try simp only [Act.put, List.setIfInBounds_toArray, List.set_cons_zero, List.set_cons_succ]
                  refine takeB hfnR (by kernel_rfl) 43 (v := ?_) rfl (by kernel_rfl) (fun _ _ _ h => h) (by kernel_rfl) hCells (Or.inl ⟨by rfl, ?_⟩) ?_
                  rotate_left 1
                  · intro w hSw; (try dsimp only at hSw); go_simp; (try with_reducible rfl)
                  try simp only [Act.put, List.setIfInBounds_toArray, List.set_cons_zero, List.set_cons_succ]
                  clear hle2
                  refine wpAnyJ_done (by kernel_rfl) (NoPan.normal ?_) _
                  clear hCells
                  have ga := ga.below HX.out ga.lt
                  have gc := gc.below HX.out gc.lt
                  have gx := gx.below HX.out gx.lt
                  have gy := gy.below HX.out gy.lt
                  have gs := gs.below HX.out gs.lt
                  have gm := gm.below HX.out gm.lt
                  have gz := gz.below HX.out gz.lt
                  have gb2 := gb2.below HX.out gb2.lt
                  have gh := gh.below HX.out gh.lt
                  have HB := Lib.hid (HB.out.trans (HX.out.mono HB.out.size))
                  have HE := Lib.hid (HE.out.pass HX.out)
                  obtain ⟨⟨c0_0, c0_1⟩, _, _⟩ := ga.two
                  go_wp2_with fail
                  refine (TL.out _ HE.out q PK.out.pp.1 (PK.out.pp.2.mono (by decide))).mono ?_
                  rintro e w41 ⟨sa, ⟨rfl, hr0, ok0⟩, hb41⟩
                  have HSA := Lib.hid (And.intro hr0 ok0)
                  clear c0_0 c0_1
                  have HB := Lib.hid (HB.out.trans (hb41.mono HB.out.size))
                  have HE := Lib.hid (HE.out.pass hb41)
                  have ga := ga.pass hb41
                  have gc := gc.pass hb41
                  have gx := gx.pass hb41
                  have gy := gy.pass hb41
                  have gs := gs.pass hb41
                  have gm := gm.pass hb41
                  have gz := gz.pass hb41
                  have gb2 := gb2.pass hb41
                  have gh := gh.pass hb41
                  clear hb41 hr0 ok0
                  have HB := Lib.hid (HB.out.alloc HB.out.size (.cells #[.string (qN sa), .string (qD sa)] 46))
                  have HE := Lib.hid (HE.out.alloc (.cells #[.string (qN sa), .string (qD sa)] 46))
                  have ga := ga.alloc (.cells #[.string (qN sa), .string (qD sa)] 46)
                  have gc := gc.alloc (.cells #[.string (qN sa), .string (qD sa)] 46)
                  have gx := gx.alloc (.cells #[.string (qN sa), .string (qD sa)] 46)
                  have gy := gy.alloc (.cells #[.string (qN sa), .string (qD sa)] 46)
                  have gs := gs.alloc (.cells #[.string (qN sa), .string (qD sa)] 46)
                  have gm := gm.alloc (.cells #[.string (qN sa), .string (qD sa)] 46)
                  have gz := gz.alloc (.cells #[.string (qN sa), .string (qD sa)] 46)
                  have gb2 := gb2.alloc (.cells #[.string (qN sa), .string (qD sa)] 46)
                  have gh := gh.alloc (.cells #[.string (qN sa), .string (qD sa)] 46)
                  have gsa := Blk.new w41 #[.string (qN sa), .string (qD sa)] 46
                  obtain ⟨⟨c0_0, c0_1⟩, _, _⟩ := gc.two
                  go_wp2_with fail
                  refine (TL.out _ HE.out p PK.out.qq.1 (PK.out.qq.2.mono (by decide))).mono ?_
                  rintro e w42 ⟨ta, ⟨rfl, hr0, ok0⟩, hb42⟩
                  have HTA := Lib.hid (And.intro hr0 ok0)
                  clear c0_0 c0_1
                  have HB := Lib.hid (HB.out.trans (hb42.mono HB.out.size))
                  have HE := Lib.hid (HE.out.pass hb42)
                  have ga := ga.pass hb42
                  have gc := gc.pass hb42
                  have gx := gx.pass hb42
                  have gy := gy.pass hb42
                  have gs := gs.pass hb42
                  have gm := gm.pass hb42
                  have gz := gz.pass hb42
                  have gb2 := gb2.pass hb42
                  have gh := gh.pass hb42
                  have gsa := gsa.pass hb42
                  clear hb42 hr0 ok0
                  have HB := Lib.hid (HB.out.alloc HB.out.size (.cells #[.string (qN ta), .string (qD ta)] 46))
                  have HE := Lib.hid (HE.out.alloc (.cells #[.string (qN ta), .string (qD ta)] 46))
                  have ga := ga.alloc (.cells #[.string (qN ta), .string (qD ta)] 46)
                  have gc := gc.alloc (.cells #[.string (qN ta), .string (qD ta)] 46)
                  have gx := gx.alloc (.cells #[.string (qN ta), .string (qD ta)] 46)
                  have gy := gy.alloc (.cells #[.string (qN ta), .string (qD ta)] 46)
                  have gs := gs.alloc (.cells #[.string (qN ta), .string (qD ta)] 46)
                  have gm := gm.alloc (.cells #[.string (qN ta), .string (qD ta)] 46)
                  have gz := gz.alloc (.cells #[.string (qN ta), .string (qD ta)] 46)
                  have gb2 := gb2.alloc (.cells #[.string (qN ta), .string (qD ta)] 46)
                  have gh := gh.alloc (.cells #[.string (qN ta), .string (qD ta)] 46)
                  have gsa := gsa.alloc (.cells #[.string (qN ta), .string (qD ta)] 46)
                  have gta := Blk.new w42 #[.string (qN ta), .string (qD ta)] 46
                  obtain ⟨⟨c0_0, c0_1⟩, _, _⟩ := ga.two
                  obtain ⟨⟨c1_0, c1_1⟩, _, _⟩ := gc.two
                  go_wp2_with fail
                  have HWO := Lib.hid (PK.out.way HLE.out)
                  refine ((sub_q p q PK.out.qq.1 PK.out.pp.1 HWO.out.1 HE.out.2.1.1).mono (fun _ _ h => got_r HWO.out.1 h)).mono ?_
                  rintro e w43 ⟨wy, ⟨rfl, hr0, ok0⟩, hb43⟩
                  have HWY := Lib.hid (And.intro hr0 ok0)
                  clear c0_0 c0_1 c1_0 c1_1
                  have HB := Lib.hid (HB.out.trans (hb43.mono HB.out.size))
                  have HE := Lib.hid (HE.out.pass hb43)
                  have ga := ga.pass hb43
                  have gc := gc.pass hb43
                  have gx := gx.pass hb43
                  have gy := gy.pass hb43
                  have gs := gs.pass hb43
                  have gm := gm.pass hb43
                  have gz := gz.pass hb43
                  have gb2 := gb2.pass hb43
                  have gh := gh.pass hb43
                  have gsa := gsa.pass hb43
                  have gta := gta.pass hb43
                  clear hb43 hr0 ok0
                  have HB := Lib.hid (HB.out.alloc HB.out.size (.cells #[.string (qN wy), .string (qD wy)] 46))
                  have HE := Lib.hid (HE.out.alloc (.cells #[.string (qN wy), .string (qD wy)] 46))
                  have ga := ga.alloc (.cells #[.string (qN wy), .string (qD wy)] 46)
                  have gc := gc.alloc (.cells #[.string (qN wy), .string (qD wy)] 46)
                  have gx := gx.alloc (.cells #[.string (qN wy), .string (qD wy)] 46)
                  have gy := gy.alloc (.cells #[.string (qN wy), .string (qD wy)] 46)
                  have gs := gs.alloc (.cells #[.string (qN wy), .string (qD wy)] 46)
                  have gm := gm.alloc (.cells #[.string (qN wy), .string (qD wy)] 46)
                  have gz := gz.alloc (.cells #[.string (qN wy), .string (qD wy)] 46)
                  have gb2 := gb2.alloc (.cells #[.string (qN wy), .string (qD wy)] 46)
                  have gh := gh.alloc (.cells #[.string (qN wy), .string (qD wy)] 46)
                  have gsa := gsa.alloc (.cells #[.string (qN wy), .string (qD wy)] 46)
                  have gta := gta.alloc (.cells #[.string (qN wy), .string (qD wy)] 46)
                  have gwy := Blk.new w43 #[.string (qN wy), .string (qD wy)] 46
                  obtain ⟨⟨c0_0, c0_1⟩, _, _⟩ := gx.two
                  obtain ⟨⟨c1_0, c1_1⟩, _, _⟩ := gy.two
                  go_wp2_with fail
                  have HRO := Lib.hid (PK.out.rise HLE.out HXX.out.1 HYY.out.1)
                  refine ((sub_q y x HYY.out.2 HXX.out.2 HRO.out HE.out.2.1.1).mono (fun _ _ h => got_r HRO.out h)).mono ?_
                  rintro e w44 ⟨ri, ⟨rfl, hr0, ok0⟩, hb44⟩
                  have HRI := Lib.hid (And.intro hr0 ok0)
                  clear c0_0 c0_1 c1_0 c1_1
                  have HB := Lib.hid (HB.out.trans (hb44.mono HB.out.size))
                  have HE := Lib.hid (HE.out.pass hb44)
                  have ga := ga.pass hb44
                  have gc := gc.pass hb44
                  have gx := gx.pass hb44
                  have gy := gy.pass hb44
                  have gs := gs.pass hb44
                  have gm := gm.pass hb44
                  have gz := gz.pass hb44
                  have gb2 := gb2.pass hb44
                  have gh := gh.pass hb44
                  have gsa := gsa.pass hb44
                  have gta := gta.pass hb44
                  have gwy := gwy.pass hb44
                  clear hb44 hr0 ok0
                  have HB := Lib.hid (HB.out.alloc HB.out.size (.cells #[.string (qN ri), .string (qD ri)] 46))
                  have HE := Lib.hid (HE.out.alloc (.cells #[.string (qN ri), .string (qD ri)] 46))
                  have ga := ga.alloc (.cells #[.string (qN ri), .string (qD ri)] 46)
                  have gc := gc.alloc (.cells #[.string (qN ri), .string (qD ri)] 46)
                  have gx := gx.alloc (.cells #[.string (qN ri), .string (qD ri)] 46)
                  have gy := gy.alloc (.cells #[.string (qN ri), .string (qD ri)] 46)
                  have gs := gs.alloc (.cells #[.string (qN ri), .string (qD ri)] 46)
                  have gm := gm.alloc (.cells #[.string (qN ri), .string (qD ri)] 46)
                  have gz := gz.alloc (.cells #[.string (qN ri), .string (qD ri)] 46)
                  have gb2 := gb2.alloc (.cells #[.string (qN ri), .string (qD ri)] 46)
                  have gh := gh.alloc (.cells #[.string (qN ri), .string (qD ri)] 46)
                  have gsa := gsa.alloc (.cells #[.string (qN ri), .string (qD ri)] 46)
                  have gta := gta.alloc (.cells #[.string (qN ri), .string (qD ri)] 46)
                  have gwy := gwy.alloc (.cells #[.string (qN ri), .string (qD ri)] 46)
                  have gri := Blk.new w44 #[.string (qN ri), .string (qD ri)] 46
                  obtain ⟨⟨c0_0, c0_1⟩, _, _⟩ := gsa.two
                  obtain ⟨⟨c1_0, c1_1⟩, _, _⟩ := gwy.two
                  go_wp2_with fail
                  have HP1 := Lib.hid (show okQ (sa * wy) by rw [HWY.out.1]; exact PK.out.prod HLE.out HSA.out.1)
                  refine ((mul_q sa wy HSA.out.2 HWY.out.2 HP1.out HE.out.2.1.1).mono (fun _ _ h => got_r HP1.out h)).mono ?_
                  rintro e w45 ⟨mo, ⟨rfl, hr0, ok0⟩, hb45⟩
                  have HMO := Lib.hid (And.intro hr0 ok0)
                  clear c0_0 c0_1 c1_0 c1_1
                  have HB := Lib.hid (HB.out.trans (hb45.mono HB.out.size))
                  have HE := Lib.hid (HE.out.pass hb45)
                  have ga := ga.pass hb45
                  have gc := gc.pass hb45
                  have gx := gx.pass hb45
                  have gy := gy.pass hb45
                  have gs := gs.pass hb45
                  have gm := gm.pass hb45
                  have gz := gz.pass hb45
                  have gb2 := gb2.pass hb45
                  have gh := gh.pass hb45
                  have gsa := gsa.pass hb45
                  have gta := gta.pass hb45
                  have gwy := gwy.pass hb45
                  have gri := gri.pass hb45
                  clear hb45 hr0 ok0
                  have HB := Lib.hid (HB.out.alloc HB.out.size (.cells #[.string (qN mo), .string (qD mo)] 46))
                  have HE := Lib.hid (HE.out.alloc (.cells #[.string (qN mo), .string (qD mo)] 46))
                  have ga := ga.alloc (.cells #[.string (qN mo), .string (qD mo)] 46)
                  have gc := gc.alloc (.cells #[.string (qN mo), .string (qD mo)] 46)
                  have gx := gx.alloc (.cells #[.string (qN mo), .string (qD mo)] 46)
                  have gy := gy.alloc (.cells #[.string (qN mo), .string (qD mo)] 46)
                  have gs := gs.alloc (.cells #[.string (qN mo), .string (qD mo)] 46)
                  have gm := gm.alloc (.cells #[.string (qN mo), .string (qD mo)] 46)
                  have gz := gz.alloc (.cells #[.string (qN mo), .string (qD mo)] 46)
                  have gb2 := gb2.alloc (.cells #[.string (qN mo), .string (qD mo)] 46)
                  have gh := gh.alloc (.cells #[.string (qN mo), .string (qD mo)] 46)
                  have gsa := gsa.alloc (.cells #[.string (qN mo), .string (qD mo)] 46)
                  have gta := gta.alloc (.cells #[.string (qN mo), .string (qD mo)] 46)
                  have gwy := gwy.alloc (.cells #[.string (qN mo), .string (qD mo)] 46)
                  have gri := gri.alloc (.cells #[.string (qN mo), .string (qD mo)] 46)
                  have gmo := Blk.new w45 #[.string (qN mo), .string (qD mo)] 46
                  obtain ⟨⟨c0_0, c0_1⟩, _, _⟩ := gta.two
                  obtain ⟨⟨c1_0, c1_1⟩, _, _⟩ := gwy.two
                  go_wp2_with fail
                  have HP2 := Lib.hid (show okQ (ta * wy) by rw [HWY.out.1]; exact PK.out.prod HLE.out HTA.out.1)
                  refine ((mul_q ta wy HTA.out.2 HWY.out.2 HP2.out HE.out.2.1.1).mono (fun _ _ h => got_r HP2.out h)).mono ?_
                  rintro e w46 ⟨le, ⟨rfl, hr0, ok0⟩, hb46⟩
                  have HLL := Lib.hid (And.intro hr0 ok0)
                  clear c0_0 c0_1 c1_0 c1_1
                  have HB := Lib.hid (HB.out.trans (hb46.mono HB.out.size))
                  have HE := Lib.hid (HE.out.pass hb46)
                  have ga := ga.pass hb46
                  have gc := gc.pass hb46
                  have gx := gx.pass hb46
                  have gy := gy.pass hb46
                  have gs := gs.pass hb46
                  have gm := gm.pass hb46
                  have gz := gz.pass hb46
                  have gb2 := gb2.pass hb46
                  have gh := gh.pass hb46
                  have gsa := gsa.pass hb46
                  have gta := gta.pass hb46
                  have gwy := gwy.pass hb46
                  have gri := gri.pass hb46
                  have gmo := gmo.pass hb46
                  clear hb46 hr0 ok0
                  have HB := Lib.hid (HB.out.alloc HB.out.size (.cells #[.string (qN le), .string (qD le)] 46))
                  have HE := Lib.hid (HE.out.alloc (.cells #[.string (qN le), .string (qD le)] 46))
                  have ga := ga.alloc (.cells #[.string (qN le), .string (qD le)] 46)
                  have gc := gc.alloc (.cells #[.string (qN le), .string (qD le)] 46)
                  have gx := gx.alloc (.cells #[.string (qN le), .string (qD le)] 46)
                  have gy := gy.alloc (.cells #[.string (qN le), .string (qD le)] 46)
                  have gs := gs.alloc (.cells #[.string (qN le), .string (qD le)] 46)
                  have gm := gm.alloc (.cells #[.string (qN le), .string (qD le)] 46)
                  have gz := gz.alloc (.cells #[.string (qN le), .string (qD le)] 46)
                  have gb2 := gb2.alloc (.cells #[.string (qN le), .string (qD le)] 46)
                  have gh := gh.alloc (.cells #[.string (qN le), .string (qD le)] 46)
                  have gsa := gsa.alloc (.cells #[.string (qN le), .string (qD le)] 46)
                  have gta := gta.alloc (.cells #[.string (qN le), .string (qD le)] 46)
                  have gwy := gwy.alloc (.cells #[.string (qN le), .string (qD le)] 46)
                  have gri := gri.alloc (.cells #[.string (qN le), .string (qD le)] 46)
                  have gmo := gmo.alloc (.cells #[.string (qN le), .string (qD le)] 46)
                  have gle := Blk.new w46 #[.string (qN le), .string (qD le)] 46
                  obtain ⟨⟨c0_0, c0_1⟩, _, _⟩ := gri.two
                  obtain ⟨⟨c1_0, c1_1⟩, _, _⟩ := gmo.two
                  go_wp2_with fail
                  have HLAW := Lib.hid (PK.out.concave HLE.out HXX.out.1 HYY.out.1 HS.out.1 HMM.out.1 HZZ.out.1 HBB.out.1 HHF.out.1 HSA.out.1 HTA.out.1 HWY.out.1 HRI.out.1 HMO.out.1 HLL.out.1)
                  refine (cmp_q ri mo HRI.out.2 HMO.out.2 _).mono ?_
                  rintro e w61 ⟨rfl, hb61⟩
                  clear c0_0 c0_1 c1_0 c1_1
                  have HB := Lib.hid (HB.out.trans (hb61.mono HB.out.size))
                  have HE := Lib.hid (HE.out.pass hb61)
                  have ga := ga.pass hb61
                  have gc := gc.pass hb61
                  have gx := gx.pass hb61
                  have gy := gy.pass hb61
                  have gs := gs.pass hb61
                  have gm := gm.pass hb61
                  have gz := gz.pass hb61
                  have gb2 := gb2.pass hb61
                  have gh := gh.pass hb61
                  have gsa := gsa.pass hb61
                  have gta := gta.pass hb61
                  have gwy := gwy.pass hb61
                  have gri := gri.pass hb61
                  have gmo := gmo.pass hb61
                  have gle := gle.pass hb61
                  have hle : cmpQ ri mo ≤ 0 := cmp_notgt HLAW.out.1
                  generalize cmpQ ri mo = cv at hle ⊢
                  clear hb61
                  obtain ⟨⟨c0_0, c0_1⟩, _, _⟩ := gle.two
                  obtain ⟨⟨c1_0, c1_1⟩, _, _⟩ := gri.two
                  go_wp2_with fail
                  clear hle
                  refine (cmp_q le ri HLL.out.2 HRI.out.2 _).mono ?_
                  rintro e w62 ⟨rfl, hb62⟩
                  clear c0_0 c0_1 c1_0 c1_1
                  have HB := Lib.hid (HB.out.trans (hb62.mono HB.out.size))
                  have HE := Lib.hid (HE.out.pass hb62)
                  have ga := ga.pass hb62
                  have gc := gc.pass hb62
                  have gx := gx.pass hb62
                  have gy := gy.pass hb62
                  have gs := gs.pass hb62
                  have gm := gm.pass hb62
                  have gz := gz.pass hb62
                  have gb2 := gb2.pass hb62
                  have gh := gh.pass hb62
                  have gsa := gsa.pass hb62
                  have gta := gta.pass hb62
                  have gwy := gwy.pass hb62
                  have gri := gri.pass hb62
                  have gmo := gmo.pass hb62
                  have gle := gle.pass hb62
                  have hle : cmpQ le ri ≤ 0 := cmp_notgt HLAW.out.2
                  generalize cmpQ le ri = cv at hle ⊢
                  clear hb62
                  go_wp2_with fail
                  clear hle
                  go_ret
                  exact ⟨rfl, HB.out⟩
            · have HLE := Lib.hid (Rat.not_lt.1 hlt)
              have hcm : cmpQ p q ≤ 0 := cmp_notgt HLE.out
              generalize cmpQ p q = cv at hcm ⊢
              clear hlt
              obtain ⟨⟨c0_0, c0_1⟩, _, _⟩ := ga.two
              go_wp2_with fail
              refine (TE.out _ HE.out p PK.out.pp.1 (PK.out.pp.2.mono (by decide))).mono ?_
              rintro e w8 ⟨x, ⟨rfl, hr0, ok0⟩, hb8⟩
              have HXX := Lib.hid (And.intro hr0 ok0)
              clear c0_0 c0_1
              have HB := Lib.hid (HB.out.trans (hb8.mono HB.out.size))
              have HE := Lib.hid (HE.out.pass hb8)
              have ga := ga.pass hb8
              have gc := gc.pass hb8
              clear hb8 hr0 ok0
              have HB := Lib.hid (HB.out.alloc HB.out.size (.cells #[.string (qN x), .string (qD x)] 46))
              have HE := Lib.hid (HE.out.alloc (.cells #[.string (qN x), .string (qD x)] 46))
              have ga := ga.alloc (.cells #[.string (qN x), .string (qD x)] 46)
              have gc := gc.alloc (.cells #[.string (qN x), .string (qD x)] 46)
              have gx := Blk.new w8 #[.string (qN x), .string (qD x)] 46
              obtain ⟨⟨c0_0, c0_1⟩, _, _⟩ := gc.two
              go_wp2_with fail
              refine (TE.out _ HE.out q PK.out.qq.1 (PK.out.qq.2.mono (by decide))).mono ?_
              rintro e w9 ⟨y, ⟨rfl, hr0, ok0⟩, hb9⟩
              have HYY := Lib.hid (And.intro hr0 ok0)
              clear c0_0 c0_1
              have HB := Lib.hid (HB.out.trans (hb9.mono HB.out.size))
              have HE := Lib.hid (HE.out.pass hb9)
              have ga := ga.pass hb9
              have gc := gc.pass hb9
              have gx := gx.pass hb9
              clear hb9 hr0 ok0
              have HB := Lib.hid (HB.out.alloc HB.out.size (.cells #[.string (qN y), .string (qD y)] 46))
              have HE := Lib.hid (HE.out.alloc (.cells #[.string (qN y), .string (qD y)] 46))
              have ga := ga.alloc (.cells #[.string (qN y), .string (qD y)] 46)
              have gc := gc.alloc (.cells #[.string (qN y), .string (qD y)] 46)
              have gx := gx.alloc (.cells #[.string (qN y), .string (qD y)] 46)
              have gy := Blk.new w9 #[.string (qN y), .string (qD y)] 46
              obtain ⟨⟨c0_0, c0_1⟩, _, _⟩ := ga.two
              obtain ⟨⟨c1_0, c1_1⟩, _, _⟩ := gc.two
              go_wp2_with fail
              refine ((add_q p q PK.out.pp.1 PK.out.qq.1 PK.out.sum.1 HE.out.2.1.1).mono (fun _ _ h => got_r PK.out.sum.1 h)).mono ?_
              rintro e w10 ⟨sm1, ⟨rfl, hr0, ok0⟩, hb10⟩
              have HS := Lib.hid (And.intro hr0 ok0)
              clear c0_0 c0_1 c1_0 c1_1
              have HB := Lib.hid (HB.out.trans (hb10.mono HB.out.size))
              have HE := Lib.hid (HE.out.pass hb10)
              have ga := ga.pass hb10
              have gc := gc.pass hb10
              have gx := gx.pass hb10
              have gy := gy.pass hb10
              clear hb10 hr0 ok0
              have HB := Lib.hid (HB.out.alloc HB.out.size (.cells #[.string (qN sm1), .string (qD sm1)] 46))
              have HE := Lib.hid (HE.out.alloc (.cells #[.string (qN sm1), .string (qD sm1)] 46))
              have ga := ga.alloc (.cells #[.string (qN sm1), .string (qD sm1)] 46)
              have gc := gc.alloc (.cells #[.string (qN sm1), .string (qD sm1)] 46)
              have gx := gx.alloc (.cells #[.string (qN sm1), .string (qD sm1)] 46)
              have gy := gy.alloc (.cells #[.string (qN sm1), .string (qD sm1)] 46)
              have gs := Blk.new w10 #[.string (qN sm1), .string (qD sm1)] 46
              go_wp2_with fail
              have HMU := Lib.hid (show okQ sm1 ∧ okQ (sm1 * mkRat 1 2) by rw [HS.out.1]; exact ⟨PK.out.sum.1, PK.out.mid.1⟩)
              have HB := Lib.hid (HB.out.drew)
              have HE := Lib.hid (HE.out.pass (Below.refl _ _).drew)
              have ga := ga.drew
              have gc := gc.drew
              have gx := gx.drew
              have gy := gy.drew
              have gs := gs.drew
              have hsrc := gs.lt
              have HX := Lib.hid (Below.refl (w10.alloc (.cells #[.string (qN sm1), .string (qD sm1)] 46)).drew.heap.size (w10.alloc (.cells #[.string (qN sm1), .string (qD sm1)] 46)).drew)
              obtain ⟨n0, hn0⟩ : ∃ n0, n0 = (w10.alloc (.cells #[.string (qN sm1), .string (qD sm1)] 46)).drew.heap.size := ⟨_, rfl⟩
              refine wp_region_I (fun a0 a2 W => ∃ (bs : Nat) (R : Rat), a2 = ((((((((a0.put (some 90) (.agg #[.string (qN sm1), .string (qD sm1)])).put (some 91) (.agg #[.string (qN (mkRat 1 2)), .string (qD (mkRat 1 2))])).put (some 92) (.tuple #[.agg #[.string (qN R), .string (qD R)], .int .i64 0])).put (some 89) (.tuple #[.agg #[.string (qN R), .string (qD R)], .int .i64 0])).put (some 93) (.agg #[.string (qN R), .string (qD R)])).put (some 94) (.int .i64 0)).put (some 14) (.pointer (some ⟨bs, 0, none⟩))).put (some 15) (.int .i64 0)) ∧ (R = sm1 * (mkRat 1 2) ∧ okQ R) ∧ Blk W bs #[.string (qN R), .string (qD R)] 46 ∧ Below n0 (w10.alloc (.cells #[.string (qN sm1), .string (qD sm1)] 46)).drew W ∧ n0 ≤ bs) (fun W => W = (w10.alloc (.cells #[.string (qN sm1), .string (qD sm1)] 46)).drew) (fun W => W.cell? ⟨w10.heap.size, 0, none⟩ = some (.string (qN sm1)) ∧ W.cell? ⟨w10.heap.size, 1, none⟩ = some (.string (qD sm1))) [] hm gs.two.1 rfl ?_ ?_
              · intro W0 hCells hS
                subst hS
                generalize (w10.alloc (.cells #[.string (qN sm1), .string (qD sm1)] 46)).drew = W0 at HE HX hsrc hn0 hCells ⊢
                refine takeB hfnR (by kernel_rfl) 0 (v := ?_) rfl (by kernel_rfl) (fun _ _ _ h => h) (by kernel_rfl) hCells (Or.inl ⟨by rfl, ?_⟩) ?_
                rotate_left 1
                · intro w hSw; (try dsimp only at hSw); go_simp; (try with_reducible rfl)
                try simp only [Act.put, List.setIfInBounds_toArray, List.set_cons_zero, List.set_cons_succ]
                refine wpAnyJ_ready (rs := [1, 6]) (by kernel_rfl) (by simp) (consJ 1 rfl (fun K hK => ?_) (consJ 6 rfl (fun K hK => ?_) AllJ.nil))
                ·
                  go_simp
                  refine ⟨rfl, ?_⟩
                  refine (callsIn_wide.2 (of12 _ (HE.out.2.1.1.below HX.out (Nat.le_refl _)))).mono ?_
                  rintro e v1_0 ⟨rfl, hv⟩
                  refine hK.out _ _ (holdJ ?_ (fun hCells => ?_))
                  · clear hK; (try dsimp only); exact ⟨pc hv hCells.1, pc hv hCells.2⟩
                  clear hK K
                  have HX := Lib.hid (HX.out.trans (hv.mono HX.out.size))
                  clear hv
                  try simp only [Act.put, List.setIfInBounds_toArray, List.set_cons_zero, List.set_cons_succ]
                  refine wpAnyJ_ready (rs := [2, 6]) (by kernel_rfl) (by simp) (consJ 2 rfl (fun K hK => ?_) (consJ 6 rfl (fun K hK => ?_) AllJ.nil))
                  ·
                    go_simp
                    refine ⟨rfl, ?_⟩
                    refine (callsIn_wide.2 ((mul_q sm1 (mkRat 1 2) HMU.out.1 half_ok.1 HMU.out.2 (HE.out.2.1.1.below HX.out (Nat.le_refl _))).mono (fun _ _ h => got_r HMU.out.2 h))).mono ?_
                    rintro e v2_1 ⟨mid, ⟨rfl, hr0, ok0⟩, hv⟩
                    have HRR := Lib.hid (And.intro hr0 ok0)
                    clear hr0 ok0
                    refine hK.out _ _ (holdJ ?_ (fun hCells => ?_))
                    · clear hK; (try dsimp only); exact ⟨pc hv hCells.1, pc hv hCells.2⟩
                    clear hK K
                    have HX := Lib.hid (HX.out.trans (hv.mono HX.out.size))
                    clear hv
                    try simp only [Act.put, List.setIfInBounds_toArray, List.set_cons_zero, List.set_cons_succ]
                    refine takeB hfnR (by kernel_rfl) 3 (v := ?_) rfl (by kernel_rfl) (fun _ _ _ h => h) (by kernel_rfl) hCells (Or.inl ⟨by rfl, ?_⟩) ?_
                    rotate_left 1
                    · intro w hSw; (try dsimp only at hSw); go_simp; (try with_reducible rfl)
                    try simp only [Act.put, List.setIfInBounds_toArray, List.set_cons_zero, List.set_cons_succ]
                    refine takeB hfnR (by kernel_rfl) 4 (v := ?_) rfl (by kernel_rfl) (fun _ _ _ h => h) (by kernel_rfl) hCells (Or.inl ⟨by rfl, ?_⟩) ?_
                    rotate_left 1
                    · intro w hSw; (try dsimp only at hSw); go_simp; (try with_reducible rfl)
                    try simp only [Act.put, List.setIfInBounds_toArray, List.set_cons_zero, List.set_cons_succ]
                    refine takeB hfnR (by kernel_rfl) 5 (v := ?_) rfl (by kernel_rfl) (fun _ _ _ h => h) (by kernel_rfl) hCells (Or.inl ⟨by rfl, ?_⟩) ?_
                    rotate_left 1
                    · intro w hSw; (try dsimp only at hSw); go_simp; (try with_reducible rfl)
                    try simp only [Act.put, List.setIfInBounds_toArray, List.set_cons_zero, List.set_cons_succ]
                    refine oneJ 6 (by kernel_rfl) rfl (fun K hK => ?_)
                    go_simp
                    refine hK.out _ _ (holdJ ?_ (fun hCells => ?_))
                    · clear hK; (try dsimp only); exact ⟨pc (below_alloc _ _) hCells.1, pc (below_alloc _ _) hCells.2⟩
                    clear hK K
                    have gb := Blk.new v2_1 #[.string ⟨#[]⟩, .string ⟨#[]⟩] 46
                    obtain ⟨bs, hbs⟩ : ∃ bs, bs = v2_1.heap.size := ⟨_, rfl⟩
                    have hge : W0.heap.size ≤ bs := by rw [hbs]; exact HX.out.size
                    have HX := Lib.hid (HX.out.alloc HX.out.size (.cells #[.string ⟨#[]⟩, .string ⟨#[]⟩] 46))
                    rw [← hbs] at gb ⊢
                    clear hbs
                    generalize v2_1.alloc (.cells #[.string ⟨#[]⟩, .string ⟨#[]⟩] 46) = va_3 at gb HX hCells ⊢
                    try simp only [Act.put, List.setIfInBounds_toArray, List.set_cons_zero, List.set_cons_succ]
                    obtain ⟨⟨r0, r1⟩, f0, f1⟩ := gb.two
                    refine oneJ 7 (by kernel_rfl) rfl (fun K hK => ?_)
                    go_simp
                    refine hK.out _ _ (holdJ ?_ (fun hCells => ?_))
                    · clear hK; (try dsimp only); exact ⟨far2 hCells.1 (by omega), far2 hCells.2 (by omega)⟩
                    clear hK K r0 r1 f0 f1
                    try simp only [Act.put, List.setIfInBounds_toArray, List.set_cons_zero, List.set_cons_succ]
                    refine takeB hfnR (by kernel_rfl) 8 (v := ?_) rfl (by kernel_rfl) (fun _ _ _ h => h) (by kernel_rfl) hCells (Or.inl ⟨by rfl, ?_⟩) ?_
                    rotate_left 1
                    · intro w hSw; (try dsimp only at hSw); go_simp; (try with_reducible rfl)
                    try simp only [Act.put, List.setIfInBounds_toArray, List.set_cons_zero, List.set_cons_succ]
                    refine wpAnyJ_done (by kernel_rfl) (NoPan.normal ?_) _
                    refine ⟨rfl, bs, mid, ?_, HRR.out, (gb.set 0 _).set 1 _, by rw [hn0]; exact (HX.out.setCell (p := ⟨bs, 0, none⟩) hge _).setCell (p := ⟨bs, 1, none⟩) hge _, by rw [hn0]; exact hge⟩
                    simp only [Act.put, List.setIfInBounds_toArray, List.set_cons_zero, List.set_cons_succ]
                  ·
                    go_simp
                    refine hK.out _ _ (holdJ ?_ (fun hCells => ?_))
                    · clear hK; (try dsimp only); exact ⟨pc (below_alloc _ _) hCells.1, pc (below_alloc _ _) hCells.2⟩
                    clear hK K
                    have gb := Blk.new v1_0 #[.string ⟨#[]⟩, .string ⟨#[]⟩] 46
                    obtain ⟨bs, hbs⟩ : ∃ bs, bs = v1_0.heap.size := ⟨_, rfl⟩
                    have hge : W0.heap.size ≤ bs := by rw [hbs]; exact HX.out.size
                    have HX := Lib.hid (HX.out.alloc HX.out.size (.cells #[.string ⟨#[]⟩, .string ⟨#[]⟩] 46))
                    rw [← hbs] at gb ⊢
                    clear hbs
                    generalize v1_0.alloc (.cells #[.string ⟨#[]⟩, .string ⟨#[]⟩] 46) = va_1 at gb HX hCells ⊢
                    try simp only [Act.put, List.setIfInBounds_toArray, List.set_cons_zero, List.set_cons_succ]
                    refine oneJ 2 (by kernel_rfl) rfl (fun K hK => ?_)
                    go_simp
                    refine ⟨rfl, ?_⟩
                    refine (callsIn_wide.2 ((mul_q sm1 (mkRat 1 2) HMU.out.1 half_ok.1 HMU.out.2 (HE.out.2.1.1.below HX.out (Nat.le_refl _))).mono (fun _ _ h => got_r HMU.out.2 h))).mono ?_
                    rintro e v2_2 ⟨mid, ⟨rfl, hr0, ok0⟩, hv⟩
                    have HRR := Lib.hid (And.intro hr0 ok0)
                    clear hr0 ok0
                    refine hK.out _ _ (holdJ ?_ (fun hCells => ?_))
                    · clear hK; (try dsimp only); exact ⟨pc hv hCells.1, pc hv hCells.2⟩
                    clear hK K
                    have HX := Lib.hid (HX.out.trans (hv.mono HX.out.size))
                    have gb := gb.pass hv
                    clear hv
                    try simp only [Act.put, List.setIfInBounds_toArray, List.set_cons_zero, List.set_cons_succ]
                    refine takeB hfnR (by kernel_rfl) 3 (v := ?_) rfl (by kernel_rfl) (fun _ _ _ h => h) (by kernel_rfl) hCells (Or.inl ⟨by rfl, ?_⟩) ?_
                    rotate_left 1
                    · intro w hSw; (try dsimp only at hSw); go_simp; (try with_reducible rfl)
                    try simp only [Act.put, List.setIfInBounds_toArray, List.set_cons_zero, List.set_cons_succ]
                    refine takeB hfnR (by kernel_rfl) 4 (v := ?_) rfl (by kernel_rfl) (fun _ _ _ h => h) (by kernel_rfl) hCells (Or.inl ⟨by rfl, ?_⟩) ?_
                    rotate_left 1
                    · intro w hSw; (try dsimp only at hSw); go_simp; (try with_reducible rfl)
                    try simp only [Act.put, List.setIfInBounds_toArray, List.set_cons_zero, List.set_cons_succ]
                    refine takeB hfnR (by kernel_rfl) 5 (v := ?_) rfl (by kernel_rfl) (fun _ _ _ h => h) (by kernel_rfl) hCells (Or.inl ⟨by rfl, ?_⟩) ?_
                    rotate_left 1
                    · intro w hSw; (try dsimp only at hSw); go_simp; (try with_reducible rfl)
                    try simp only [Act.put, List.setIfInBounds_toArray, List.set_cons_zero, List.set_cons_succ]
                    obtain ⟨⟨r0, r1⟩, f0, f1⟩ := gb.two
                    refine oneJ 7 (by kernel_rfl) rfl (fun K hK => ?_)
                    go_simp
                    refine hK.out _ _ (holdJ ?_ (fun hCells => ?_))
                    · clear hK; (try dsimp only); exact ⟨far2 hCells.1 (by omega), far2 hCells.2 (by omega)⟩
                    clear hK K r0 r1 f0 f1
                    try simp only [Act.put, List.setIfInBounds_toArray, List.set_cons_zero, List.set_cons_succ]
                    refine takeB hfnR (by kernel_rfl) 8 (v := ?_) rfl (by kernel_rfl) (fun _ _ _ h => h) (by kernel_rfl) hCells (Or.inl ⟨by rfl, ?_⟩) ?_
                    rotate_left 1
                    · intro w hSw; (try dsimp only at hSw); go_simp; (try with_reducible rfl)
                    try simp only [Act.put, List.setIfInBounds_toArray, List.set_cons_zero, List.set_cons_succ]
                    refine wpAnyJ_done (by kernel_rfl) (NoPan.normal ?_) _
                    refine ⟨rfl, bs, mid, ?_, HRR.out, (gb.set 0 _).set 1 _, by rw [hn0]; exact (HX.out.setCell (p := ⟨bs, 0, none⟩) hge _).setCell (p := ⟨bs, 1, none⟩) hge _, by rw [hn0]; exact hge⟩
                    simp only [Act.put, List.setIfInBounds_toArray, List.set_cons_zero, List.set_cons_succ]
                ·
                  go_simp
                  refine hK.out _ _ (holdJ ?_ (fun hCells => ?_))
                  · clear hK; (try dsimp only); exact ⟨pc (below_alloc _ _) hCells.1, pc (below_alloc _ _) hCells.2⟩
                  clear hK K
                  have gb := Blk.new W0 #[.string ⟨#[]⟩, .string ⟨#[]⟩] 46
                  obtain ⟨bs, hbs⟩ : ∃ bs, bs = W0.heap.size := ⟨_, rfl⟩
                  have hge : W0.heap.size ≤ bs := by rw [hbs]; exact HX.out.size
                  have HX := Lib.hid (HX.out.alloc HX.out.size (.cells #[.string ⟨#[]⟩, .string ⟨#[]⟩] 46))
                  rw [← hbs] at gb ⊢
                  clear hbs
                  generalize W0.alloc (.cells #[.string ⟨#[]⟩, .string ⟨#[]⟩] 46) = va_0 at gb HX hCells ⊢
                  try simp only [Act.put, List.setIfInBounds_toArray, List.set_cons_zero, List.set_cons_succ]
                  refine oneJ 1 (by kernel_rfl) rfl (fun K hK => ?_)
                  go_simp
                  refine ⟨rfl, ?_⟩
                  refine (callsIn_wide.2 (of12 _ (HE.out.2.1.1.below HX.out (Nat.le_refl _)))).mono ?_
                  rintro e v1_1 ⟨rfl, hv⟩
                  refine hK.out _ _ (holdJ ?_ (fun hCells => ?_))
                  · clear hK; (try dsimp only); exact ⟨pc hv hCells.1, pc hv hCells.2⟩
                  clear hK K
                  have HX := Lib.hid (HX.out.trans (hv.mono HX.out.size))
                  have gb := gb.pass hv
                  clear hv
                  try simp only [Act.put, List.setIfInBounds_toArray, List.set_cons_zero, List.set_cons_succ]
                  refine oneJ 2 (by kernel_rfl) rfl (fun K hK => ?_)
                  go_simp
                  refine ⟨rfl, ?_⟩
                  refine (callsIn_wide.2 ((mul_q sm1 (mkRat 1 2) HMU.out.1 half_ok.1 HMU.out.2 (HE.out.2.1.1.below HX.out (Nat.le_refl _))).mono (fun _ _ h => got_r HMU.out.2 h))).mono ?_
                  rintro e v2_2 ⟨mid, ⟨rfl, hr0, ok0⟩, hv⟩
                  have HRR := Lib.hid (And.intro hr0 ok0)
                  clear hr0 ok0
                  refine hK.out _ _ (holdJ ?_ (fun hCells => ?_))
                  · clear hK; (try dsimp only); exact ⟨pc hv hCells.1, pc hv hCells.2⟩
                  clear hK K
                  have HX := Lib.hid (HX.out.trans (hv.mono HX.out.size))
                  have gb := gb.pass hv
                  clear hv
                  try simp only [Act.put, List.setIfInBounds_toArray, List.set_cons_zero, List.set_cons_succ]
                  refine takeB hfnR (by kernel_rfl) 3 (v := ?_) rfl (by kernel_rfl) (fun _ _ _ h => h) (by kernel_rfl) hCells (Or.inl ⟨by rfl, ?_⟩) ?_
                  rotate_left 1
                  · intro w hSw; (try dsimp only at hSw); go_simp; (try with_reducible rfl)
                  try simp only [Act.put, List.setIfInBounds_toArray, List.set_cons_zero, List.set_cons_succ]
                  refine takeB hfnR (by kernel_rfl) 4 (v := ?_) rfl (by kernel_rfl) (fun _ _ _ h => h) (by kernel_rfl) hCells (Or.inl ⟨by rfl, ?_⟩) ?_
                  rotate_left 1
                  · intro w hSw; (try dsimp only at hSw); go_simp; (try with_reducible rfl)
                  try simp only [Act.put, List.setIfInBounds_toArray, List.set_cons_zero, List.set_cons_succ]
                  refine takeB hfnR (by kernel_rfl) 5 (v := ?_) rfl (by kernel_rfl) (fun _ _ _ h => h) (by kernel_rfl) hCells (Or.inl ⟨by rfl, ?_⟩) ?_
                  rotate_left 1
                  · intro w hSw; (try dsimp only at hSw); go_simp; (try with_reducible rfl)
                  try simp only [Act.put, List.setIfInBounds_toArray, List.set_cons_zero, List.set_cons_succ]
                  obtain ⟨⟨r0, r1⟩, f0, f1⟩ := gb.two
                  refine oneJ 7 (by kernel_rfl) rfl (fun K hK => ?_)
                  go_simp
                  refine hK.out _ _ (holdJ ?_ (fun hCells => ?_))
                  · clear hK; (try dsimp only); exact ⟨far2 hCells.1 (by omega), far2 hCells.2 (by omega)⟩
                  clear hK K r0 r1 f0 f1
                  try simp only [Act.put, List.setIfInBounds_toArray, List.set_cons_zero, List.set_cons_succ]
                  refine takeB hfnR (by kernel_rfl) 8 (v := ?_) rfl (by kernel_rfl) (fun _ _ _ h => h) (by kernel_rfl) hCells (Or.inl ⟨by rfl, ?_⟩) ?_
                  rotate_left 1
                  · intro w hSw; (try dsimp only at hSw); go_simp; (try with_reducible rfl)
                  try simp only [Act.put, List.setIfInBounds_toArray, List.set_cons_zero, List.set_cons_succ]
                  refine wpAnyJ_done (by kernel_rfl) (NoPan.normal ?_) _
                  refine ⟨rfl, bs, mid, ?_, HRR.out, (gb.set 0 _).set 1 _, by rw [hn0]; exact (HX.out.setCell (p := ⟨bs, 0, none⟩) hge _).setCell (p := ⟨bs, 1, none⟩) hge _, by rw [hn0]; exact hge⟩
                  simp only [Act.put, List.setIfInBounds_toArray, List.set_cons_zero, List.set_cons_succ]
              · rintro a2 W11 ⟨b11, mid, rfl, hfact, gm, hX, hge⟩
                have HMM := Lib.hid hfact
                rw [hn0] at hX
                have ga := ga.below hX ga.lt
                have gc := gc.below hX gc.lt
                have gx := gx.below hX gx.lt
                have gy := gy.below hX gy.lt
                have gs := gs.below hX gs.lt
                have HB := Lib.hid (HB.out.trans (hX.mono HB.out.size))
                have HE := Lib.hid (HE.out.pass hX)
                clear HX hX hge hsrc hfact hn0
                simp only [Act.put, List.setIfInBounds_toArray, List.set_cons_zero, List.set_cons_succ]
                obtain ⟨⟨c0_0, c0_1⟩, _, _⟩ := gm.two
                go_wp2_with fail
                have HMS := Lib.hid (show okQ mid ∧ sm 300 mid by rw [HMM.out.1, HS.out.1]; exact ⟨PK.out.mid.1, PK.out.mid.2.mono (by decide)⟩)
                refine (TE.out _ HE.out mid HMS.out.1 HMS.out.2).mono ?_
                rintro e w12 ⟨z, ⟨rfl, hr0, ok0⟩, hb12⟩
                have HZZ := Lib.hid (And.intro hr0 ok0)
                clear c0_0 c0_1
                have HB := Lib.hid (HB.out.trans (hb12.mono HB.out.size))
                have HE := Lib.hid (HE.out.pass hb12)
                have ga := ga.pass hb12
                have gc := gc.pass hb12
                have gx := gx.pass hb12
                have gy := gy.pass hb12
                have gs := gs.pass hb12
                have gm := gm.pass hb12
                clear hb12 hr0 ok0
                have HB := Lib.hid (HB.out.alloc HB.out.size (.cells #[.string (qN z), .string (qD z)] 46))
                have HE := Lib.hid (HE.out.alloc (.cells #[.string (qN z), .string (qD z)] 46))
                have ga := ga.alloc (.cells #[.string (qN z), .string (qD z)] 46)
                have gc := gc.alloc (.cells #[.string (qN z), .string (qD z)] 46)
                have gx := gx.alloc (.cells #[.string (qN z), .string (qD z)] 46)
                have gy := gy.alloc (.cells #[.string (qN z), .string (qD z)] 46)
                have gs := gs.alloc (.cells #[.string (qN z), .string (qD z)] 46)
                have gm := gm.alloc (.cells #[.string (qN z), .string (qD z)] 46)
                have gz := Blk.new w12 #[.string (qN z), .string (qD z)] 46
                obtain ⟨⟨c0_0, c0_1⟩, _, _⟩ := gx.two
                obtain ⟨⟨c1_0, c1_1⟩, _, _⟩ := gy.two
                go_wp2_with fail
                have HBO := Lib.hid (PK.out.both HXX.out.1 HYY.out.1)
                refine ((add_q x y HXX.out.2 HYY.out.2 HBO.out.1 HE.out.2.1.1).mono (fun _ _ h => got_r HBO.out.1 h)).mono ?_
                rintro e w13 ⟨bo, ⟨rfl, hr0, ok0⟩, hb13⟩
                have HBB := Lib.hid (And.intro hr0 ok0)
                clear c0_0 c0_1 c1_0 c1_1
                have HB := Lib.hid (HB.out.trans (hb13.mono HB.out.size))
                have HE := Lib.hid (HE.out.pass hb13)
                have ga := ga.pass hb13
                have gc := gc.pass hb13
                have gx := gx.pass hb13
                have gy := gy.pass hb13
                have gs := gs.pass hb13
                have gm := gm.pass hb13
                have gz := gz.pass hb13
                clear hb13 hr0 ok0
                have HB := Lib.hid (HB.out.alloc HB.out.size (.cells #[.string (qN bo), .string (qD bo)] 46))
                have HE := Lib.hid (HE.out.alloc (.cells #[.string (qN bo), .string (qD bo)] 46))
                have ga := ga.alloc (.cells #[.string (qN bo), .string (qD bo)] 46)
                have gc := gc.alloc (.cells #[.string (qN bo), .string (qD bo)] 46)
                have gx := gx.alloc (.cells #[.string (qN bo), .string (qD bo)] 46)
                have gy := gy.alloc (.cells #[.string (qN bo), .string (qD bo)] 46)
                have gs := gs.alloc (.cells #[.string (qN bo), .string (qD bo)] 46)
                have gm := gm.alloc (.cells #[.string (qN bo), .string (qD bo)] 46)
                have gz := gz.alloc (.cells #[.string (qN bo), .string (qD bo)] 46)
                have gb2 := Blk.new w13 #[.string (qN bo), .string (qD bo)] 46
                go_wp2_with fail
                have HMU := Lib.hid (show okQ bo ∧ okQ (bo * mkRat 1 2) by rw [HBB.out.1]; exact ⟨HBO.out.1, PK.out.halfboth HXX.out.1 HYY.out.1⟩)
                have HB := Lib.hid (HB.out.drew)
                have HE := Lib.hid (HE.out.pass (Below.refl _ _).drew)
                have ga := ga.drew
                have gc := gc.drew
                have gx := gx.drew
                have gy := gy.drew
                have gs := gs.drew
                have gm := gm.drew
                have gz := gz.drew
                have gb2 := gb2.drew
                have hsrc := gb2.lt
                have HX := Lib.hid (Below.refl (w13.alloc (.cells #[.string (qN bo), .string (qD bo)] 46)).drew.heap.size (w13.alloc (.cells #[.string (qN bo), .string (qD bo)] 46)).drew)
                obtain ⟨n0, hn0⟩ : ∃ n0, n0 = (w13.alloc (.cells #[.string (qN bo), .string (qD bo)] 46)).drew.heap.size := ⟨_, rfl⟩
                refine wp_region_I (fun a0 a2 W => ∃ (bs : Nat) (R : Rat), a2 = ((((((((a0.put (some 108) (.agg #[.string (qN bo), .string (qD bo)])).put (some 109) (.agg #[.string (qN (mkRat 1 2)), .string (qD (mkRat 1 2))])).put (some 110) (.tuple #[.agg #[.string (qN R), .string (qD R)], .int .i64 0])).put (some 107) (.tuple #[.agg #[.string (qN R), .string (qD R)], .int .i64 0])).put (some 111) (.agg #[.string (qN R), .string (qD R)])).put (some 112) (.int .i64 0)).put (some 20) (.pointer (some ⟨bs, 0, none⟩))).put (some 21) (.int .i64 0)) ∧ (R = bo * (mkRat 1 2) ∧ okQ R) ∧ Blk W bs #[.string (qN R), .string (qD R)] 46 ∧ Below n0 (w13.alloc (.cells #[.string (qN bo), .string (qD bo)] 46)).drew W ∧ n0 ≤ bs) (fun W => W = (w13.alloc (.cells #[.string (qN bo), .string (qD bo)] 46)).drew) (fun W => W.cell? ⟨w13.heap.size, 0, none⟩ = some (.string (qN bo)) ∧ W.cell? ⟨w13.heap.size, 1, none⟩ = some (.string (qD bo))) [] hm gb2.two.1 rfl ?_ ?_
                · intro W0 hCells hS
                  subst hS
                  generalize (w13.alloc (.cells #[.string (qN bo), .string (qD bo)] 46)).drew = W0 at HE HX hsrc hn0 hCells ⊢
                  refine takeB hfnR (by kernel_rfl) 0 (v := ?_) rfl (by kernel_rfl) (fun _ _ _ h => h) (by kernel_rfl) hCells (Or.inl ⟨by rfl, ?_⟩) ?_
                  rotate_left 1
                  · intro w hSw; (try dsimp only at hSw); go_simp; (try with_reducible rfl)
                  try simp only [Act.put, List.setIfInBounds_toArray, List.set_cons_zero, List.set_cons_succ]
                  refine wpAnyJ_ready (rs := [1, 6]) (by kernel_rfl) (by simp) (consJ 1 rfl (fun K hK => ?_) (consJ 6 rfl (fun K hK => ?_) AllJ.nil))
                  ·
                    go_simp
                    refine ⟨rfl, ?_⟩
                    refine (callsIn_wide.2 (of12 _ (HE.out.2.1.1.below HX.out (Nat.le_refl _)))).mono ?_
                    rintro e v1_0 ⟨rfl, hv⟩
                    refine hK.out _ _ (holdJ ?_ (fun hCells => ?_))
                    · clear hK; (try dsimp only); exact ⟨pc hv hCells.1, pc hv hCells.2⟩
                    clear hK K
                    have HX := Lib.hid (HX.out.trans (hv.mono HX.out.size))
                    clear hv
                    try simp only [Act.put, List.setIfInBounds_toArray, List.set_cons_zero, List.set_cons_succ]
                    refine wpAnyJ_ready (rs := [2, 6]) (by kernel_rfl) (by simp) (consJ 2 rfl (fun K hK => ?_) (consJ 6 rfl (fun K hK => ?_) AllJ.nil))
                    ·
                      go_simp
                      refine ⟨rfl, ?_⟩
                      refine (callsIn_wide.2 ((mul_q bo (mkRat 1 2) HMU.out.1 half_ok.1 HMU.out.2 (HE.out.2.1.1.below HX.out (Nat.le_refl _))).mono (fun _ _ h => got_r HMU.out.2 h))).mono ?_
                      rintro e v2_1 ⟨hf, ⟨rfl, hr0, ok0⟩, hv⟩
                      have HRR := Lib.hid (And.intro hr0 ok0)
                      clear hr0 ok0
                      refine hK.out _ _ (holdJ ?_ (fun hCells => ?_))
                      · clear hK; (try dsimp only); exact ⟨pc hv hCells.1, pc hv hCells.2⟩
                      clear hK K
                      have HX := Lib.hid (HX.out.trans (hv.mono HX.out.size))
                      clear hv
                      try simp only [Act.put, List.setIfInBounds_toArray, List.set_cons_zero, List.set_cons_succ]
                      refine takeB hfnR (by kernel_rfl) 3 (v := ?_) rfl (by kernel_rfl) (fun _ _ _ h => h) (by kernel_rfl) hCells (Or.inl ⟨by rfl, ?_⟩) ?_
                      rotate_left 1
                      · intro w hSw; (try dsimp only at hSw); go_simp; (try with_reducible rfl)
                      try simp only [Act.put, List.setIfInBounds_toArray, List.set_cons_zero, List.set_cons_succ]
                      refine takeB hfnR (by kernel_rfl) 4 (v := ?_) rfl (by kernel_rfl) (fun _ _ _ h => h) (by kernel_rfl) hCells (Or.inl ⟨by rfl, ?_⟩) ?_
                      rotate_left 1
                      · intro w hSw; (try dsimp only at hSw); go_simp; (try with_reducible rfl)
                      try simp only [Act.put, List.setIfInBounds_toArray, List.set_cons_zero, List.set_cons_succ]
                      refine takeB hfnR (by kernel_rfl) 5 (v := ?_) rfl (by kernel_rfl) (fun _ _ _ h => h) (by kernel_rfl) hCells (Or.inl ⟨by rfl, ?_⟩) ?_
                      rotate_left 1
                      · intro w hSw; (try dsimp only at hSw); go_simp; (try with_reducible rfl)
                      try simp only [Act.put, List.setIfInBounds_toArray, List.set_cons_zero, List.set_cons_succ]
                      refine oneJ 6 (by kernel_rfl) rfl (fun K hK => ?_)
                      go_simp
                      refine hK.out _ _ (holdJ ?_ (fun hCells => ?_))
                      · clear hK; (try dsimp only); exact ⟨pc (below_alloc _ _) hCells.1, pc (below_alloc _ _) hCells.2⟩
                      clear hK K
                      have gb := Blk.new v2_1 #[.string ⟨#[]⟩, .string ⟨#[]⟩] 46
                      obtain ⟨bs, hbs⟩ : ∃ bs, bs = v2_1.heap.size := ⟨_, rfl⟩
                      have hge : W0.heap.size ≤ bs := by rw [hbs]; exact HX.out.size
                      have HX := Lib.hid (HX.out.alloc HX.out.size (.cells #[.string ⟨#[]⟩, .string ⟨#[]⟩] 46))
                      rw [← hbs] at gb ⊢
                      clear hbs
                      generalize v2_1.alloc (.cells #[.string ⟨#[]⟩, .string ⟨#[]⟩] 46) = va_3 at gb HX hCells ⊢
                      try simp only [Act.put, List.setIfInBounds_toArray, List.set_cons_zero, List.set_cons_succ]
                      obtain ⟨⟨r0, r1⟩, f0, f1⟩ := gb.two
                      refine oneJ 7 (by kernel_rfl) rfl (fun K hK => ?_)
                      go_simp
                      refine hK.out _ _ (holdJ ?_ (fun hCells => ?_))
                      · clear hK; (try dsimp only); exact ⟨far2 hCells.1 (by omega), far2 hCells.2 (by omega)⟩
                      clear hK K r0 r1 f0 f1
                      try simp only [Act.put, List.setIfInBounds_toArray, List.set_cons_zero, List.set_cons_succ]
                      refine takeB hfnR (by kernel_rfl) 8 (v := ?_) rfl (by kernel_rfl) (fun _ _ _ h => h) (by kernel_rfl) hCells (Or.inl ⟨by rfl, ?_⟩) ?_
                      rotate_left 1
                      · intro w hSw; (try dsimp only at hSw); go_simp; (try with_reducible rfl)
                      try simp only [Act.put, List.setIfInBounds_toArray, List.set_cons_zero, List.set_cons_succ]
                      refine wpAnyJ_done (by kernel_rfl) (NoPan.normal ?_) _
                      refine ⟨rfl, bs, hf, ?_, HRR.out, (gb.set 0 _).set 1 _, by rw [hn0]; exact (HX.out.setCell (p := ⟨bs, 0, none⟩) hge _).setCell (p := ⟨bs, 1, none⟩) hge _, by rw [hn0]; exact hge⟩
                      simp only [Act.put, List.setIfInBounds_toArray, List.set_cons_zero, List.set_cons_succ]
                    ·
                      go_simp
                      refine hK.out _ _ (holdJ ?_ (fun hCells => ?_))
                      · clear hK; (try dsimp only); exact ⟨pc (below_alloc _ _) hCells.1, pc (below_alloc _ _) hCells.2⟩
                      clear hK K
                      have gb := Blk.new v1_0 #[.string ⟨#[]⟩, .string ⟨#[]⟩] 46
                      obtain ⟨bs, hbs⟩ : ∃ bs, bs = v1_0.heap.size := ⟨_, rfl⟩
                      have hge : W0.heap.size ≤ bs := by rw [hbs]; exact HX.out.size
                      have HX := Lib.hid (HX.out.alloc HX.out.size (.cells #[.string ⟨#[]⟩, .string ⟨#[]⟩] 46))
                      rw [← hbs] at gb ⊢
                      clear hbs
                      generalize v1_0.alloc (.cells #[.string ⟨#[]⟩, .string ⟨#[]⟩] 46) = va_1 at gb HX hCells ⊢
                      try simp only [Act.put, List.setIfInBounds_toArray, List.set_cons_zero, List.set_cons_succ]
                      refine oneJ 2 (by kernel_rfl) rfl (fun K hK => ?_)
                      go_simp
                      refine ⟨rfl, ?_⟩
                      refine (callsIn_wide.2 ((mul_q bo (mkRat 1 2) HMU.out.1 half_ok.1 HMU.out.2 (HE.out.2.1.1.below HX.out (Nat.le_refl _))).mono (fun _ _ h => got_r HMU.out.2 h))).mono ?_
                      rintro e v2_2 ⟨hf, ⟨rfl, hr0, ok0⟩, hv⟩
                      have HRR := Lib.hid (And.intro hr0 ok0)
                      clear hr0 ok0
                      refine hK.out _ _ (holdJ ?_ (fun hCells => ?_))
                      · clear hK; (try dsimp only); exact ⟨pc hv hCells.1, pc hv hCells.2⟩
                      clear hK K
                      have HX := Lib.hid (HX.out.trans (hv.mono HX.out.size))
                      have gb := gb.pass hv
                      clear hv
                      try simp only [Act.put, List.setIfInBounds_toArray, List.set_cons_zero, List.set_cons_succ]
                      refine takeB hfnR (by kernel_rfl) 3 (v := ?_) rfl (by kernel_rfl) (fun _ _ _ h => h) (by kernel_rfl) hCells (Or.inl ⟨by rfl, ?_⟩) ?_
                      rotate_left 1
                      · intro w hSw; (try dsimp only at hSw); go_simp; (try with_reducible rfl)
                      try simp only [Act.put, List.setIfInBounds_toArray, List.set_cons_zero, List.set_cons_succ]
                      refine takeB hfnR (by kernel_rfl) 4 (v := ?_) rfl (by kernel_rfl) (fun _ _ _ h => h) (by kernel_rfl) hCells (Or.inl ⟨by rfl, ?_⟩) ?_
                      rotate_left 1
                      · intro w hSw; (try dsimp only at hSw); go_simp; (try with_reducible rfl)
                      try simp only [Act.put, List.setIfInBounds_toArray, List.set_cons_zero, List.set_cons_succ]
                      refine takeB hfnR (by kernel_rfl) 5 (v := ?_) rfl (by kernel_rfl) (fun _ _ _ h => h) (by kernel_rfl) hCells (Or.inl ⟨by rfl, ?_⟩) ?_
                      rotate_left 1
                      · intro w hSw; (try dsimp only at hSw); go_simp; (try with_reducible rfl)
                      try simp only [Act.put, List.setIfInBounds_toArray, List.set_cons_zero, List.set_cons_succ]
                      obtain ⟨⟨r0, r1⟩, f0, f1⟩ := gb.two
                      refine oneJ 7 (by kernel_rfl) rfl (fun K hK => ?_)
                      go_simp
                      refine hK.out _ _ (holdJ ?_ (fun hCells => ?_))
                      · clear hK; (try dsimp only); exact ⟨far2 hCells.1 (by omega), far2 hCells.2 (by omega)⟩
                      clear hK K r0 r1 f0 f1
                      try simp only [Act.put, List.setIfInBounds_toArray, List.set_cons_zero, List.set_cons_succ]
                      refine takeB hfnR (by kernel_rfl) 8 (v := ?_) rfl (by kernel_rfl) (fun _ _ _ h => h) (by kernel_rfl) hCells (Or.inl ⟨by rfl, ?_⟩) ?_
                      rotate_left 1
                      · intro w hSw; (try dsimp only at hSw); go_simp; (try with_reducible rfl)
                      try simp only [Act.put, List.setIfInBounds_toArray, List.set_cons_zero, List.set_cons_succ]
                      refine wpAnyJ_done (by kernel_rfl) (NoPan.normal ?_) _
                      refine ⟨rfl, bs, hf, ?_, HRR.out, (gb.set 0 _).set 1 _, by rw [hn0]; exact (HX.out.setCell (p := ⟨bs, 0, none⟩) hge _).setCell (p := ⟨bs, 1, none⟩) hge _, by rw [hn0]; exact hge⟩
                      simp only [Act.put, List.setIfInBounds_toArray, List.set_cons_zero, List.set_cons_succ]
                  ·
                    go_simp
                    refine hK.out _ _ (holdJ ?_ (fun hCells => ?_))
                    · clear hK; (try dsimp only); exact ⟨pc (below_alloc _ _) hCells.1, pc (below_alloc _ _) hCells.2⟩
                    clear hK K
                    have gb := Blk.new W0 #[.string ⟨#[]⟩, .string ⟨#[]⟩] 46
                    obtain ⟨bs, hbs⟩ : ∃ bs, bs = W0.heap.size := ⟨_, rfl⟩
                    have hge : W0.heap.size ≤ bs := by rw [hbs]; exact HX.out.size
                    have HX := Lib.hid (HX.out.alloc HX.out.size (.cells #[.string ⟨#[]⟩, .string ⟨#[]⟩] 46))
                    rw [← hbs] at gb ⊢
                    clear hbs
                    generalize W0.alloc (.cells #[.string ⟨#[]⟩, .string ⟨#[]⟩] 46) = va_0 at gb HX hCells ⊢
                    try simp only [Act.put, List.setIfInBounds_toArray, List.set_cons_zero, List.set_cons_succ]
                    refine oneJ 1 (by kernel_rfl) rfl (fun K hK => ?_)
                    go_simp
                    refine ⟨rfl, ?_⟩
                    refine (callsIn_wide.2 (of12 _ (HE.out.2.1.1.below HX.out (Nat.le_refl _)))).mono ?_
                    rintro e v1_1 ⟨rfl, hv⟩
                    refine hK.out _ _ (holdJ ?_ (fun hCells => ?_))
                    · clear hK; (try dsimp only); exact ⟨pc hv hCells.1, pc hv hCells.2⟩
                    clear hK K
                    have HX := Lib.hid (HX.out.trans (hv.mono HX.out.size))
                    have gb := gb.pass hv
                    clear hv
                    try simp only [Act.put, List.setIfInBounds_toArray, List.set_cons_zero, List.set_cons_succ]
                    refine oneJ 2 (by kernel_rfl) rfl (fun K hK => ?_)
                    go_simp
                    refine ⟨rfl, ?_⟩
                    refine (callsIn_wide.2 ((mul_q bo (mkRat 1 2) HMU.out.1 half_ok.1 HMU.out.2 (HE.out.2.1.1.below HX.out (Nat.le_refl _))).mono (fun _ _ h => got_r HMU.out.2 h))).mono ?_
                    rintro e v2_2 ⟨hf, ⟨rfl, hr0, ok0⟩, hv⟩
                    have HRR := Lib.hid (And.intro hr0 ok0)
                    clear hr0 ok0
                    refine hK.out _ _ (holdJ ?_ (fun hCells => ?_))
                    · clear hK; (try dsimp only); exact ⟨pc hv hCells.1, pc hv hCells.2⟩
                    clear hK K
                    have HX := Lib.hid (HX.out.trans (hv.mono HX.out.size))
                    have gb := gb.pass hv
                    clear hv
                    try simp only [Act.put, List.setIfInBounds_toArray, List.set_cons_zero, List.set_cons_succ]
                    refine takeB hfnR (by kernel_rfl) 3 (v := ?_) rfl (by kernel_rfl) (fun _ _ _ h => h) (by kernel_rfl) hCells (Or.inl ⟨by rfl, ?_⟩) ?_
                    rotate_left 1
                    · intro w hSw; (try dsimp only at hSw); go_simp; (try with_reducible rfl)
                    try simp only [Act.put, List.setIfInBounds_toArray, List.set_cons_zero, List.set_cons_succ]
                    refine takeB hfnR (by kernel_rfl) 4 (v := ?_) rfl (by kernel_rfl) (fun _ _ _ h => h) (by kernel_rfl) hCells (Or.inl ⟨by rfl, ?_⟩) ?_
                    rotate_left 1
                    · intro w hSw; (try dsimp only at hSw); go_simp; (try with_reducible rfl)
                    try simp only [Act.put, List.setIfInBounds_toArray, List.set_cons_zero, List.set_cons_succ]
                    refine takeB hfnR (by kernel_rfl) 5 (v := ?_) rfl (by kernel_rfl) (fun _ _ _ h => h) (by kernel_rfl) hCells (Or.inl ⟨by rfl, ?_⟩) ?_
                    rotate_left 1
                    · intro w hSw; (try dsimp only at hSw); go_simp; (try with_reducible rfl)
                    try simp only [Act.put, List.setIfInBounds_toArray, List.set_cons_zero, List.set_cons_succ]
                    obtain ⟨⟨r0, r1⟩, f0, f1⟩ := gb.two
                    refine oneJ 7 (by kernel_rfl) rfl (fun K hK => ?_)
                    go_simp
                    refine hK.out _ _ (holdJ ?_ (fun hCells => ?_))
                    · clear hK; (try dsimp only); exact ⟨far2 hCells.1 (by omega), far2 hCells.2 (by omega)⟩
                    clear hK K r0 r1 f0 f1
                    try simp only [Act.put, List.setIfInBounds_toArray, List.set_cons_zero, List.set_cons_succ]
                    refine takeB hfnR (by kernel_rfl) 8 (v := ?_) rfl (by kernel_rfl) (fun _ _ _ h => h) (by kernel_rfl) hCells (Or.inl ⟨by rfl, ?_⟩) ?_
                    rotate_left 1
                    · intro w hSw; (try dsimp only at hSw); go_simp; (try with_reducible rfl)
                    try simp only [Act.put, List.setIfInBounds_toArray, List.set_cons_zero, List.set_cons_succ]
                    refine wpAnyJ_done (by kernel_rfl) (NoPan.normal ?_) _
                    refine ⟨rfl, bs, hf, ?_, HRR.out, (gb.set 0 _).set 1 _, by rw [hn0]; exact (HX.out.setCell (p := ⟨bs, 0, none⟩) hge _).setCell (p := ⟨bs, 1, none⟩) hge _, by rw [hn0]; exact hge⟩
                    simp only [Act.put, List.setIfInBounds_toArray, List.set_cons_zero, List.set_cons_succ]
                · rintro a2 W14 ⟨b14, hf, rfl, hfact, gh, hX, hge⟩
                  have HHF := Lib.hid hfact
                  rw [hn0] at hX
                  have ga := ga.below hX ga.lt
                  have gc := gc.below hX gc.lt
                  have gx := gx.below hX gx.lt
                  have gy := gy.below hX gy.lt
                  have gs := gs.below hX gs.lt
                  have gm := gm.below hX gm.lt
                  have gz := gz.below hX gz.lt
                  have gb2 := gb2.below hX gb2.lt
                  have HB := Lib.hid (HB.out.trans (hX.mono HB.out.size))
                  have HE := Lib.hid (HE.out.pass hX)
                  clear HX hX hge hsrc hfact hn0
                  simp only [Act.put, List.setIfInBounds_toArray, List.set_cons_zero, List.set_cons_succ]
                  have HCM := Lib.hid (show x ≤ y ∧ y ≤ mkRat 1 1 ∧ hf ≤ z by
                    refine ⟨chance_mono PK.out.cv HXX.out.1 HYY.out.1 HLE.out, by rw [one_eq']; exact chance_top PK.out.cv HYY.out.1, ?_⟩
                    rw [HHF.out.1, HBB.out.1]
                    exact chance_mid PK.out.cv HXX.out.1 HYY.out.1 (by rw [← HS.out.1, ← HMM.out.1]; exact HZZ.out.1))
                  have HK := Lib.hid ((Kept.of (Nat.le_refl _) HB.out.size HB.out).drew)
                  have HX := Lib.hid ((Below.refl W14.heap.size W14).drew)
                  obtain ⟨i0, hi0⟩ : ∃ i, i = w8.heap.size := ⟨_, rfl⟩
                  obtain ⟨i1, hi1⟩ : ∃ i, i = w9.heap.size := ⟨_, rfl⟩
                  obtain ⟨i2, hi2⟩ : ∃ i, i = b14 := ⟨_, rfl⟩
                  obtain ⟨i3, hi3⟩ : ∃ i, i = w12.heap.size := ⟨_, rfl⟩
                  have gq0 := gx; have gq1 := gy; have gq2 := gh; have gq3 := gz
                  rw [← hi0] at gq0
                  rw [← hi1] at gq1
                  rw [← hi2] at gq2
                  rw [← hi3] at gq3
                  go_wp2_with fail
                  refine wp_region_J (fun W => (W.cell? ⟨w8.heap.size, 0, none⟩ = some (.string (qN x)) ∧ W.cell? ⟨w8.heap.size, 1, none⟩ = some (.string (qD x))) ∧ (W.cell? ⟨w9.heap.size, 0, none⟩ = some (.string (qN y)) ∧ W.cell? ⟨w9.heap.size, 1, none⟩ = some (.string (qD y))) ∧ (W.cell? ⟨b14, 0, none⟩ = some (.string (qN hf)) ∧ W.cell? ⟨b14, 1, none⟩ = some (.string (qD hf))) ∧ (W.cell? ⟨w12.heap.size, 0, none⟩ = some (.string (qN z)) ∧ W.cell? ⟨w12.heap.size, 1, none⟩ = some (.string (qD z)))) [] hm ?hCells0 (fun hCells => ?_)
                  case hCells0 => exact ⟨gx.two.1, gy.two.1, gh.two.1, gz.two.1⟩
                  clear hi0 hi1 hi2 hi3 gq0 gq1 gq2 gq3
                  generalize W14.drew = W0 at HK HX hCells ⊢
                  refine takeB hfnR (by kernel_rfl) 0 (v := ?_) rfl (by kernel_rfl) (fun _ _ _ h => h) (by kernel_rfl) hCells (Or.inl ⟨by rfl, ?_⟩) ?_
                  rotate_left 1
                  · intro w hSw; (try dsimp only at hSw); go_simp; (try with_reducible rfl)
                  try simp only [Act.put, List.setIfInBounds_toArray, List.set_cons_zero, List.set_cons_succ]
                  refine takeB hfnR (by kernel_rfl) 1 (v := ?_) rfl (by kernel_rfl) (fun _ _ _ h => h) (by kernel_rfl) hCells (Or.inl ⟨by rfl, ?_⟩) ?_
                  rotate_left 1
                  · intro w hSw; (try dsimp only at hSw); go_simp; (try with_reducible rfl)
                  try simp only [Act.put, List.setIfInBounds_toArray, List.set_cons_zero, List.set_cons_succ]
                  refine takeB hfnR (by kernel_rfl) 2 (v := ?_) rfl (by kernel_rfl) (fun _ _ _ h => h) (by kernel_rfl) hCells (Or.inl ⟨by rfl, ?_⟩) ?_
                  rotate_left 1
                  · intro w hSw; (try dsimp only at hSw); go_simp; (try with_reducible rfl)
                  try simp only [Act.put, List.setIfInBounds_toArray, List.set_cons_zero, List.set_cons_succ]
                  refine takeB hfnR (by kernel_rfl) 3 (v := ?_) rfl (by kernel_rfl) (fun _ _ _ h => h) (by kernel_rfl) hCells (Or.inl ⟨by rfl, ?_⟩) ?_
                  rotate_left 1
                  · intro w hSw; (try dsimp only at hSw); go_simp; (try with_reducible rfl)
                  try simp only [Act.put, List.setIfInBounds_toArray, List.set_cons_zero, List.set_cons_succ]
                  refine takeB hfnR (by kernel_rfl) 4 (v := ?_) rfl (by kernel_rfl) (fun _ _ _ h => h) (by kernel_rfl) hCells (Or.inl ⟨by rfl, ?_⟩) ?_
                  rotate_left 1
                  · intro w hSw; (try dsimp only at hSw); go_simp; (try with_reducible rfl)
                  try simp only [Act.put, List.setIfInBounds_toArray, List.set_cons_zero, List.set_cons_succ]
                  refine takeB hfnR (by kernel_rfl) 5 (v := ?_) rfl (by kernel_rfl) (fun _ _ _ h => h) (by kernel_rfl) hCells (Or.inl ⟨by rfl, ?_⟩) ?_
                  rotate_left 1
                  · intro w hSw; (try dsimp only at hSw); go_simp; (try with_reducible rfl)
                  try simp only [Act.put, List.setIfInBounds_toArray, List.set_cons_zero, List.set_cons_succ]
                  refine takeB hfnR (by kernel_rfl) 6 (v := ?_) rfl (by kernel_rfl) (fun _ _ _ h => h) (by kernel_rfl) hCells (Or.inl ⟨by rfl, ?_⟩) ?_
                  rotate_left 1
                  · intro w hSw; (try dsimp only at hSw); go_simp; (try with_reducible rfl)
                  try simp only [Act.put, List.setIfInBounds_toArray, List.set_cons_zero, List.set_cons_succ]
                  refine takeB hfnR (by kernel_rfl) 7 (v := ?_) rfl (by kernel_rfl) (fun _ _ _ h => h) (by kernel_rfl) hCells (Or.inl ⟨by rfl, ?_⟩) ?_
                  rotate_left 1
                  · intro w hSw; (try dsimp only at hSw); go_simp; (try with_reducible rfl)
                  try simp only [Act.put, List.setIfInBounds_toArray, List.set_cons_zero, List.set_cons_succ]
                  refine takeB hfnR (by kernel_rfl) 8 (v := ?_) rfl (by kernel_rfl) (fun _ _ _ h => h) (by kernel_rfl) hCells (Or.inl ⟨by rfl, ?_⟩) ?_
                  rotate_left 1
                  · intro w hSw; (try dsimp only at hSw); go_simp; (try with_reducible rfl)
                  try simp only [Act.put, List.setIfInBounds_toArray, List.set_cons_zero, List.set_cons_succ]
                  refine takeB hfnR (by kernel_rfl) 9 (v := ?_) rfl (by kernel_rfl) (fun _ _ _ h => h) (by kernel_rfl) hCells (Or.inl ⟨by rfl, ?_⟩) ?_
                  rotate_left 1
                  · intro w hSw; (try dsimp only at hSw); go_simp; (try with_reducible rfl)
                  try simp only [Act.put, List.setIfInBounds_toArray, List.set_cons_zero, List.set_cons_succ]
                  refine takeB hfnR (by kernel_rfl) 10 (v := ?_) rfl (by kernel_rfl) (fun _ _ _ h => h) (by kernel_rfl) hCells (Or.inl ⟨by rfl, ?_⟩) ?_
                  rotate_left 1
                  · intro w hSw; (try dsimp only at hSw); go_simp; (try with_reducible rfl)
                  try simp only [Act.put, List.setIfInBounds_toArray, List.set_cons_zero, List.set_cons_succ]
                  refine takeB hfnR (by kernel_rfl) 11 (v := ?_) rfl (by kernel_rfl) (fun _ _ _ h => h) (by kernel_rfl) hCells (Or.inl ⟨by rfl, ?_⟩) ?_
                  rotate_left 1
                  · intro w hSw; (try dsimp only at hSw); go_simp; (try with_reducible rfl)
                  try simp only [Act.put, List.setIfInBounds_toArray, List.set_cons_zero, List.set_cons_succ]
                  refine takeB hfnR (by kernel_rfl) 12 (v := ?_) rfl (by kernel_rfl) (fun _ _ _ h => h) (by kernel_rfl) hCells (Or.inl ⟨by rfl, ?_⟩) ?_
                  rotate_left 1
                  · intro w hSw; (try dsimp only at hSw); go_simp; (try with_reducible rfl)
                  try simp only [Act.put, List.setIfInBounds_toArray, List.set_cons_zero, List.set_cons_succ]
                  refine takeB hfnR (by kernel_rfl) 13 (v := ?_) rfl (by kernel_rfl) (fun _ _ _ h => h) (by kernel_rfl) hCells (Or.inl ⟨by rfl, ?_⟩) ?_
                  rotate_left 1
                  · intro w hSw; (try dsimp only at hSw); go_simp; (try with_reducible rfl)
                  try simp only [Act.put, List.setIfInBounds_toArray, List.set_cons_zero, List.set_cons_succ]
                  refine takeB hfnR (by kernel_rfl) 14 (v := ?_) rfl (by kernel_rfl) (fun _ _ _ h => h) (by kernel_rfl) hCells (Or.inl ⟨by rfl, ?_⟩) ?_
                  rotate_left 1
                  · intro w hSw; (try dsimp only at hSw); go_simp; (try with_reducible rfl)
                  try simp only [Act.put, List.setIfInBounds_toArray, List.set_cons_zero, List.set_cons_succ]
                  refine takeB hfnR (by kernel_rfl) 15 (v := ?_) rfl (by kernel_rfl) (fun _ _ _ h => h) (by kernel_rfl) hCells (Or.inl ⟨by rfl, ?_⟩) ?_
                  rotate_left 1
                  · intro w hSw; (try dsimp only at hSw); go_simp; (try with_reducible rfl)
                  try simp only [Act.put, List.setIfInBounds_toArray, List.set_cons_zero, List.set_cons_succ]
                  refine takeB hfnR (by kernel_rfl) 16 (v := ?_) rfl (by kernel_rfl) (fun _ _ _ h => h) (by kernel_rfl) hCells (Or.inl ⟨by rfl, ?_⟩) ?_
                  rotate_left 1
                  · intro w hSw; (try dsimp only at hSw); go_simp; (try with_reducible rfl)
                  try simp only [Act.put, List.setIfInBounds_toArray, List.set_cons_zero, List.set_cons_succ]
                  refine takeB hfnR (by kernel_rfl) 17 (v := ?_) rfl (by kernel_rfl) (fun _ _ _ h => h) (by kernel_rfl) hCells (Or.inl ⟨by rfl, ?_⟩) ?_
                  rotate_left 1
                  · intro w hSw; (try dsimp only at hSw); go_simp; (try with_reducible rfl)
                  try simp only [Act.put, List.setIfInBounds_toArray, List.set_cons_zero, List.set_cons_succ]
                  refine takeB hfnR (by kernel_rfl) 18 (v := ?_) rfl (by kernel_rfl) (fun _ _ _ h => h) (by kernel_rfl) hCells (Or.inl ⟨by rfl, ?_⟩) ?_
                  rotate_left 1
                  · intro w hSw; (try dsimp only at hSw); go_simp; (try with_reducible rfl)
                  try simp only [Act.put, List.setIfInBounds_toArray, List.set_cons_zero, List.set_cons_succ]
                  refine takeB hfnR (by kernel_rfl) 19 (v := ?_) rfl (by kernel_rfl) (fun _ _ _ h => h) (by kernel_rfl) hCells (Or.inl ⟨by rfl, ?_⟩) ?_
                  rotate_left 1
                  · intro w hSw; (try dsimp only at hSw); go_simp; (try with_reducible rfl)
                  try simp only [Act.put, List.setIfInBounds_toArray, List.set_cons_zero, List.set_cons_succ]
                  refine takeB hfnR (by kernel_rfl) 20 (v := ?_) rfl (by kernel_rfl) (fun _ _ _ h => h) (by kernel_rfl) hCells (Or.inl ⟨by rfl, ?_⟩) ?_
                  rotate_left 1
                  · intro w hSw; (try dsimp only at hSw); go_simp; (try with_reducible rfl)
                  try simp only [Act.put, List.setIfInBounds_toArray, List.set_cons_zero, List.set_cons_succ]
                  refine takeB hfnR (by kernel_rfl) 21 (v := ?_) rfl (by kernel_rfl) (fun _ _ _ h => h) (by kernel_rfl) hCells (Or.inl ⟨by rfl, ?_⟩) ?_
                  rotate_left 1
                  · intro w hSw; (try dsimp only at hSw); go_simp; (try with_reducible rfl)
                  try simp only [Act.put, List.setIfInBounds_toArray, List.set_cons_zero, List.set_cons_succ]
                  refine takeB hfnR (by kernel_rfl) 22 (v := ?_) rfl (by kernel_rfl) (fun _ _ _ h => h) (by kernel_rfl) hCells (Or.inl ⟨by rfl, ?_⟩) ?_
                  rotate_left 1
                  · intro w hSw; (try dsimp only at hSw); go_simp; (try with_reducible rfl)
                  try simp only [Act.put, List.setIfInBounds_toArray, List.set_cons_zero, List.set_cons_succ]
                  refine takeB hfnR (by kernel_rfl) 23 (v := ?_) rfl (by kernel_rfl) (fun _ _ _ h => h) (by kernel_rfl) hCells (Or.inl ⟨by rfl, ?_⟩) ?_
                  rotate_left 1
                  · intro w hSw; (try dsimp only at hSw); go_simp; (try with_reducible rfl)
                  try simp only [Act.put, List.setIfInBounds_toArray, List.set_cons_zero, List.set_cons_succ]
                  refine takeB hfnR (by kernel_rfl) 24 (v := ?_) rfl (by kernel_rfl) (fun _ _ _ h => h) (by kernel_rfl) hCells (Or.inl ⟨by rfl, ?_⟩) ?_
                  rotate_left 1
                  · intro w hSw; (try dsimp only at hSw); go_simp; (try with_reducible rfl)
                  try simp only [Act.put, List.setIfInBounds_toArray, List.set_cons_zero, List.set_cons_succ]
                  refine takeB hfnR (by kernel_rfl) 25 (v := ?_) rfl (by kernel_rfl) (fun _ _ _ h => h) (by kernel_rfl) hCells (Or.inl ⟨by rfl, ?_⟩) ?_
                  rotate_left 1
                  · intro w hSw; (try dsimp only at hSw); go_simp; (try with_reducible rfl)
                  try simp only [Act.put, List.setIfInBounds_toArray, List.set_cons_zero, List.set_cons_succ]
                  refine takeB hfnR (by kernel_rfl) 26 (v := ?_) rfl (by kernel_rfl) (fun _ _ _ h => h) (by kernel_rfl) hCells (Or.inl ⟨by rfl, ?_⟩) ?_
                  rotate_left 1
                  · intro w hSw; (try dsimp only at hSw); go_simp; (try with_reducible rfl)
                  try simp only [Act.put, List.setIfInBounds_toArray, List.set_cons_zero, List.set_cons_succ]
                  refine takeB hfnR (by kernel_rfl) 27 (v := ?_) rfl (by kernel_rfl) (fun _ _ _ h => h) (by kernel_rfl) hCells (Or.inl ⟨by rfl, ?_⟩) ?_
                  rotate_left 1
                  · intro w hSw; (try dsimp only at hSw); go_simp; (try with_reducible rfl)
                  try simp only [Act.put, List.setIfInBounds_toArray, List.set_cons_zero, List.set_cons_succ]
                  refine takeB hfnR (by kernel_rfl) 28 (v := ?_) rfl (by kernel_rfl) (fun _ _ _ h => h) (by kernel_rfl) hCells (Or.inl ⟨by rfl, ?_⟩) ?_
                  rotate_left 1
                  · intro w hSw; (try dsimp only at hSw); go_simp; (try with_reducible rfl)
                  try simp only [Act.put, List.setIfInBounds_toArray, List.set_cons_zero, List.set_cons_succ]
                  have hle0 : ¬ 0 < cmpQ x y := Int.not_lt.2 (cmp_notgt HCM.out.1)
                  refine oneJ 29 (by kernel_rfl) rfl (fun K hK => ?_)
                  go_simp
                  refine ⟨rfl, ?_⟩
                  (refine (callsIn_wide.2 (cmp_q x y HXX.out.2 HYY.out.2 _)).mono ?_; rintro e u0 ⟨rfl, hv⟩)
                  refine hK.out _ _ (holdJ ?_ (fun hCells => ?_))
                  · clear hK; (try dsimp only); (exact ⟨⟨pc hv hCells.1.1, pc hv hCells.1.2⟩, ⟨pc hv hCells.2.1.1, pc hv hCells.2.1.2⟩, ⟨pc hv hCells.2.2.1.1, pc hv hCells.2.2.1.2⟩, pc hv hCells.2.2.2.1, pc hv hCells.2.2.2.2⟩)
                  clear hK K
                  try simp only [Act.put, List.setIfInBounds_toArray, List.set_cons_zero, List.set_cons_succ]
                  have HX := Lib.hid (HX.out.trans (hv.mono HX.out.size))
                  clear hv
                  generalize cmpQ x y = cv0 at hle0 ⊢
                  refine takeB hfnR (by kernel_rfl) 30 (v := ?_) rfl (by kernel_rfl) (fun _ _ _ h => h) (by kernel_rfl) hCells (Or.inl ⟨by rfl, ?_⟩) ?_
                  rotate_left 1
                  · intro w hSw; (try dsimp only at hSw); go_simp; (try with_reducible rfl)
                  try simp only [Act.put, List.setIfInBounds_toArray, List.set_cons_zero, List.set_cons_succ]
                  refine takeB hfnR (by kernel_rfl) 31 (v := ?_) rfl (by kernel_rfl) (fun _ _ _ h => h) (by kernel_rfl) hCells (Or.inl ⟨by rfl, ?_⟩) ?_
                  rotate_left 1
                  · intro w hSw; (try dsimp only at hSw); go_simp; (try with_reducible rfl)
                  try simp only [Act.put, List.setIfInBounds_toArray, List.set_cons_zero, List.set_cons_succ]
                  refine takeB hfnR (by kernel_rfl) 32 (v := ?_) rfl (by kernel_rfl) (fun _ _ _ h => h) (by kernel_rfl) hCells (Or.inl ⟨by rfl, ?_⟩) ?_
                  rotate_left 1
                  · intro w hSw; (try dsimp only at hSw); go_simp; (try with_reducible rfl)
                  try simp only [Act.put, List.setIfInBounds_toArray, List.set_cons_zero, List.set_cons_succ]
                  refine takeB hfnR (by kernel_rfl) 33 (v := ?_) rfl (by kernel_rfl) (fun _ _ _ h => h) (by kernel_rfl) hCells (Or.inl ⟨by rfl, ?_⟩) ?_
                  rotate_left 1
                  · intro w hSw; (try dsimp only at hSw); go_simp; (try with_reducible rfl)
                  try simp only [Act.put, List.setIfInBounds_toArray, List.set_cons_zero, List.set_cons_succ]
                  clear hle0
                  refine oneJ 34 (by kernel_rfl) rfl (fun K hK => ?_)
                  go_simp
                  refine ⟨rfl, ?_⟩
                  (refine (callsIn_wide.2 (of11 _ (HE.out.2.1.1.below HX.out (Nat.le_refl _)))).mono ?_; rintro e u1 ⟨rfl, hv⟩)
                  refine hK.out _ _ (holdJ ?_ (fun hCells => ?_))
                  · clear hK; (try dsimp only); (exact ⟨⟨pc hv hCells.1.1, pc hv hCells.1.2⟩, ⟨pc hv hCells.2.1.1, pc hv hCells.2.1.2⟩, ⟨pc hv hCells.2.2.1.1, pc hv hCells.2.2.1.2⟩, pc hv hCells.2.2.2.1, pc hv hCells.2.2.2.2⟩)
                  clear hK K
                  try simp only [Act.put, List.setIfInBounds_toArray, List.set_cons_zero, List.set_cons_succ]
                  have HX := Lib.hid (HX.out.trans (hv.mono HX.out.size))
                  clear hv
                  have hle1 : ¬ 0 < cmpQ y (mkRat 1 1) := Int.not_lt.2 (cmp_notgt HCM.out.2.1)
                  refine oneJ 35 (by kernel_rfl) rfl (fun K hK => ?_)
                  go_simp
                  refine ⟨rfl, ?_⟩
                  (refine (callsIn_wide.2 (cmp_q y (mkRat 1 1) HYY.out.2 one_ok' _)).mono ?_; rintro e u2 ⟨rfl, hv⟩)
                  refine hK.out _ _ (holdJ ?_ (fun hCells => ?_))
                  · clear hK; (try dsimp only); (exact ⟨⟨pc hv hCells.1.1, pc hv hCells.1.2⟩, ⟨pc hv hCells.2.1.1, pc hv hCells.2.1.2⟩, ⟨pc hv hCells.2.2.1.1, pc hv hCells.2.2.1.2⟩, pc hv hCells.2.2.2.1, pc hv hCells.2.2.2.2⟩)
                  clear hK K
                  try simp only [Act.put, List.setIfInBounds_toArray, List.set_cons_zero, List.set_cons_succ]
                  have HX := Lib.hid (HX.out.trans (hv.mono HX.out.size))
                  clear hv
                  generalize cmpQ y (mkRat 1 1) = cv1 at hle1 ⊢
                  refine takeB hfnR (by kernel_rfl) 36 (v := ?_) rfl (by kernel_rfl) (fun _ _ _ h => h) (by kernel_rfl) hCells (Or.inl ⟨by rfl, ?_⟩) ?_
                  rotate_left 1
                  · intro w hSw; (try dsimp only at hSw); go_simp; (try with_reducible rfl)
                  try simp only [Act.put, List.setIfInBounds_toArray, List.set_cons_zero, List.set_cons_succ]
                  refine takeB hfnR (by kernel_rfl) 37 (v := ?_) rfl (by kernel_rfl) (fun _ _ _ h => h) (by kernel_rfl) hCells (Or.inl ⟨by rfl, ?_⟩) ?_
                  rotate_left 1
                  · intro w hSw; (try dsimp only at hSw); go_simp; (try with_reducible rfl)
                  try simp only [Act.put, List.setIfInBounds_toArray, List.set_cons_zero, List.set_cons_succ]
                  refine takeB hfnR (by kernel_rfl) 38 (v := ?_) rfl (by kernel_rfl) (fun _ _ _ h => h) (by kernel_rfl) hCells (Or.inl ⟨by rfl, ?_⟩) ?_
                  rotate_left 1
                  · intro w hSw; (try dsimp only at hSw); go_simp; (try with_reducible rfl)
                  try simp only [Act.put, List.setIfInBounds_toArray, List.set_cons_zero, List.set_cons_succ]
                  refine takeB hfnR (by kernel_rfl) 39 (v := ?_) rfl (by kernel_rfl) (fun _ _ _ h => h) (by kernel_rfl) hCells (Or.inl ⟨by rfl, ?_⟩) ?_
                  rotate_left 1
                  · intro w hSw; (try dsimp only at hSw); go_simp; (try with_reducible rfl)
                  try simp only [Act.put, List.setIfInBounds_toArray, List.set_cons_zero, List.set_cons_succ]
                  refine takeB hfnR (by kernel_rfl) 40 (v := ?_) rfl (by kernel_rfl) (fun _ _ _ h => h) (by kernel_rfl) hCells (Or.inl ⟨by rfl, ?_⟩) ?_
                  rotate_left 1
                  · intro w hSw; (try dsimp only at hSw); go_simp; (try with_reducible rfl)
                  try simp only [Act.put, List.setIfInBounds_toArray, List.set_cons_zero, List.set_cons_succ]
                  clear hle1
                  have hle2 : ¬ 0 < cmpQ hf z := Int.not_lt.2 (cmp_notgt HCM.out.2.2)
                  refine oneJ 41 (by kernel_rfl) rfl (fun K hK => ?_)
                  go_simp
                  refine ⟨rfl, ?_⟩
                  (refine (callsIn_wide.2 (cmp_q hf z HHF.out.2 HZZ.out.2 _)).mono ?_; rintro e u3 ⟨rfl, hv⟩)
                  refine hK.out _ _ (holdJ ?_ (fun hCells => ?_))
                  · clear hK; (try dsimp only); (exact ⟨⟨pc hv hCells.1.1, pc hv hCells.1.2⟩, ⟨pc hv hCells.2.1.1, pc hv hCells.2.1.2⟩, ⟨pc hv hCells.2.2.1.1, pc hv hCells.2.2.1.2⟩, pc hv hCells.2.2.2.1, pc hv hCells.2.2.2.2⟩)
                  clear hK K
                  try simp only [Act.put, List.setIfInBounds_toArray, List.set_cons_zero, List.set_cons_succ]
                  have HX := Lib.hid (HX.out.trans (hv.mono HX.out.size))
                  clear hv
                  generalize cmpQ hf z = cv2 at hle2 ⊢
                  refine takeB hfnR (by kernel_rfl) 42 (v := ?_) rfl (by kernel_rfl) (fun _ _ _ h => h) (by kernel_rfl) hCells (Or.inl ⟨by rfl, ?_⟩) ?_
                  rotate_left 1
                  · intro w hSw; (try dsimp only at hSw); go_simp; (try with_reducible rfl)
                  try simp only [Act.put, List.setIfInBounds_toArray, List.set_cons_zero, List.set_cons_succ]
                  refine takeB hfnR (by kernel_rfl) 43 (v := ?_) rfl (by kernel_rfl) (fun _ _ _ h => h) (by kernel_rfl) hCells (Or.inl ⟨by rfl, ?_⟩) ?_
                  rotate_left 1
                  · intro w hSw; (try dsimp only at hSw); go_simp; (try with_reducible rfl)
                  try simp only [Act.put, List.setIfInBounds_toArray, List.set_cons_zero, List.set_cons_succ]
                  clear hle2
                  refine wpAnyJ_done (by kernel_rfl) (NoPan.normal ?_) _
                  clear hCells
                  have ga := ga.below HX.out ga.lt
                  have gc := gc.below HX.out gc.lt
                  have gx := gx.below HX.out gx.lt
                  have gy := gy.below HX.out gy.lt
                  have gs := gs.below HX.out gs.lt
                  have gm := gm.below HX.out gm.lt
                  have gz := gz.below HX.out gz.lt
                  have gb2 := gb2.below HX.out gb2.lt
                  have gh := gh.below HX.out gh.lt
                  have HB := Lib.hid (HB.out.trans (HX.out.mono HB.out.size))
                  have HE := Lib.hid (HE.out.pass HX.out)
                  obtain ⟨⟨c0_0, c0_1⟩, _, _⟩ := ga.two
                  go_wp2_with fail
                  refine (TL.out _ HE.out p PK.out.pp.1 (PK.out.pp.2.mono (by decide))).mono ?_
                  rintro e w41 ⟨sa, ⟨rfl, hr0, ok0⟩, hb41⟩
                  have HSA := Lib.hid (And.intro hr0 ok0)
                  clear c0_0 c0_1
                  have HB := Lib.hid (HB.out.trans (hb41.mono HB.out.size))
                  have HE := Lib.hid (HE.out.pass hb41)
                  have ga := ga.pass hb41
                  have gc := gc.pass hb41
                  have gx := gx.pass hb41
                  have gy := gy.pass hb41
                  have gs := gs.pass hb41
                  have gm := gm.pass hb41
                  have gz := gz.pass hb41
                  have gb2 := gb2.pass hb41
                  have gh := gh.pass hb41
                  clear hb41 hr0 ok0
                  have HB := Lib.hid (HB.out.alloc HB.out.size (.cells #[.string (qN sa), .string (qD sa)] 46))
                  have HE := Lib.hid (HE.out.alloc (.cells #[.string (qN sa), .string (qD sa)] 46))
                  have ga := ga.alloc (.cells #[.string (qN sa), .string (qD sa)] 46)
                  have gc := gc.alloc (.cells #[.string (qN sa), .string (qD sa)] 46)
                  have gx := gx.alloc (.cells #[.string (qN sa), .string (qD sa)] 46)
                  have gy := gy.alloc (.cells #[.string (qN sa), .string (qD sa)] 46)
                  have gs := gs.alloc (.cells #[.string (qN sa), .string (qD sa)] 46)
                  have gm := gm.alloc (.cells #[.string (qN sa), .string (qD sa)] 46)
                  have gz := gz.alloc (.cells #[.string (qN sa), .string (qD sa)] 46)
                  have gb2 := gb2.alloc (.cells #[.string (qN sa), .string (qD sa)] 46)
                  have gh := gh.alloc (.cells #[.string (qN sa), .string (qD sa)] 46)
                  have gsa := Blk.new w41 #[.string (qN sa), .string (qD sa)] 46
                  obtain ⟨⟨c0_0, c0_1⟩, _, _⟩ := gc.two
                  go_wp2_with fail
                  refine (TL.out _ HE.out q PK.out.qq.1 (PK.out.qq.2.mono (by decide))).mono ?_
                  rintro e w42 ⟨ta, ⟨rfl, hr0, ok0⟩, hb42⟩
                  have HTA := Lib.hid (And.intro hr0 ok0)
                  clear c0_0 c0_1
                  have HB := Lib.hid (HB.out.trans (hb42.mono HB.out.size))
                  have HE := Lib.hid (HE.out.pass hb42)
                  have ga := ga.pass hb42
                  have gc := gc.pass hb42
                  have gx := gx.pass hb42
                  have gy := gy.pass hb42
                  have gs := gs.pass hb42
                  have gm := gm.pass hb42
                  have gz := gz.pass hb42
                  have gb2 := gb2.pass hb42
                  have gh := gh.pass hb42
                  have gsa := gsa.pass hb42
                  clear hb42 hr0 ok0
                  have HB := Lib.hid (HB.out.alloc HB.out.size (.cells #[.string (qN ta), .string (qD ta)] 46))
                  have HE := Lib.hid (HE.out.alloc (.cells #[.string (qN ta), .string (qD ta)] 46))
                  have ga := ga.alloc (.cells #[.string (qN ta), .string (qD ta)] 46)
                  have gc := gc.alloc (.cells #[.string (qN ta), .string (qD ta)] 46)
                  have gx := gx.alloc (.cells #[.string (qN ta), .string (qD ta)] 46)
                  have gy := gy.alloc (.cells #[.string (qN ta), .string (qD ta)] 46)
                  have gs := gs.alloc (.cells #[.string (qN ta), .string (qD ta)] 46)
                  have gm := gm.alloc (.cells #[.string (qN ta), .string (qD ta)] 46)
                  have gz := gz.alloc (.cells #[.string (qN ta), .string (qD ta)] 46)
                  have gb2 := gb2.alloc (.cells #[.string (qN ta), .string (qD ta)] 46)
                  have gh := gh.alloc (.cells #[.string (qN ta), .string (qD ta)] 46)
                  have gsa := gsa.alloc (.cells #[.string (qN ta), .string (qD ta)] 46)
                  have gta := Blk.new w42 #[.string (qN ta), .string (qD ta)] 46
                  obtain ⟨⟨c0_0, c0_1⟩, _, _⟩ := ga.two
                  obtain ⟨⟨c1_0, c1_1⟩, _, _⟩ := gc.two
                  go_wp2_with fail
                  have HWO := Lib.hid (PK.out.way HLE.out)
                  refine ((sub_q q p PK.out.qq.1 PK.out.pp.1 HWO.out.1 HE.out.2.1.1).mono (fun _ _ h => got_r HWO.out.1 h)).mono ?_
                  rintro e w43 ⟨wy, ⟨rfl, hr0, ok0⟩, hb43⟩
                  have HWY := Lib.hid (And.intro hr0 ok0)
                  clear c0_0 c0_1 c1_0 c1_1
                  have HB := Lib.hid (HB.out.trans (hb43.mono HB.out.size))
                  have HE := Lib.hid (HE.out.pass hb43)
                  have ga := ga.pass hb43
                  have gc := gc.pass hb43
                  have gx := gx.pass hb43
                  have gy := gy.pass hb43
                  have gs := gs.pass hb43
                  have gm := gm.pass hb43
                  have gz := gz.pass hb43
                  have gb2 := gb2.pass hb43
                  have gh := gh.pass hb43
                  have gsa := gsa.pass hb43
                  have gta := gta.pass hb43
                  clear hb43 hr0 ok0
                  have HB := Lib.hid (HB.out.alloc HB.out.size (.cells #[.string (qN wy), .string (qD wy)] 46))
                  have HE := Lib.hid (HE.out.alloc (.cells #[.string (qN wy), .string (qD wy)] 46))
                  have ga := ga.alloc (.cells #[.string (qN wy), .string (qD wy)] 46)
                  have gc := gc.alloc (.cells #[.string (qN wy), .string (qD wy)] 46)
                  have gx := gx.alloc (.cells #[.string (qN wy), .string (qD wy)] 46)
                  have gy := gy.alloc (.cells #[.string (qN wy), .string (qD wy)] 46)
                  have gs := gs.alloc (.cells #[.string (qN wy), .string (qD wy)] 46)
                  have gm := gm.alloc (.cells #[.string (qN wy), .string (qD wy)] 46)
                  have gz := gz.alloc (.cells #[.string (qN wy), .string (qD wy)] 46)
                  have gb2 := gb2.alloc (.cells #[.string (qN wy), .string (qD wy)] 46)
                  have gh := gh.alloc (.cells #[.string (qN wy), .string (qD wy)] 46)
                  have gsa := gsa.alloc (.cells #[.string (qN wy), .string (qD wy)] 46)
                  have gta := gta.alloc (.cells #[.string (qN wy), .string (qD wy)] 46)
                  have gwy := Blk.new w43 #[.string (qN wy), .string (qD wy)] 46
                  obtain ⟨⟨c0_0, c0_1⟩, _, _⟩ := gx.two
                  obtain ⟨⟨c1_0, c1_1⟩, _, _⟩ := gy.two
                  go_wp2_with fail
                  have HRO := Lib.hid (PK.out.rise HLE.out HXX.out.1 HYY.out.1)
                  refine ((sub_q y x HYY.out.2 HXX.out.2 HRO.out HE.out.2.1.1).mono (fun _ _ h => got_r HRO.out h)).mono ?_
                  rintro e w44 ⟨ri, ⟨rfl, hr0, ok0⟩, hb44⟩
                  have HRI := Lib.hid (And.intro hr0 ok0)
                  clear c0_0 c0_1 c1_0 c1_1
                  have HB := Lib.hid (HB.out.trans (hb44.mono HB.out.size))
                  have HE := Lib.hid (HE.out.pass hb44)
                  have ga := ga.pass hb44
                  have gc := gc.pass hb44
                  have gx := gx.pass hb44
                  have gy := gy.pass hb44
                  have gs := gs.pass hb44
                  have gm := gm.pass hb44
                  have gz := gz.pass hb44
                  have gb2 := gb2.pass hb44
                  have gh := gh.pass hb44
                  have gsa := gsa.pass hb44
                  have gta := gta.pass hb44
                  have gwy := gwy.pass hb44
                  clear hb44 hr0 ok0
                  have HB := Lib.hid (HB.out.alloc HB.out.size (.cells #[.string (qN ri), .string (qD ri)] 46))
                  have HE := Lib.hid (HE.out.alloc (.cells #[.string (qN ri), .string (qD ri)] 46))
                  have ga := ga.alloc (.cells #[.string (qN ri), .string (qD ri)] 46)
                  have gc := gc.alloc (.cells #[.string (qN ri), .string (qD ri)] 46)
                  have gx := gx.alloc (.cells #[.string (qN ri), .string (qD ri)] 46)
                  have gy := gy.alloc (.cells #[.string (qN ri), .string (qD ri)] 46)
                  have gs := gs.alloc (.cells #[.string (qN ri), .string (qD ri)] 46)
                  have gm := gm.alloc (.cells #[.string (qN ri), .string (qD ri)] 46)
                  have gz := gz.alloc (.cells #[.string (qN ri), .string (qD ri)] 46)
                  have gb2 := gb2.alloc (.cells #[.string (qN ri), .string (qD ri)] 46)
                  have gh := gh.alloc (.cells #[.string (qN ri), .string (qD ri)] 46)
                  have gsa := gsa.alloc (.cells #[.string (qN ri), .string (qD ri)] 46)
                  have gta := gta.alloc (.cells #[.string (qN ri), .string (qD ri)] 46)
                  have gwy := gwy.alloc (.cells #[.string (qN ri), .string (qD ri)] 46)
                  have gri := Blk.new w44 #[.string (qN ri), .string (qD ri)] 46
                  obtain ⟨⟨c0_0, c0_1⟩, _, _⟩ := gsa.two
                  obtain ⟨⟨c1_0, c1_1⟩, _, _⟩ := gwy.two
                  go_wp2_with fail
                  have HP1 := Lib.hid (show okQ (sa * wy) by rw [HWY.out.1]; exact PK.out.prod HLE.out HSA.out.1)
                  refine ((mul_q sa wy HSA.out.2 HWY.out.2 HP1.out HE.out.2.1.1).mono (fun _ _ h => got_r HP1.out h)).mono ?_
                  rintro e w45 ⟨mo, ⟨rfl, hr0, ok0⟩, hb45⟩
                  have HMO := Lib.hid (And.intro hr0 ok0)
                  clear c0_0 c0_1 c1_0 c1_1
                  have HB := Lib.hid (HB.out.trans (hb45.mono HB.out.size))
                  have HE := Lib.hid (HE.out.pass hb45)
                  have ga := ga.pass hb45
                  have gc := gc.pass hb45
                  have gx := gx.pass hb45
                  have gy := gy.pass hb45
                  have gs := gs.pass hb45
                  have gm := gm.pass hb45
                  have gz := gz.pass hb45
                  have gb2 := gb2.pass hb45
                  have gh := gh.pass hb45
                  have gsa := gsa.pass hb45
                  have gta := gta.pass hb45
                  have gwy := gwy.pass hb45
                  have gri := gri.pass hb45
                  clear hb45 hr0 ok0
                  have HB := Lib.hid (HB.out.alloc HB.out.size (.cells #[.string (qN mo), .string (qD mo)] 46))
                  have HE := Lib.hid (HE.out.alloc (.cells #[.string (qN mo), .string (qD mo)] 46))
                  have ga := ga.alloc (.cells #[.string (qN mo), .string (qD mo)] 46)
                  have gc := gc.alloc (.cells #[.string (qN mo), .string (qD mo)] 46)
                  have gx := gx.alloc (.cells #[.string (qN mo), .string (qD mo)] 46)
                  have gy := gy.alloc (.cells #[.string (qN mo), .string (qD mo)] 46)
                  have gs := gs.alloc (.cells #[.string (qN mo), .string (qD mo)] 46)
                  have gm := gm.alloc (.cells #[.string (qN mo), .string (qD mo)] 46)
                  have gz := gz.alloc (.cells #[.string (qN mo), .string (qD mo)] 46)
                  have gb2 := gb2.alloc (.cells #[.string (qN mo), .string (qD mo)] 46)
                  have gh := gh.alloc (.cells #[.string (qN mo), .string (qD mo)] 46)
                  have gsa := gsa.alloc (.cells #[.string (qN mo), .string (qD mo)] 46)
                  have gta := gta.alloc (.cells #[.string (qN mo), .string (qD mo)] 46)
                  have gwy := gwy.alloc (.cells #[.string (qN mo), .string (qD mo)] 46)
                  have gri := gri.alloc (.cells #[.string (qN mo), .string (qD mo)] 46)
                  have gmo := Blk.new w45 #[.string (qN mo), .string (qD mo)] 46
                  obtain ⟨⟨c0_0, c0_1⟩, _, _⟩ := gta.two
                  obtain ⟨⟨c1_0, c1_1⟩, _, _⟩ := gwy.two
                  go_wp2_with fail
                  have HP2 := Lib.hid (show okQ (ta * wy) by rw [HWY.out.1]; exact PK.out.prod HLE.out HTA.out.1)
                  refine ((mul_q ta wy HTA.out.2 HWY.out.2 HP2.out HE.out.2.1.1).mono (fun _ _ h => got_r HP2.out h)).mono ?_
                  rintro e w46 ⟨le, ⟨rfl, hr0, ok0⟩, hb46⟩
                  have HLL := Lib.hid (And.intro hr0 ok0)
                  clear c0_0 c0_1 c1_0 c1_1
                  have HB := Lib.hid (HB.out.trans (hb46.mono HB.out.size))
                  have HE := Lib.hid (HE.out.pass hb46)
                  have ga := ga.pass hb46
                  have gc := gc.pass hb46
                  have gx := gx.pass hb46
                  have gy := gy.pass hb46
                  have gs := gs.pass hb46
                  have gm := gm.pass hb46
                  have gz := gz.pass hb46
                  have gb2 := gb2.pass hb46
                  have gh := gh.pass hb46
                  have gsa := gsa.pass hb46
                  have gta := gta.pass hb46
                  have gwy := gwy.pass hb46
                  have gri := gri.pass hb46
                  have gmo := gmo.pass hb46
                  clear hb46 hr0 ok0
                  have HB := Lib.hid (HB.out.alloc HB.out.size (.cells #[.string (qN le), .string (qD le)] 46))
                  have HE := Lib.hid (HE.out.alloc (.cells #[.string (qN le), .string (qD le)] 46))
                  have ga := ga.alloc (.cells #[.string (qN le), .string (qD le)] 46)
                  have gc := gc.alloc (.cells #[.string (qN le), .string (qD le)] 46)
                  have gx := gx.alloc (.cells #[.string (qN le), .string (qD le)] 46)
                  have gy := gy.alloc (.cells #[.string (qN le), .string (qD le)] 46)
                  have gs := gs.alloc (.cells #[.string (qN le), .string (qD le)] 46)
                  have gm := gm.alloc (.cells #[.string (qN le), .string (qD le)] 46)
                  have gz := gz.alloc (.cells #[.string (qN le), .string (qD le)] 46)
                  have gb2 := gb2.alloc (.cells #[.string (qN le), .string (qD le)] 46)
                  have gh := gh.alloc (.cells #[.string (qN le), .string (qD le)] 46)
                  have gsa := gsa.alloc (.cells #[.string (qN le), .string (qD le)] 46)
                  have gta := gta.alloc (.cells #[.string (qN le), .string (qD le)] 46)
                  have gwy := gwy.alloc (.cells #[.string (qN le), .string (qD le)] 46)
                  have gri := gri.alloc (.cells #[.string (qN le), .string (qD le)] 46)
                  have gmo := gmo.alloc (.cells #[.string (qN le), .string (qD le)] 46)
                  have gle := Blk.new w46 #[.string (qN le), .string (qD le)] 46
                  obtain ⟨⟨c0_0, c0_1⟩, _, _⟩ := gri.two
                  obtain ⟨⟨c1_0, c1_1⟩, _, _⟩ := gmo.two
                  go_wp2_with fail
                  have HLAW := Lib.hid (PK.out.concave HLE.out HXX.out.1 HYY.out.1 HS.out.1 HMM.out.1 HZZ.out.1 HBB.out.1 HHF.out.1 HSA.out.1 HTA.out.1 HWY.out.1 HRI.out.1 HMO.out.1 HLL.out.1)
                  refine (cmp_q ri mo HRI.out.2 HMO.out.2 _).mono ?_
                  rintro e w61 ⟨rfl, hb61⟩
                  clear c0_0 c0_1 c1_0 c1_1
                  have HB := Lib.hid (HB.out.trans (hb61.mono HB.out.size))
                  have HE := Lib.hid (HE.out.pass hb61)
                  have ga := ga.pass hb61
                  have gc := gc.pass hb61
                  have gx := gx.pass hb61
                  have gy := gy.pass hb61
                  have gs := gs.pass hb61
                  have gm := gm.pass hb61
                  have gz := gz.pass hb61
                  have gb2 := gb2.pass hb61
                  have gh := gh.pass hb61
                  have gsa := gsa.pass hb61
                  have gta := gta.pass hb61
                  have gwy := gwy.pass hb61
                  have gri := gri.pass hb61
                  have gmo := gmo.pass hb61
                  have gle := gle.pass hb61
                  have hle : cmpQ ri mo ≤ 0 := cmp_notgt HLAW.out.1
                  generalize cmpQ ri mo = cv at hle ⊢
                  clear hb61
                  obtain ⟨⟨c0_0, c0_1⟩, _, _⟩ := gle.two
                  obtain ⟨⟨c1_0, c1_1⟩, _, _⟩ := gri.two
                  go_wp2_with fail
                  clear hle
                  refine (cmp_q le ri HLL.out.2 HRI.out.2 _).mono ?_
                  rintro e w62 ⟨rfl, hb62⟩
                  clear c0_0 c0_1 c1_0 c1_1
                  have HB := Lib.hid (HB.out.trans (hb62.mono HB.out.size))
                  have HE := Lib.hid (HE.out.pass hb62)
                  have ga := ga.pass hb62
                  have gc := gc.pass hb62
                  have gx := gx.pass hb62
                  have gy := gy.pass hb62
                  have gs := gs.pass hb62
                  have gm := gm.pass hb62
                  have gz := gz.pass hb62
                  have gb2 := gb2.pass hb62
                  have gh := gh.pass hb62
                  have gsa := gsa.pass hb62
                  have gta := gta.pass hb62
                  have gwy := gwy.pass hb62
                  have gri := gri.pass hb62
                  have gmo := gmo.pass hb62
                  have gle := gle.pass hb62
                  have hle : cmpQ le ri ≤ 0 := cmp_notgt HLAW.out.2
                  generalize cmpQ le ri = cv at hle ⊢
                  clear hb62
                  go_wp2_with fail
                  clear hle
                  go_ret
                  exact ⟨rfl, HB.out⟩
      · have HB := Lib.hid (HB.out.trans (hb4.mono HB.out.size))
        clear hb4 hcv
        go_wp2_with fail
        go_ret
        exact ⟨rfl, HB.out⟩
