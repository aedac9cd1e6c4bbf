/- Contracts of functions that the laws reach, and plain lemmas. Part 18. -/
import Derived.Test.YtolofiiolinnoaaGreatDoorC17
set_option linter.all false
namespace Go.Proofs.Cr
open Go.RowKit Go.Shelf
attribute [local go_sem] Oper.semAt_some

theorem of12 (w : World) (hT : TabW w) : Calls Tryz.prog 30 #[.int .i64 1, .int .i64 2] w fun e w' => e = .returned (.agg #[.string (qN (mkRat 1 2)), .string (qD (mkRat 1 2))]) ∧ Below w.heap.size w w' := lawOf_any 1 2 (by decide) (by decide) (by decide) w hT
/-- What is asked of two coverages. -/
structure PartOK (L : List Bd) (N : Nat) (p q : Rat) : Prop where
  cv : CurveP L N
  pp : okQ p ∧ sm 40 p
  qq : okQ q ∧ sm 40 q
section
variable {L : List Bd} {N : Nat} {p q : Rat}
theorem PartOK.sum (h : PartOK L N p q) : okQ (p + q) ∧ sm 300 (p + q) := by
  have h1 : sm 81 (p + q) := sm.add h.pp.2 h.qq.2 h.pp.1.1 h.qq.1.1
  have h0 : 0 ≤ p + q := by have := h.pp.1.1; have := h.qq.1.1; grind
  exact ⟨h1.ok (by decide) h0, h1.mono (by decide)⟩
theorem PartOK.mid (h : PartOK L N p q) : okQ ((p + q) * mkRat 1 2) ∧ sm 100 ((p + q) * mkRat 1 2) := by
  have h1 : sm 81 (p + q) := sm.add h.pp.2 h.qq.2 h.pp.1.1 h.qq.1.1
  have h2 : sm (81 + 19) ((p + q) * mkRat 1 2) := sm.mul h1 half_ok.2
  exact ⟨h2.ok (by decide) (Rat.mul_nonneg h.sum.1.1 half_pos), h2⟩
theorem PartOK.both (h : PartOK L N p q) {r s : Rat} (hr : ChanceR L N p r) (hs : ChanceR L N q s) : okQ (r + s) ∧ sm 299 (r + s) := by
  have h1 := chance_sm h.cv h.pp.1.1 h.pp.2 hr
  have h2 := chance_sm h.cv h.qq.1.1 h.qq.2 hs
  have h3 : sm (40 + 109 + (40 + 109) + 1) (r + s) := sm.add (j := 40 + 109) (k := 40 + 109) h1 h2 (chance_nonneg h.cv hr) (chance_nonneg h.cv hs)
  have h0 : 0 ≤ r + s := by have := chance_nonneg h.cv hr; have := chance_nonneg h.cv hs; grind
  exact ⟨h3.ok (by decide) h0, h3⟩
theorem PartOK.twice (h : PartOK L N p q) {m t : Rat} (hm : m = (p + q) * mkRat 1 2) (ht : ChanceR L N m t) : okQ (t + t) := by
  have h1 := chance_sm h.cv h.mid.1.1 h.mid.2 (hm ▸ ht)
  have h3 : sm (100 + 109 + (100 + 109) + 1) (t + t) := sm.add (j := 100 + 109) (k := 100 + 109) h1 h1 (chance_nonneg h.cv ht) (chance_nonneg h.cv ht)
  exact h3.ok (by decide) (by have := chance_nonneg h.cv ht; grind)
theorem PartOK.law (h : PartOK L N p q) {r s t u m b v d : Rat} (hb : b = p + q) (hr : ChanceR L N p r) (hs : ChanceR L N q s) (ht : ChanceR L N b t) (hm : m = b * mkRat 1 2) (hu : ChanceR L N m u) (hv : v = r + s) (hd : d = u + u) : t ≤ v ∧ v ≤ d := by
  subst hb hm hv hd
  refine ⟨chance_sub h.cv h.pp.1.1 h.qq.1.1 hr hs ht, ?_⟩
  have := chance_mid h.cv hr hs hu
  rw [half_eq] at this
  grind
end
set_option maxRecDepth 100000 in
set_option maxHeartbeats 8000000 in
/-- The law DetectParted. -/
theorem Parted_walk (A : Option Addr) (c : Nat) (L : List Bd) (a1 a2 b1 b2 : ByteArray) (w : World) (hr : L.length ≤ 66 → RdB w A L) (hc : L.length ≤ c) (hT : TabW w) (hZ : ZO w) :
    Calls Tryz.prog 5 #[.slice A L.length c, .agg #[.string a1, .string a2], .agg #[.string b1, .string b2]] w fun e w' => e = .returned (.bool true) ∧ Below w.heap.size w w' := by
  obtain ⟨ga, gc, hW1⟩ := two_new w #[.string a1, .string a2] #[.string b1, .string b2] 46 46
  have TA := Lib.hid (alive_any _ (hT.below hW1 (Nat.le_refl _)) (hZ.below hW1 (Nat.le_refl _)))
  have HR := Lib.hid (fun h W (hb : Below w.heap.size w W) => (hr h).below hb (Nat.le_refl _))
  have HTZ := Lib.hid (fun W (hb : Below w.heap.size w W) => And.intro (hT.below hb (Nat.le_refl _)) (hZ.below hb (Nat.le_refl _)))
  have HB := Lib.hid hW1
  have HC := Lib.hid hc
  have TG := Lib.hid (fun W (hb : Below w.heap.size w W) => great_all A c L W (fun h => HR.out h W hb))
  have TV := Lib.hid (fun W (hb : Below w.heap.size w W) (h : L.length ≤ 66) => checkCurve_any A c L W (HR.out h W hb) HC.out (HTZ.out W hb).1 (HTZ.out W hb).2)
  have TE := Lib.hid (fun N W (h : EnvL A c L N W) q (hq : okQ q) (hs : sm 300 q) => Chance_q h q hq hs)
  have HEE := Lib.hid (fun N W (hb : Below w.heap.size w W) (h : L.length ≤ 66) (hN : CurveP L N) => (show EnvL A c L N W from ⟨⟨HR.out h W hb, HC.out⟩, HTZ.out W hb, hN⟩))
  have TS := Lib.hid (fun W g (h : Blk W g #[.string a1, .string a2, .string b1, .string b2] 46) => lawShort_any 40 (some ⟨g, 0, none⟩) 2 [(a1, a2), (b1, b2)] W (RdP.two h))
  obtain ⟨M, hM⟩ : ∃ M, M = L.length := ⟨_, rfl⟩
  rw [← hM] at TG TV TE HEE ⊢
  have HM := Lib.hid hM
  have hfnR : ∀ f, Fence.wide.fn f := fun _ => trivial
  have hm : Tryz.prog.follows .mixedOrders = true := by kernel_rfl
  clear hr hc hT hZ hW1 hM
  go_enter Tryz.func5, Tryz.ntmps5
  go_wp2_with fail
  refine TA.out.mono ?_
  rintro e w1 ⟨rfl, hb1⟩
  have HB := Lib.hid (HB.out.trans (hb1.mono HB.out.size))
  have ga := ga.pass hb1
  have gc := gc.pass hb1
  clear hb1
  go_wp2_with fail
  refine (TG.out _ HB.out).mono ?_
  rintro e w2 ⟨⟨b, rfl, hgb⟩, hb2⟩
  have HB := Lib.hid (HB.out.trans (hb2.mono HB.out.size))
  have ga := ga.pass hb2
  have gc := gc.pass hb2
  have HG := Lib.hid hgb
  clear hb2 hgb
  cases b with
  | true =>
    go_wp2_with fail
    go_ret
    exact ⟨rfl, HB.out⟩
  | false =>
    have H66 := Lib.hid (HG.out rfl).1
    have gS := Blk.new w2 #[.string a1, .string a2, .string b1, .string b2] 46
    have HB := Lib.hid (HB.out.alloc HB.out.size (.cells #[.string a1, .string a2, .string b1, .string b2] 46))
    have ga2 := ga.alloc (.cells #[.string a1, .string a2, .string b1, .string b2] 46)
    have gc2 := gc.alloc (.cells #[.string a1, .string a2, .string b1, .string b2] 46)
    obtain ⟨⟨c0_0, c0_1⟩, _, _⟩ := ga.two
    obtain ⟨⟨c1_0, c1_1⟩, _, _⟩ := gc.two
    have TSS := Lib.hid (TS.out _ _ gS)
    rw [show [(a1, a2), (b1, b2)].length = 2 from rfl] at TSS
    clear gS
    go_wp2_with fail
    refine TSS.out.mono ?_
    rintro e w3 ⟨rfl, hb3⟩
    have HB := Lib.hid (HB.out.trans (hb3.mono HB.out.size))
    have ga := ga2.pass hb3
    have gc := gc2.pass hb3
    obtain ⟨d, hd⟩ : ∃ d, d = fewL 40 [(a1, a2), (b1, b2)] := ⟨_, rfl⟩
    rw [← hd]
    have HD := Lib.hid hd
    clear hb3 hd ga2 gc2 c0_0 c0_1 c1_0 c1_1
    cases d with
    | false =>
      go_wp2_with fail
      go_ret
      exact ⟨rfl, HB.out⟩
    | true =>
      go_wp2_with fail
      refine (TV.out _ HB.out H66.out).mono ?_
      rintro e w4 ⟨⟨rfl, hcv⟩ | ⟨rfl, hcv⟩, hb4⟩
      · obtain ⟨N, hcv⟩ := hcv
        have HCV := Lib.hid hcv
        have HB := Lib.hid (HB.out.trans (hb4.mono HB.out.size))
        have ga := ga.pass hb4
        have gc := gc.pass hb4
        clear hb4 hcv
        obtain ⟨⟨c0_0, c0_1⟩, _, _⟩ := ga.two
        go_wp2_with fail
        refine (check_any a1 a2 _).mono ?_
        rintro e w5 ⟨rfl, hb5⟩
        have HB := Lib.hid (HB.out.trans (hb5.mono HB.out.size))
        have ga := ga.pass hb5
        have gc := gc.pass hb5
        obtain ⟨f, hf⟩ : ∃ f, f = chk a1 a2 := ⟨_, rfl⟩
        rw [← hf]
        have HF := Lib.hid hf
        clear hb5 hf c0_0 c0_1
        cases f with
        | false =>
          rw [show okErr false = 2 from rfl]
          go_wp2_with fail
          go_ret
          exact ⟨rfl, HB.out⟩
        | true =>
          rw [show okErr true = 0 from rfl]
          obtain ⟨⟨c0_0, c0_1⟩, _, _⟩ := gc.two
          go_wp2_with fail
          refine (check_any b1 b2 _).mono ?_
          rintro e w6 ⟨rfl, hb6⟩
          have HB := Lib.hid (HB.out.trans (hb6.mono HB.out.size))
          have ga := ga.pass hb6
          have gc := gc.pass hb6
          obtain ⟨h, hh⟩ : ∃ h, h = chk b1 b2 := ⟨_, rfl⟩
          rw [← hh]
          have HH := Lib.hid hh
          clear hb6 hh c0_0 c0_1
          cases h with
          | false =>
            rw [show okErr false = 2 from rfl]
            go_wp2_with fail
            go_ret
            exact ⟨rfl, HB.out⟩
          | true =>
            rw [show okErr true = 0 from rfl]
            have hfew := few_two HD.out.symm
            obtain ⟨p, hp1, hp2, ea1, ea2⟩ := few_fr hfew.1.1 hfew.1.2 HF.out.symm
            obtain ⟨q, hq1, hq2, eb1, eb2⟩ := few_fr hfew.2.1 hfew.2.2 HH.out.symm
            have PK := Lib.hid (show PartOK L N p q from ⟨HCV.out, ⟨hp1, hp2⟩, ⟨hq1, hq2⟩⟩)
            have HE := Lib.hid (HEE.out N _ HB.out H66.out HCV.out)
            have TE := Lib.hid (TE.out N)
            rw [ea1, ea2] at ga
            rw [eb1, eb2] at gc
            clear ea1 ea2 eb1 eb2 hfew hp1 hp2 hq1 hq2 HD HF HH TS TSS TV TG TA
            obtain ⟨⟨c0_0, c0_1⟩, _, _⟩ := ga.two
            obtain ⟨⟨c1_0, c1_1⟩, _, _⟩ := gc.two
            go_wp2_with fail
            refine ((add_q p q PK.out.pp.1 PK.out.qq.1 PK.out.sum.1 HE.out.2.1.1).mono (fun _ _ h => got_r PK.out.sum.1 h)).mono ?_
            rintro e w7 ⟨sm1, ⟨rfl, hr0, ok0⟩, hb7⟩
            have HS := Lib.hid (And.intro hr0 ok0)
            clear c0_0 c0_1 c1_0 c1_1
            have HB := Lib.hid (HB.out.trans (hb7.mono HB.out.size))
            have HE := Lib.hid (HE.out.pass hb7)
            have ga := ga.pass hb7
            have gc := gc.pass hb7
            clear hb7 hr0 ok0
            have HB := Lib.hid (HB.out.alloc HB.out.size (.cells #[.string (qN sm1), .string (qD sm1)] 46))
            have HE := Lib.hid (HE.out.alloc (.cells #[.string (qN sm1), .string (qD sm1)] 46))
            have ga := ga.alloc (.cells #[.string (qN sm1), .string (qD sm1)] 46)
            have gc := gc.alloc (.cells #[.string (qN sm1), .string (qD sm1)] 46)
            have gs := Blk.new w7 #[.string (qN sm1), .string (qD sm1)] 46
            obtain ⟨⟨c0_0, c0_1⟩, _, _⟩ := ga.two
            go_wp2_with fail
            obtain ⟨hsm, hsok⟩ := HS.out
            have HSO := Lib.hid (show okQ sm1 ∧ sm 300 sm1 ∧ (okQ (sm1 * mkRat 1 2) ∧ sm 100 (sm1 * mkRat 1 2)) by rw [hsm]; exact ⟨PK.out.sum.1, PK.out.sum.2, PK.out.mid⟩)
            clear hsm hsok
            refine (TE.out _ HE.out p PK.out.pp.1 (PK.out.pp.2.mono (by decide))).mono ?_
            rintro e w8 ⟨x, ⟨rfl, hr0, ok0⟩, hb8⟩
            have HXX := Lib.hid (And.intro hr0 ok0)
            clear c0_0 c0_1
            have HB := Lib.hid (HB.out.trans (hb8.mono HB.out.size))
            have HE := Lib.hid (HE.out.pass hb8)
            have ga := ga.pass hb8
            have gc := gc.pass hb8
            have gs := gs.pass hb8
            clear hb8 hr0 ok0
            have HB := Lib.hid (HB.out.alloc HB.out.size (.cells #[.string (qN x), .string (qD x)] 46))
            have HE := Lib.hid (HE.out.alloc (.cells #[.string (qN x), .string (qD x)] 46))
            have ga := ga.alloc (.cells #[.string (qN x), .string (qD x)] 46)
            have gc := gc.alloc (.cells #[.string (qN x), .string (qD x)] 46)
            have gs := gs.alloc (.cells #[.string (qN x), .string (qD x)] 46)
            have gx := Blk.new w8 #[.string (qN x), .string (qD x)] 46
            obtain ⟨⟨c0_0, c0_1⟩, _, _⟩ := gc.two
            go_wp2_with fail
            refine (TE.out _ HE.out q PK.out.qq.1 (PK.out.qq.2.mono (by decide))).mono ?_
            rintro e w9 ⟨y, ⟨rfl, hr0, ok0⟩, hb9⟩
            have HYY := Lib.hid (And.intro hr0 ok0)
            clear c0_0 c0_1
            have HB := Lib.hid (HB.out.trans (hb9.mono HB.out.size))
            have HE := Lib.hid (HE.out.pass hb9)
            have ga := ga.pass hb9
            have gc := gc.pass hb9
            have gs := gs.pass hb9
            have gx := gx.pass hb9
            clear hb9 hr0 ok0
            have HB := Lib.hid (HB.out.alloc HB.out.size (.cells #[.string (qN y), .string (qD y)] 46))
            have HE := Lib.hid (HE.out.alloc (.cells #[.string (qN y), .string (qD y)] 46))
            have ga := ga.alloc (.cells #[.string (qN y), .string (qD y)] 46)
            have gc := gc.alloc (.cells #[.string (qN y), .string (qD y)] 46)
            have gs := gs.alloc (.cells #[.string (qN y), .string (qD y)] 46)
            have gx := gx.alloc (.cells #[.string (qN y), .string (qD y)] 46)
            have gy := Blk.new w9 #[.string (qN y), .string (qD y)] 46
            obtain ⟨⟨c0_0, c0_1⟩, _, _⟩ := gs.two
            go_wp2_with fail
            refine (TE.out _ HE.out sm1 HSO.out.1 HSO.out.2.1).mono ?_
            rintro e w10 ⟨z, ⟨rfl, hr0, ok0⟩, hb10⟩
            have HZZ := Lib.hid (And.intro hr0 ok0)
            clear c0_0 c0_1
            have HB := Lib.hid (HB.out.trans (hb10.mono HB.out.size))
            have HE := Lib.hid (HE.out.pass hb10)
            have ga := ga.pass hb10
            have gc := gc.pass hb10
            have gs := gs.pass hb10
            have gx := gx.pass hb10
            have gy := gy.pass hb10
            clear hb10 hr0 ok0
            have HB := Lib.hid (HB.out.alloc HB.out.size (.cells #[.string (qN z), .string (qD z)] 46))
            have HE := Lib.hid (HE.out.alloc (.cells #[.string (qN z), .string (qD z)] 46))
            have ga := ga.alloc (.cells #[.string (qN z), .string (qD z)] 46)
            have gc := gc.alloc (.cells #[.string (qN z), .string (qD z)] 46)
            have gs := gs.alloc (.cells #[.string (qN z), .string (qD z)] 46)
            have gx := gx.alloc (.cells #[.string (qN z), .string (qD z)] 46)
            have gy := gy.alloc (.cells #[.string (qN z), .string (qD z)] 46)
            have gz := Blk.new w10 #[.string (qN z), .string (qD z)] 46
            go_wp2_with fail
            have HMU := Lib.hid (And.intro HSO.out.1 HSO.out.2.2.1)
            have HB := Lib.hid (HB.out.drew)
            have HE := Lib.hid (HE.out.pass (Below.refl _ _).drew)
            have ga := ga.drew
            have gc := gc.drew
            have gs := gs.drew
            have gx := gx.drew
            have gy := gy.drew
            have gz := gz.drew
            have hsrc := gs.lt
            have HX := Lib.hid (Below.refl (w10.alloc (.cells #[.string (qN z), .string (qD z)] 46)).drew.heap.size (w10.alloc (.cells #[.string (qN z), .string (qD z)] 46)).drew)
            refine wp_region_J (fun W => W.cell? ⟨w7.heap.size, 0, none⟩ = some (.string (qN sm1)) ∧ W.cell? ⟨w7.heap.size, 1, none⟩ = some (.string (qD sm1))) [] hm ?hCells0 (fun hCells => ?_)
            case hCells0 => exact gs.two.1
            generalize (w10.alloc (.cells #[.string (qN z), .string (qD z)] 46)).drew = W0 at HB HE HX hsrc hCells ga gc gs gx gy gz ⊢
            refine takeB hfnR (by kernel_rfl) 0 (v := ?_) rfl (by kernel_rfl) (fun _ _ _ h => h) (by kernel_rfl) hCells (Or.inl ⟨by rfl, ?_⟩) ?_
            rotate_left 1
            · intro w hSw; (try dsimp only at hSw); go_simp; (try with_reducible rfl)
            try simp only [Act.put, List.setIfInBounds_toArray, List.set_cons_zero, List.set_cons_succ]
            refine wpAnyJ_ready (rs := [1, 6]) (by kernel_rfl) (by simp) (consJ 1 rfl (fun K hK => ?_) (consJ 6 rfl (fun K hK => ?_) AllJ.nil))
            ·
              go_simp
              refine ⟨rfl, ?_⟩
              refine (callsIn_wide.2 (of12 _ (HE.out.2.1.1.below HX.out (Nat.le_refl _)))).mono ?_
              rintro e v1_0 ⟨rfl, hv⟩
              refine hK.out _ _ (holdJ ?_ (fun hCells => ?_))
              · clear hK; (try dsimp only); exact ⟨pc hv hCells.1, pc hv hCells.2⟩
              clear hK K
              have HX := Lib.hid (HX.out.trans (hv.mono HX.out.size))
              clear hv
              try simp only [Act.put, List.setIfInBounds_toArray, List.set_cons_zero, List.set_cons_succ]
              refine wpAnyJ_ready (rs := [2, 6]) (by kernel_rfl) (by simp) (consJ 2 rfl (fun K hK => ?_) (consJ 6 rfl (fun K hK => ?_) AllJ.nil))
              ·
                go_simp
                refine ⟨rfl, ?_⟩
                refine (callsIn_wide.2 ((mul_q sm1 (mkRat 1 2) HMU.out.1 half_ok.1 HMU.out.2 (HE.out.2.1.1.below HX.out (Nat.le_refl _))).mono (fun _ _ h => got_r HMU.out.2 h))).mono ?_
                rintro e v2_1 ⟨mid, ⟨rfl, hr0, ok0⟩, hv⟩
                have HMM := Lib.hid (And.intro hr0 ok0)
                clear hr0 ok0
                refine hK.out _ _ (holdJ ?_ (fun hCells => ?_))
                · clear hK; (try dsimp only); exact ⟨pc hv hCells.1, pc hv hCells.2⟩
                clear hK K
                have HX := Lib.hid (HX.out.trans (hv.mono HX.out.size))
                clear hv
                try simp only [Act.put, List.setIfInBounds_toArray, List.set_cons_zero, List.set_cons_succ]
                refine takeB hfnR (by kernel_rfl) 3 (v := ?_) rfl (by kernel_rfl) (fun _ _ _ h => h) (by kernel_rfl) hCells (Or.inl ⟨by rfl, ?_⟩) ?_
                rotate_left 1
                · intro w hSw; (try dsimp only at hSw); go_simp; (try with_reducible rfl)
                try simp only [Act.put, List.setIfInBounds_toArray, List.set_cons_zero, List.set_cons_succ]
                refine takeB hfnR (by kernel_rfl) 4 (v := ?_) rfl (by kernel_rfl) (fun _ _ _ h => h) (by kernel_rfl) hCells (Or.inl ⟨by rfl, ?_⟩) ?_
                rotate_left 1
                · intro w hSw; (try dsimp only at hSw); go_simp; (try with_reducible rfl)
                try simp only [Act.put, List.setIfInBounds_toArray, List.set_cons_zero, List.set_cons_succ]
                refine takeB hfnR (by kernel_rfl) 5 (v := ?_) rfl (by kernel_rfl) (fun _ _ _ h => h) (by kernel_rfl) hCells (Or.inl ⟨by rfl, ?_⟩) ?_
                rotate_left 1
                · intro w hSw; (try dsimp only at hSw); go_simp; (try with_reducible rfl)
                try simp only [Act.put, List.setIfInBounds_toArray, List.set_cons_zero, List.set_cons_succ]
                refine oneJ 6 (by kernel_rfl) rfl (fun K hK => ?_)
                go_simp
                refine hK.out _ _ (holdJ ?_ (fun hCells => ?_))
                · clear hK; (try dsimp only); exact ⟨pc (below_alloc _ _) hCells.1, pc (below_alloc _ _) hCells.2⟩
                clear hK K
                have gb := Blk.new v2_1 #[.string ⟨#[]⟩, .string ⟨#[]⟩] 46
                obtain ⟨bs, hbs⟩ : ∃ bs, bs = v2_1.heap.size := ⟨_, rfl⟩
                have hge : W0.heap.size ≤ bs := by rw [hbs]; exact HX.out.size
                have HX := Lib.hid (HX.out.alloc HX.out.size (.cells #[.string ⟨#[]⟩, .string ⟨#[]⟩] 46))
                rw [← hbs] at gb ⊢
                clear hbs
                generalize v2_1.alloc (.cells #[.string ⟨#[]⟩, .string ⟨#[]⟩] 46) = va_3 at gb HX hCells ⊢
                try simp only [Act.put, List.setIfInBounds_toArray, List.set_cons_zero, List.set_cons_succ]
                obtain ⟨⟨r0, r1⟩, f0, f1⟩ := gb.two
                refine oneJ 7 (by kernel_rfl) rfl (fun K hK => ?_)
                go_simp
                refine hK.out _ _ (holdJ ?_ (fun hCells => ?_))
                · clear hK; (try dsimp only); exact ⟨far2 hCells.1 (by omega), far2 hCells.2 (by omega)⟩
                clear hK K r0 r1 f0 f1
                try simp only [Act.put, List.setIfInBounds_toArray, List.set_cons_zero, List.set_cons_succ]
                refine takeB hfnR (by kernel_rfl) 8 (v := ?_) rfl (by kernel_rfl) (fun _ _ _ h => h) (by kernel_rfl) hCells (Or.inl ⟨by rfl, ?_⟩) ?_
                rotate_left 1
                · intro w hSw; (try dsimp only at hSw); go_simp; (try with_reducible rfl)
                try simp only [Act.put, List.setIfInBounds_toArray, List.set_cons_zero, List.set_cons_succ]
                refine wpAnyJ_done (by kernel_rfl) (NoPan.normal ?_) _
                have HX := Lib.hid ((HX.out.setCell (p := ⟨bs, 0, none⟩) hge (.string (qN mid))).setCell (p := ⟨bs, 1, none⟩) hge (.string (qD mid)))
                have gm := (gb.set 0 (.string (qN mid))).set 1 (.string (qD mid))
                have ga := ga.below HX.out ga.lt
                have gc := gc.below HX.out gc.lt
                have gs := gs.below HX.out gs.lt
                have gx := gx.below HX.out gx.lt
                have gy := gy.below HX.out gy.lt
                have gz := gz.below HX.out gz.lt
                have HB := Lib.hid (HB.out.trans (HX.out.mono HB.out.size))
                have HE := Lib.hid (HE.out.pass HX.out)
                clear HX gb hCells hsrc hge
                generalize (va_3.setCell ⟨bs, 0, none⟩ (.string (qN mid))).setCell ⟨bs, 1, none⟩ (.string (qD mid)) = W1 at HB HE ga gc gs gx gy gz gm ⊢
                obtain ⟨⟨c0_0, c0_1⟩, _, _⟩ := gm.two
                go_wp2_with fail
                have HMS := Lib.hid (show okQ mid ∧ sm 300 mid by rw [HMM.out.1]; exact ⟨HSO.out.2.2.1, HSO.out.2.2.2.mono (by decide)⟩)
                refine (TE.out _ HE.out mid HMS.out.1 HMS.out.2).mono ?_
                rintro e w11 ⟨hf, ⟨rfl, hr0, ok0⟩, hb11⟩
                have HHF := Lib.hid (And.intro hr0 ok0)
                clear c0_0 c0_1
                have HB := Lib.hid (HB.out.trans (hb11.mono HB.out.size))
                have HE := Lib.hid (HE.out.pass hb11)
                have ga := ga.pass hb11
                have gc := gc.pass hb11
                have gs := gs.pass hb11
                have gx := gx.pass hb11
                have gy := gy.pass hb11
                have gz := gz.pass hb11
                have gm := gm.pass hb11
                clear hb11 hr0 ok0
                have HB := Lib.hid (HB.out.alloc HB.out.size (.cells #[.string (qN hf), .string (qD hf)] 46))
                have HE := Lib.hid (HE.out.alloc (.cells #[.string (qN hf), .string (qD hf)] 46))
                have ga := ga.alloc (.cells #[.string (qN hf), .string (qD hf)] 46)
                have gc := gc.alloc (.cells #[.string (qN hf), .string (qD hf)] 46)
                have gs := gs.alloc (.cells #[.string (qN hf), .string (qD hf)] 46)
                have gx := gx.alloc (.cells #[.string (qN hf), .string (qD hf)] 46)
                have gy := gy.alloc (.cells #[.string (qN hf), .string (qD hf)] 46)
                have gz := gz.alloc (.cells #[.string (qN hf), .string (qD hf)] 46)
                have gm := gm.alloc (.cells #[.string (qN hf), .string (qD hf)] 46)
                have gh := Blk.new w11 #[.string (qN hf), .string (qD hf)] 46
                obtain ⟨⟨c0_0, c0_1⟩, _, _⟩ := gx.two
                obtain ⟨⟨c1_0, c1_1⟩, _, _⟩ := gy.two
                go_wp2_with fail
                have HBO := Lib.hid (PK.out.both HXX.out.1 HYY.out.1)
                refine ((add_q x y HXX.out.2 HYY.out.2 HBO.out.1 HE.out.2.1.1).mono (fun _ _ h => got_r HBO.out.1 h)).mono ?_
                rintro e w12 ⟨bo, ⟨rfl, hr0, ok0⟩, hb12⟩
                have HBB := Lib.hid (And.intro hr0 ok0)
                clear c0_0 c0_1 c1_0 c1_1
                have HB := Lib.hid (HB.out.trans (hb12.mono HB.out.size))
                have HE := Lib.hid (HE.out.pass hb12)
                have ga := ga.pass hb12
                have gc := gc.pass hb12
                have gs := gs.pass hb12
                have gx := gx.pass hb12
                have gy := gy.pass hb12
                have gz := gz.pass hb12
                have gm := gm.pass hb12
                have gh := gh.pass hb12
                clear hb12 hr0 ok0
                have HB := Lib.hid (HB.out.alloc HB.out.size (.cells #[.string (qN bo), .string (qD bo)] 46))
                have HE := Lib.hid (HE.out.alloc (.cells #[.string (qN bo), .string (qD bo)] 46))
                have ga := ga.alloc (.cells #[.string (qN bo), .string (qD bo)] 46)
                have gc := gc.alloc (.cells #[.string (qN bo), .string (qD bo)] 46)
                have gs := gs.alloc (.cells #[.string (qN bo), .string (qD bo)] 46)
                have gx := gx.alloc (.cells #[.string (qN bo), .string (qD bo)] 46)
                have gy := gy.alloc (.cells #[.string (qN bo), .string (qD bo)] 46)
                have gz := gz.alloc (.cells #[.string (qN bo), .string (qD bo)] 46)
                have gm := gm.alloc (.cells #[.string (qN bo), .string (qD bo)] 46)
                have gh := gh.alloc (.cells #[.string (qN bo), .string (qD bo)] 46)
                have gb2 := Blk.new w12 #[.string (qN bo), .string (qD bo)] 46
                obtain ⟨⟨c0_0, c0_1⟩, _, _⟩ := gh.two
                go_wp2_with fail
                have HTO := Lib.hid (PK.out.twice (m := mid) (by rw [HMM.out.1, HS.out.1]) HHF.out.1)
                refine ((add_q hf hf HHF.out.2 HHF.out.2 HTO.out HE.out.2.1.1).mono (fun _ _ h => got_r HTO.out h)).mono ?_
                rintro e w13 ⟨tw, ⟨rfl, hr0, ok0⟩, hb13⟩
                have HTT := Lib.hid (And.intro hr0 ok0)
                clear c0_0 c0_1
                have HB := Lib.hid (HB.out.trans (hb13.mono HB.out.size))
                have HE := Lib.hid (HE.out.pass hb13)
                have ga := ga.pass hb13
                have gc := gc.pass hb13
                have gs := gs.pass hb13
                have gx := gx.pass hb13
                have gy := gy.pass hb13
                have gz := gz.pass hb13
                have gm := gm.pass hb13
                have gh := gh.pass hb13
                have gb2 := gb2.pass hb13
                clear hb13 hr0 ok0
                have HB := Lib.hid (HB.out.alloc HB.out.size (.cells #[.string (qN tw), .string (qD tw)] 46))
                have HE := Lib.hid (HE.out.alloc (.cells #[.string (qN tw), .string (qD tw)] 46))
                have ga := ga.alloc (.cells #[.string (qN tw), .string (qD tw)] 46)
                have gc := gc.alloc (.cells #[.string (qN tw), .string (qD tw)] 46)
                have gs := gs.alloc (.cells #[.string (qN tw), .string (qD tw)] 46)
                have gx := gx.alloc (.cells #[.string (qN tw), .string (qD tw)] 46)
                have gy := gy.alloc (.cells #[.string (qN tw), .string (qD tw)] 46)
                have gz := gz.alloc (.cells #[.string (qN tw), .string (qD tw)] 46)
                have gm := gm.alloc (.cells #[.string (qN tw), .string (qD tw)] 46)
                have gh := gh.alloc (.cells #[.string (qN tw), .string (qD tw)] 46)
                have gb2 := gb2.alloc (.cells #[.string (qN tw), .string (qD tw)] 46)
                have gt := Blk.new w13 #[.string (qN tw), .string (qD tw)] 46
                obtain ⟨⟨c0_0, c0_1⟩, _, _⟩ := gz.two
                obtain ⟨⟨c1_0, c1_1⟩, _, _⟩ := gb2.two
                go_wp2_with fail
                have HLAW := Lib.hid (PK.out.law HS.out.1 HXX.out.1 HYY.out.1 HZZ.out.1 HMM.out.1 HHF.out.1 HBB.out.1 HTT.out.1)
                refine (cmp_q z bo HZZ.out.2 HBB.out.2 _).mono ?_
                rintro e w21 ⟨rfl, hb21⟩
                clear c0_0 c0_1 c1_0 c1_1
                have HB := Lib.hid (HB.out.trans (hb21.mono HB.out.size))
                have HE := Lib.hid (HE.out.pass hb21)
                have ga := ga.pass hb21
                have gc := gc.pass hb21
                have gs := gs.pass hb21
                have gx := gx.pass hb21
                have gy := gy.pass hb21
                have gz := gz.pass hb21
                have gm := gm.pass hb21
                have gh := gh.pass hb21
                have gb2 := gb2.pass hb21
                have gt := gt.pass hb21
                have hle : cmpQ z bo ≤ 0 := cmp_notgt HLAW.out.1
                generalize cmpQ z bo = cv at hle ⊢
                clear hb21
                obtain ⟨⟨c0_0, c0_1⟩, _, _⟩ := gb2.two
                obtain ⟨⟨c1_0, c1_1⟩, _, _⟩ := gt.two
                go_wp2_with fail
                clear hle
                refine (cmp_q bo tw HBB.out.2 HTT.out.2 _).mono ?_
                rintro e w22 ⟨rfl, hb22⟩
                clear c0_0 c0_1 c1_0 c1_1
                have HB := Lib.hid (HB.out.trans (hb22.mono HB.out.size))
                have HE := Lib.hid (HE.out.pass hb22)
                have ga := ga.pass hb22
                have gc := gc.pass hb22
                have gs := gs.pass hb22
                have gx := gx.pass hb22
                have gy := gy.pass hb22
                have gz := gz.pass hb22
                have gm := gm.pass hb22
                have gh := gh.pass hb22
                have gb2 := gb2.pass hb22
                have gt := gt.pass hb22
                have hle : cmpQ bo tw ≤ 0 := cmp_notgt HLAW.out.2
                generalize cmpQ bo tw = cv at hle ⊢
                clear hb22
                go_wp2_with fail
                clear hle
                go_ret
                exact ⟨rfl, HB.out⟩
              ·
                go_simp
                refine hK.out _ _ (holdJ ?_ (fun hCells => ?_))
                · clear hK; (try dsimp only); exact ⟨pc (below_alloc _ _) hCells.1, pc (below_alloc _ _) hCells.2⟩
                clear hK K
                have gb := Blk.new v1_0 #[.string ⟨#[]⟩, .string ⟨#[]⟩] 46
                obtain ⟨bs, hbs⟩ : ∃ bs, bs = v1_0.heap.size := ⟨_, rfl⟩
                have hge : W0.heap.size ≤ bs := by rw [hbs]; exact HX.out.size
                have HX := Lib.hid (HX.out.alloc HX.out.size (.cells #[.string ⟨#[]⟩, .string ⟨#[]⟩] 46))
                rw [← hbs] at gb ⊢
                clear hbs
                generalize v1_0.alloc (.cells #[.string ⟨#[]⟩, .string ⟨#[]⟩] 46) = va_1 at gb HX hCells ⊢
                try simp only [Act.put, List.setIfInBounds_toArray, List.set_cons_zero, List.set_cons_succ]
                refine oneJ 2 (by kernel_rfl) rfl (fun K hK => ?_)
                go_simp
                refine ⟨rfl, ?_⟩
                refine (callsIn_wide.2 ((mul_q sm1 (mkRat 1 2) HMU.out.1 half_ok.1 HMU.out.2 (HE.out.2.1.1.below HX.out (Nat.le_refl _))).mono (fun _ _ h => got_r HMU.out.2 h))).mono ?_
                rintro e v2_2 ⟨mid, ⟨rfl, hr0, ok0⟩, hv⟩
                have HMM := Lib.hid (And.intro hr0 ok0)
                clear hr0 ok0
                refine hK.out _ _ (holdJ ?_ (fun hCells => ?_))
                · clear hK; (try dsimp only); exact ⟨pc hv hCells.1, pc hv hCells.2⟩
                clear hK K
                have HX := Lib.hid (HX.out.trans (hv.mono HX.out.size))
                have gb := gb.pass hv
                clear hv
                try simp only [Act.put, List.setIfInBounds_toArray, List.set_cons_zero, List.set_cons_succ]
                refine takeB hfnR (by kernel_rfl) 3 (v := ?_) rfl (by kernel_rfl) (fun _ _ _ h => h) (by kernel_rfl) hCells (Or.inl ⟨by rfl, ?_⟩) ?_
                rotate_left 1
                · intro w hSw; (try dsimp only at hSw); go_simp; (try with_reducible rfl)
                try simp only [Act.put, List.setIfInBounds_toArray, List.set_cons_zero, List.set_cons_succ]
                refine takeB hfnR (by kernel_rfl) 4 (v := ?_) rfl (by kernel_rfl) (fun _ _ _ h => h) (by kernel_rfl) hCells (Or.inl ⟨by rfl, ?_⟩) ?_
                rotate_left 1
                · intro w hSw; (try dsimp only at hSw); go_simp; (try with_reducible rfl)
                try simp only [Act.put, List.setIfInBounds_toArray, List.set_cons_zero, List.set_cons_succ]
                refine takeB hfnR (by kernel_rfl) 5 (v := ?_) rfl (by kernel_rfl) (fun _ _ _ h => h) (by kernel_rfl) hCells (Or.inl ⟨by rfl, ?_⟩) ?_
                rotate_left 1
                · intro w hSw; (try dsimp only at hSw); go_simp; (try with_reducible rfl)
                try simp only [Act.put, List.setIfInBounds_toArray, List.set_cons_zero, List.set_cons_succ]
                obtain ⟨⟨r0, r1⟩, f0, f1⟩ := gb.two
                refine oneJ 7 (by kernel_rfl) rfl (fun K hK => ?_)
                go_simp
                refine hK.out _ _ (holdJ ?_ (fun hCells => ?_))
                · clear hK; (try dsimp only); exact ⟨far2 hCells.1 (by omega), far2 hCells.2 (by omega)⟩
                clear hK K r0 r1 f0 f1
                try simp only [Act.put, List.setIfInBounds_toArray, List.set_cons_zero, List.set_cons_succ]
                refine takeB hfnR (by kernel_rfl) 8 (v := ?_) rfl (by kernel_rfl) (fun _ _ _ h => h) (by kernel_rfl) hCells (Or.inl ⟨by rfl, ?_⟩) ?_
                rotate_left 1
                · intro w hSw; (try dsimp only at hSw); go_simp; (try with_reducible rfl)
                try simp only [Act.put, List.setIfInBounds_toArray, List.set_cons_zero, List.set_cons_succ]
                refine wpAnyJ_done (by kernel_rfl) (NoPan.normal ?_) _
                have HX := Lib.hid ((HX.out.setCell (p := ⟨bs, 0, none⟩) hge (.string (qN mid))).setCell (p := ⟨bs, 1, none⟩) hge (.string (qD mid)))
                have gm := (gb.set 0 (.string (qN mid))).set 1 (.string (qD mid))
                have ga := ga.below HX.out ga.lt
                have gc := gc.below HX.out gc.lt
                have gs := gs.below HX.out gs.lt
                have gx := gx.below HX.out gx.lt
                have gy := gy.below HX.out gy.lt
                have gz := gz.below HX.out gz.lt
                have HB := Lib.hid (HB.out.trans (HX.out.mono HB.out.size))
                have HE := Lib.hid (HE.out.pass HX.out)
                clear HX gb hCells hsrc hge
                generalize (v2_2.setCell ⟨bs, 0, none⟩ (.string (qN mid))).setCell ⟨bs, 1, none⟩ (.string (qD mid)) = W1 at HB HE ga gc gs gx gy gz gm ⊢
                obtain ⟨⟨c0_0, c0_1⟩, _, _⟩ := gm.two
                go_wp2_with fail
                have HMS := Lib.hid (show okQ mid ∧ sm 300 mid by rw [HMM.out.1]; exact ⟨HSO.out.2.2.1, HSO.out.2.2.2.mono (by decide)⟩)
                refine (TE.out _ HE.out mid HMS.out.1 HMS.out.2).mono ?_
                rintro e w11 ⟨hf, ⟨rfl, hr0, ok0⟩, hb11⟩
                have HHF := Lib.hid (And.intro hr0 ok0)
                clear c0_0 c0_1
                have HB := Lib.hid (HB.out.trans (hb11.mono HB.out.size))
                have HE := Lib.hid (HE.out.pass hb11)
                have ga := ga.pass hb11
                have gc := gc.pass hb11
                have gs := gs.pass hb11
                have gx := gx.pass hb11
                have gy := gy.pass hb11
                have gz := gz.pass hb11
                have gm := gm.pass hb11
                clear hb11 hr0 ok0
                have HB := Lib.hid (HB.out.alloc HB.out.size (.cells #[.string (qN hf), .string (qD hf)] 46))
                have HE := Lib.hid (HE.out.alloc (.cells #[.string (qN hf), .string (qD hf)] 46))
                have ga := ga.alloc (.cells #[.string (qN hf), .string (qD hf)] 46)
                have gc := gc.alloc (.cells #[.string (qN hf), .string (qD hf)] 46)
                have gs := gs.alloc (.cells #[.string (qN hf), .string (qD hf)] 46)
                have gx := gx.alloc (.cells #[.string (qN hf), .string (qD hf)] 46)
                have gy := gy.alloc (.cells #[.string (qN hf), .string (qD hf)] 46)
                have gz := gz.alloc (.cells #[.string (qN hf), .string (qD hf)] 46)
                have gm := gm.alloc (.cells #[.string (qN hf), .string (qD hf)] 46)
                have gh := Blk.new w11 #[.string (qN hf), .string (qD hf)] 46
                obtain ⟨⟨c0_0, c0_1⟩, _, _⟩ := gx.two
                obtain ⟨⟨c1_0, c1_1⟩, _, _⟩ := gy.two
                go_wp2_with fail
                have HBO := Lib.hid (PK.out.both HXX.out.1 HYY.out.1)
                refine ((add_q x y HXX.out.2 HYY.out.2 HBO.out.1 HE.out.2.1.1).mono (fun _ _ h => got_r HBO.out.1 h)).mono ?_
                rintro e w12 ⟨bo, ⟨rfl, hr0, ok0⟩, hb12⟩
                have HBB := Lib.hid (And.intro hr0 ok0)
                clear c0_0 c0_1 c1_0 c1_1
                have HB := Lib.hid (HB.out.trans (hb12.mono HB.out.size))
                have HE := Lib.hid (HE.out.pass hb12)
                have ga := ga.pass hb12
                have gc := gc.pass hb12
                have gs := gs.pass hb12
                have gx := gx.pass hb12
                have gy := gy.pass hb12
                have gz := gz.pass hb12
                have gm := gm.pass hb12
                have gh := gh.pass hb12
                clear hb12 hr0 ok0
                have HB := Lib.hid (HB.out.alloc HB.out.size (.cells #[.string (qN bo), .string (qD bo)] 46))
                have HE := Lib.hid (HE.out.alloc (.cells #[.string (qN bo), .string (qD bo)] 46))
                have ga := ga.alloc (.cells #[.string (qN bo), .string (qD bo)] 46)
                have gc := gc.alloc (.cells #[.string (qN bo), .string (qD bo)] 46)
                have gs := gs.alloc (.cells #[.string (qN bo), .string (qD bo)] 46)
                have gx := gx.alloc (.cells #[.string (qN bo), .string (qD bo)] 46)
                have gy := gy.alloc (.cells #[.string (qN bo), .string (qD bo)] 46)
                have gz := gz.alloc (.cells #[.string (qN bo), .string (qD bo)] 46)
                have gm := gm.alloc (.cells #[.string (qN bo), .string (qD bo)] 46)
                have gh := gh.alloc (.cells #[.string (qN bo), .string (qD bo)] 46)
                have gb2 := Blk.new w12 #[.string (qN bo), .string (qD bo)] 46
                obtain ⟨⟨c0_0, c0_1⟩, _, _⟩ := gh.two
                go_wp2_with fail
                have HTO := Lib.hid (PK.out.twice (m := mid) (by rw [HMM.out.1, HS.out.1]) HHF.out.1)
                refine ((add_q hf hf HHF.out.2 HHF.out.2 HTO.out HE.out.2.1.1).mono (fun _ _ h => got_r HTO.out h)).mono ?_
                rintro e w13 ⟨tw, ⟨rfl, hr0, ok0⟩, hb13⟩
                have HTT := Lib.hid (And.intro hr0 ok0)
                clear c0_0 c0_1
                have HB := Lib.hid (HB.out.trans (hb13.mono HB.out.size))
                have HE := Lib.hid (HE.out.pass hb13)
                have ga := ga.pass hb13
                have gc := gc.pass hb13
                have gs := gs.pass hb13
                have gx := gx.pass hb13
                have gy := gy.pass hb13
                have gz := gz.pass hb13
                have gm := gm.pass hb13
                have gh := gh.pass hb13
                have gb2 := gb2.pass hb13
                clear hb13 hr0 ok0
                have HB := Lib.hid (HB.out.alloc HB.out.size (.cells #[.string (qN tw), .string (qD tw)] 46))
                have HE := Lib.hid (HE.out.alloc (.cells #[.string (qN tw), .string (qD tw)] 46))
                have ga := ga.alloc (.cells #[.string (qN tw), .string (qD tw)] 46)
                have gc := gc.alloc (.cells #[.string (qN tw), .string (qD tw)] 46)
                have gs := gs.alloc (.cells #[.string (qN tw), .string (qD tw)] 46)
                have gx := gx.alloc (.cells #[.string (qN tw), .string (qD tw)] 46)
                have gy := gy.alloc (.cells #[.string (qN tw), .string (qD tw)] 46)
                have gz := gz.alloc (.cells #[.string (qN tw), .string (qD tw)] 46)
                have gm := gm.alloc (.cells #[.string (qN tw), .string (qD tw)] 46)
                have gh := gh.alloc (.cells #[.string (qN tw), .string (qD tw)] 46)
                have gb2 := gb2.alloc (.cells #[.string (qN tw), .string (qD tw)] 46)
                have gt := Blk.new w13 #[.string (qN tw), .string (qD tw)] 46
                obtain ⟨⟨c0_0, c0_1⟩, _, _⟩ := gz.two
                obtain ⟨⟨c1_0, c1_1⟩, _, _⟩ := gb2.two
                go_wp2_with fail
                have HLAW := Lib.hid (PK.out.law HS.out.1 HXX.out.1 HYY.out.1 HZZ.out.1 HMM.out.1 HHF.out.1 HBB.out.1 HTT.out.1)
                refine (cmp_q z bo HZZ.out.2 HBB.out.2 _).mono ?_
                rintro e w21 ⟨rfl, hb21⟩
                clear c0_0 c0_1 c1_0 c1_1
                have HB := Lib.hid (HB.out.trans (hb21.mono HB.out.size))
                have HE := Lib.hid (HE.out.pass hb21)
                have ga := ga.pass hb21
                have gc := gc.pass hb21
                have gs := gs.pass hb21
                have gx := gx.pass hb21
                have gy := gy.pass hb21
                have gz := gz.pass hb21
                have gm := gm.pass hb21
                have gh := gh.pass hb21
                have gb2 := gb2.pass hb21
                have gt := gt.pass hb21
                have hle : cmpQ z bo ≤ 0 := cmp_notgt HLAW.out.1
                generalize cmpQ z bo = cv at hle ⊢
                clear hb21
                obtain ⟨⟨c0_0, c0_1⟩, _, _⟩ := gb2.two
                obtain ⟨⟨c1_0, c1_1⟩, _, _⟩ := gt.two
                go_wp2_with fail
                clear hle
                refine (cmp_q bo tw HBB.out.2 HTT.out.2 _).mono ?_
                rintro e w22 ⟨rfl, hb22⟩
                clear c0_0 c0_1 c1_0 c1_1
                have HB := Lib.hid (HB.out.trans (hb22.mono HB.out.size))
                have HE := Lib.hid (HE.out.pass hb22)
                have ga := ga.pass hb22
                have gc := gc.pass hb22
                have gs := gs.pass hb22
                have gx := gx.pass hb22
                have gy := gy.pass hb22
                have gz := gz.pass hb22
                have gm := gm.pass hb22
                have gh := gh.pass hb22
                have gb2 := gb2.pass hb22
                have gt := gt.pass hb22
                have hle : cmpQ bo tw ≤ 0 := cmp_notgt HLAW.out.2
                generalize cmpQ bo tw = cv at hle ⊢
                clear hb22
                go_wp2_with fail
                clear hle
                go_ret
                exact ⟨rfl, HB.out⟩
            ·
              go_simp
              refine hK.out _ _ (holdJ ?_ (fun hCells => ?_))
              · clear hK; (try dsimp only); exact ⟨pc (below_alloc _ _) hCells.1, pc (below_alloc _ _) hCells.2⟩
              clear hK K
              have gb := Blk.new W0 #[.string ⟨#[]⟩, .string ⟨#[]⟩] 46
              obtain ⟨bs, hbs⟩ : ∃ bs, bs = W0.heap.size := ⟨_, rfl⟩
              have hge : W0.heap.size ≤ bs := by rw [hbs]; exact HX.out.size
              have HX := Lib.hid (HX.out.alloc HX.out.size (.cells #[.string ⟨#[]⟩, .string ⟨#[]⟩] 46))
              rw [← hbs] at gb ⊢
              clear hbs
              generalize W0.alloc (.cells #[.string ⟨#[]⟩, .string ⟨#[]⟩] 46) = va_0 at gb HX hCells ⊢
              try simp only [Act.put, List.setIfInBounds_toArray, List.set_cons_zero, List.set_cons_succ]
              refine oneJ 1 (by kernel_rfl) rfl (fun K hK => ?_)
              go_simp
              refine ⟨rfl, ?_⟩
              refine (callsIn_wide.2 (of12 _ (HE.out.2.1.1.below HX.out (Nat.le_refl _)))).mono ?_
              rintro e v1_1 ⟨rfl, hv⟩
              refine hK.out _ _ (holdJ ?_ (fun hCells => ?_))
              · clear hK; (try dsimp only); exact ⟨pc hv hCells.1, pc hv hCells.2⟩
              clear hK K
              have HX := Lib.hid (HX.out.trans (hv.mono HX.out.size))
              have gb := gb.pass hv
              clear hv
              try simp only [Act.put, List.setIfInBounds_toArray, List.set_cons_zero, List.set_cons_succ]
              refine oneJ 2 (by kernel_rfl) rfl (fun K hK => ?_)
              go_simp
              refine ⟨rfl, ?_⟩
              refine (callsIn_wide.2 ((mul_q sm1 (mkRat 1 2) HMU.out.1 half_ok.1 HMU.out.2 (HE.out.2.1.1.below HX.out (Nat.le_refl _))).mono (fun _ _ h => got_r HMU.out.2 h))).mono ?_
              rintro e v2_2 ⟨mid, ⟨rfl, hr0, ok0⟩, hv⟩
              have HMM := Lib.hid (And.intro hr0 ok0)
              clear hr0 ok0
              refine hK.out _ _ (holdJ ?_ (fun hCells => ?_))
              · clear hK; (try dsimp only); exact ⟨pc hv hCells.1, pc hv hCells.2⟩
              clear hK K
              have HX := Lib.hid (HX.out.trans (hv.mono HX.out.size))
              have gb := gb.pass hv
              clear hv
              try simp only [Act.put, List.setIfInBounds_toArray, List.set_cons_zero, List.set_cons_succ]
              refine takeB hfnR (by kernel_rfl) 3 (v := ?_) rfl (by kernel_rfl) (fun _ _ _ h => h) (by kernel_rfl) hCells (Or.inl ⟨by rfl, ?_⟩) ?_
              rotate_left 1
              · intro w hSw; (try dsimp only at hSw); go_simp; (try with_reducible rfl)
              try simp only [Act.put, List.setIfInBounds_toArray, List.set_cons_zero, List.set_cons_succ]
              refine takeB hfnR (by kernel_rfl) 4 (v := ?_) rfl (by kernel_rfl) (fun _ _ _ h => h) (by kernel_rfl) hCells (Or.inl ⟨by rfl, ?_⟩) ?_
              rotate_left 1
              · intro w hSw; (try dsimp only at hSw); go_simp; (try with_reducible rfl)
              try simp only [Act.put, List.setIfInBounds_toArray, List.set_cons_zero, List.set_cons_succ]
              refine takeB hfnR (by kernel_rfl) 5 (v := ?_) rfl (by kernel_rfl) (fun _ _ _ h => h) (by kernel_rfl) hCells (Or.inl ⟨by rfl, ?_⟩) ?_
              rotate_left 1
              · intro w hSw; (try dsimp only at hSw); go_simp; (try with_reducible rfl)
              try simp only [Act.put, List.setIfInBounds_toArray, List.set_cons_zero, List.set_cons_succ]
              obtain ⟨⟨r0, r1⟩, f0, f1⟩ := gb.two
              refine oneJ 7 (by kernel_rfl) rfl (fun K hK => ?_)
              go_simp
              refine hK.out _ _ (holdJ ?_ (fun hCells => ?_))
              · clear hK; (try dsimp only); exact ⟨far2 hCells.1 (by omega), far2 hCells.2 (by omega)⟩
              clear hK K r0 r1 f0 f1
              try simp only [Act.put, List.setIfInBounds_toArray, List.set_cons_zero, List.set_cons_succ]
              refine takeB hfnR (by kernel_rfl) 8 (v := ?_) rfl (by kernel_rfl) (fun _ _ _ h => h) (by kernel_rfl) hCells (Or.inl ⟨by rfl, ?_⟩) ?_
              rotate_left 1
              · intro w hSw; (try dsimp only at hSw); go_simp; (try with_reducible rfl)
              try simp only [Act.put, List.setIfInBounds_toArray, List.set_cons_zero, List.set_cons_succ]
              refine wpAnyJ_done (by kernel_rfl) (NoPan.normal ?_) _
              have HX := Lib.hid ((HX.out.setCell (p := ⟨bs, 0, none⟩) hge (.string (qN mid))).setCell (p := ⟨bs, 1, none⟩) hge (.string (qD mid)))
              have gm := (gb.set 0 (.string (qN mid))).set 1 (.string (qD mid))
              have ga := ga.below HX.out ga.lt
              have gc := gc.below HX.out gc.lt
              have gs := gs.below HX.out gs.lt
              have gx := gx.below HX.out gx.lt
              have gy := gy.below HX.out gy.lt
              have gz := gz.below HX.out gz.lt
              have HB := Lib.hid (HB.out.trans (HX.out.mono HB.out.size))
              have HE := Lib.hid (HE.out.pass HX.out)
              clear HX gb hCells hsrc hge
              generalize (v2_2.setCell ⟨bs, 0, none⟩ (.string (qN mid))).setCell ⟨bs, 1, none⟩ (.string (qD mid)) = W1 at HB HE ga gc gs gx gy gz gm ⊢
              obtain ⟨⟨c0_0, c0_1⟩, _, _⟩ := gm.two
              go_wp2_with fail
              have HMS := Lib.hid (show okQ mid ∧ sm 300 mid by rw [HMM.out.1]; exact ⟨HSO.out.2.2.1, HSO.out.2.2.2.mono (by decide)⟩)
              refine (TE.out _ HE.out mid HMS.out.1 HMS.out.2).mono ?_
              rintro e w11 ⟨hf, ⟨rfl, hr0, ok0⟩, hb11⟩
              have HHF := Lib.hid (And.intro hr0 ok0)
              clear c0_0 c0_1
              have HB := Lib.hid (HB.out.trans (hb11.mono HB.out.size))
              have HE := Lib.hid (HE.out.pass hb11)
              have ga := ga.pass hb11
              have gc := gc.pass hb11
              have gs := gs.pass hb11
              have gx := gx.pass hb11
              have gy := gy.pass hb11
              have gz := gz.pass hb11
              have gm := gm.pass hb11
              clear hb11 hr0 ok0
              have HB := Lib.hid (HB.out.alloc HB.out.size (.cells #[.string (qN hf), .string (qD hf)] 46))
              have HE := Lib.hid (HE.out.alloc (.cells #[.string (qN hf), .string (qD hf)] 46))
              have ga := ga.alloc (.cells #[.string (qN hf), .string (qD hf)] 46)
              have gc := gc.alloc (.cells #[.string (qN hf), .string (qD hf)] 46)
              have gs := gs.alloc (.cells #[.string (qN hf), .string (qD hf)] 46)
              have gx := gx.alloc (.cells #[.string (qN hf), .string (qD hf)] 46)
              have gy := gy.alloc (.cells #[.string (qN hf), .string (qD hf)] 46)
              have gz := gz.alloc (.cells #[.string (qN hf), .string (qD hf)] 46)
              have gm := gm.alloc (.cells #[.string (qN hf), .string (qD hf)] 46)
              have gh := Blk.new w11 #[.string (qN hf), .string (qD hf)] 46
              obtain ⟨⟨c0_0, c0_1⟩, _, _⟩ := gx.two
              obtain ⟨⟨c1_0, c1_1⟩, _, _⟩ := gy.two
              go_wp2_with fail
              have HBO := Lib.hid (PK.out.both HXX.out.1 HYY.out.1)
              refine ((add_q x y HXX.out.2 HYY.out.2 HBO.out.1 HE.out.2.1.1).mono (fun _ _ h => got_r HBO.out.1 h)).mono ?_
              rintro e w12 ⟨bo, ⟨rfl, hr0, ok0⟩, hb12⟩
              have HBB := Lib.hid (And.intro hr0 ok0)
              clear c0_0 c0_1 c1_0 c1_1
              have HB := Lib.hid (HB.out.trans (hb12.mono HB.out.size))
              have HE := Lib.hid (HE.out.pass hb12)
              have ga := ga.pass hb12
              have gc := gc.pass hb12
              have gs := gs.pass hb12
              have gx := gx.pass hb12
              have gy := gy.pass hb12
              have gz := gz.pass hb12
              have gm := gm.pass hb12
              have gh := gh.pass hb12
              clear hb12 hr0 ok0
              have HB := Lib.hid (HB.out.alloc HB.out.size (.cells #[.string (qN bo), .string (qD bo)] 46))
              have HE := Lib.hid (HE.out.alloc (.cells #[.string (qN bo), .string (qD bo)] 46))
              have ga := ga.alloc (.cells #[.string (qN bo), .string (qD bo)] 46)
              have gc := gc.alloc (.cells #[.string (qN bo), .string (qD bo)] 46)
              have gs := gs.alloc (.cells #[.string (qN bo), .string (qD bo)] 46)
              have gx := gx.alloc (.cells #[.string (qN bo), .string (qD bo)] 46)
              have gy := gy.alloc (.cells #[.string (qN bo), .string (qD bo)] 46)
              have gz := gz.alloc (.cells #[.string (qN bo), .string (qD bo)] 46)
              have gm := gm.alloc (.cells #[.string (qN bo), .string (qD bo)] 46)
              have gh := gh.alloc (.cells #[.string (qN bo), .string (qD bo)] 46)
              have gb2 := Blk.new w12 #[.string (qN bo), .string (qD bo)] 46
              obtain ⟨⟨c0_0, c0_1⟩, _, _⟩ := gh.two
              go_wp2_with fail
              have HTO := Lib.hid (PK.out.twice (m := mid) (by rw [HMM.out.1, HS.out.1]) HHF.out.1)
              refine ((add_q hf hf HHF.out.2 HHF.out.2 HTO.out HE.out.2.1.1).mono (fun _ _ h => got_r HTO.out h)).mono ?_
              rintro e w13 ⟨tw, ⟨rfl, hr0, ok0⟩, hb13⟩
              have HTT := Lib.hid (And.intro hr0 ok0)
              clear c0_0 c0_1
              have HB := Lib.hid (HB.out.trans (hb13.mono HB.out.size))
              have HE := Lib.hid (HE.out.pass hb13)
              have ga := ga.pass hb13
              have gc := gc.pass hb13
              have gs := gs.pass hb13
              have gx := gx.pass hb13
              have gy := gy.pass hb13
              have gz := gz.pass hb13
              have gm := gm.pass hb13
              have gh := gh.pass hb13
              have gb2 := gb2.pass hb13
              clear hb13 hr0 ok0
              have HB := Lib.hid (HB.out.alloc HB.out.size (.cells #[.string (qN tw), .string (qD tw)] 46))
              have HE := Lib.hid (HE.out.alloc (.cells #[.string (qN tw), .string (qD tw)] 46))
              have ga := ga.alloc (.cells #[.string (qN tw), .string (qD tw)] 46)
              have gc := gc.alloc (.cells #[.string (qN tw), .string (qD tw)] 46)
              have gs := gs.alloc (.cells #[.string (qN tw), .string (qD tw)] 46)
              have gx := gx.alloc (.cells #[.string (qN tw), .string (qD tw)] 46)
              have gy := gy.alloc (.cells #[.string (qN tw), .string (qD tw)] 46)
              have gz := gz.alloc (.cells #[.string (qN tw), .string (qD tw)] 46)
              have gm := gm.alloc (.cells #[.string (qN tw), .string (qD tw)] 46)
              have gh := gh.alloc (.cells #[.string (qN tw), .string (qD tw)] 46)
              have gb2 := gb2.alloc (.cells #[.string (qN tw), .string (qD tw)] 46)
              have gt := Blk.new w13 #[.string (qN tw), .string (qD tw)] 46
              obtain ⟨⟨c0_0, c0_1⟩, _, _⟩ := gz.two
              obtain ⟨⟨c1_0, c1_1⟩, _, _⟩ := gb2.two
              go_wp2_with fail
              have HLAW := Lib.hid (PK.out.law HS.out.1 HXX.out.1 HYY.out.1 HZZ.out.1 HMM.out.1 HHF.out.1 HBB.out.1 HTT.out.1)
              refine (cmp_q z bo HZZ.out.2 HBB.out.2 _).mono ?_
              rintro e w21 ⟨rfl, hb21⟩
              clear c0_0 c0_1 c1_0 c1_1
              have HB := Lib.hid (HB.out.trans (hb21.mono HB.out.size))
              have HE := Lib.hid (HE.out.pass hb21)
              have ga := ga.pass hb21
              have gc := gc.pass hb21
              have gs := gs.pass hb21
              have gx := gx.pass hb21
              have gy := gy.pass hb21
              have gz := gz.pass hb21
              have gm := gm.pass hb21
              have gh := gh.pass hb21
              have gb2 := gb2.pass hb21
              have gt := gt.pass hb21
              have hle : cmpQ z bo ≤ 0 := cmp_notgt HLAW.out.1
              generalize cmpQ z bo = cv at hle ⊢
              clear hb21
              obtain ⟨⟨c0_0, c0_1⟩, _, _⟩ := gb2.two
              obtain ⟨⟨c1_0, c1_1⟩, _, _⟩ := gt.two
              go_wp2_with fail
              clear hle
              refine (cmp_q bo tw HBB.out.2 HTT.out.2 _).mono ?_
              rintro e w22 ⟨rfl, hb22⟩
              clear c0_0 c0_1 c1_0 c1_1
              have HB := Lib.hid (HB.out.trans (hb22.mono HB.out.size))
              have HE := Lib.hid (HE.out.pass hb22)
              have ga := ga.pass hb22
              have gc := gc.pass hb22
              have gs := gs.pass hb22
              have gx := gx.pass hb22
              have gy := gy.pass hb22
              have gz := gz.pass hb22
              have gm := gm.pass hb22
              have gh := gh.pass hb22
              have gb2 := gb2.pass hb22
              have gt := gt.pass hb22
              have hle : cmpQ bo tw ≤ 0 := cmp_notgt HLAW.out.2
              generalize cmpQ bo tw = cv at hle ⊢
              clear hb22
              go_wp2_with fail
              clear hle
              go_ret
              exact ⟨rfl, HB.out⟩
      · have HB := Lib.hid (HB.out.trans (hb4.mono HB.out.size))
        clear hb4 hcv
        go_wp2_with fail
        go_ret
        exact ⟨rfl, HB.out⟩
end Go.Proofs.Cr
