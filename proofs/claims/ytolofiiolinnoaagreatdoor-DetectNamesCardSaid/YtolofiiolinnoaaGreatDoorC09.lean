/- Contracts of functions that the laws reach, and plain lemmas. Part 9. -/
import Derived.Test.YtolofiiolinnoaaGreatDoorC08
set_option linter.all false
namespace Go.Proofs.Cr
open Go.RowKit Go.Shelf
attribute [local go_sem] Oper.semAt_some

/-- What the line from one point to another one needs to be reckoned. -/
structure AlongOK (x y u v t : Rat) : Prop where
  hx : okQ x
  hy : okQ y
  hu : okQ u
  hv : okQ v
  ht : okQ t
  s1 : okQ (v - u)
  s2 : okQ (y - x)
  n2 : y - x ≠ 0
  s3 : okQ ((v - u) / (y - x))
  s4 : okQ (t - x)
  s5 : okQ ((v - u) / (y - x) * (t - x))
  s6 : okQ (u + (v - u) / (y - x) * (t - x))
theorem six_new (w : World) (c1 c2 c3 c4 c5 c6 : Array Value) :
    (Blk ((((((w.alloc (.cells c1 46)).alloc (.cells c2 46)).alloc (.cells c3 46)).alloc (.cells c4 46)).alloc (.cells c5 46)).alloc (.cells c6 46)) w.heap.size c1 46 ∧
    Blk ((((((w.alloc (.cells c1 46)).alloc (.cells c2 46)).alloc (.cells c3 46)).alloc (.cells c4 46)).alloc (.cells c5 46)).alloc (.cells c6 46)) (w.heap.size + 1) c2 46 ∧
    Blk ((((((w.alloc (.cells c1 46)).alloc (.cells c2 46)).alloc (.cells c3 46)).alloc (.cells c4 46)).alloc (.cells c5 46)).alloc (.cells c6 46)) (w.heap.size + 1 + 1) c3 46) ∧
    (Blk ((((((w.alloc (.cells c1 46)).alloc (.cells c2 46)).alloc (.cells c3 46)).alloc (.cells c4 46)).alloc (.cells c5 46)).alloc (.cells c6 46)) (w.heap.size + 1 + 1 + 1) c4 46 ∧
    Blk ((((((w.alloc (.cells c1 46)).alloc (.cells c2 46)).alloc (.cells c3 46)).alloc (.cells c4 46)).alloc (.cells c5 46)).alloc (.cells c6 46)) (w.heap.size + 1 + 1 + 1 + 1) c5 46 ∧
    Blk ((((((w.alloc (.cells c1 46)).alloc (.cells c2 46)).alloc (.cells c3 46)).alloc (.cells c4 46)).alloc (.cells c5 46)).alloc (.cells c6 46)) (w.heap.size + 1 + 1 + 1 + 1 + 1) c6 46) ∧
    Below w.heap.size w ((((((w.alloc (.cells c1 46)).alloc (.cells c2 46)).alloc (.cells c3 46)).alloc (.cells c4 46)).alloc (.cells c5 46)).alloc (.cells c6 46)) := by
  obtain ⟨h1, h2, h3, h4⟩ := three_new w c1 c2 c3 46 46 46
  obtain ⟨k1, k2, k3, k4⟩ := three_new (((w.alloc (.cells c1 46)).alloc (.cells c2 46)).alloc (.cells c3 46)) c4 c5 c6 46 46 46
  simp only [World.size_alloc] at k1 k2 k3
  exact ⟨⟨((h1.alloc _).alloc _).alloc _, ((h2.alloc _).alloc _).alloc _, ((h3.alloc _).alloc _).alloc _⟩, ⟨k1, k2, k3⟩, h4.trans (k4.mono h4.size)⟩
def SlopeI (n m : Nat) (w : World) (b1 b2 b3 b4 b5 br : Nat) (x y u v t : Rat) (_ a' : Act) (W : World) : Prop :=
  ∃ (b11 : Nat) (e0 e1 e2 e3 e4 e12 e13 e14 e15 e16 e17 e18 e19 e20 e21 e22 e23 e24 e25 e26 e27 e28 e29 e30 e31 e32 e33 e34 e35 e36 e37 e38 e39 e40 e41 e42 e43 : Value), a' = { tmps := #[e0, e1, e2, e3, e4, .pointer (some ⟨b1, 0, none⟩), .pointer (some ⟨b2, 0, none⟩), .pointer (some ⟨b3, 0, none⟩), .pointer (some ⟨b4, 0, none⟩), .pointer (some ⟨b5, 0, none⟩), .pointer (some ⟨br, 0, none⟩), .pointer (some ⟨b11, 0, none⟩), e12, e13, e14, e15, e16, e17, e18, e19, e20, e21, e22, e23, e24, e25, e26, e27, e28, e29, e30, e31, e32, e33, e34, e35, e36, e37, e38, e39, e40, e41, e42, e43], defers := [] } ∧
    Blk W b11 #[.string (qN ((v - u) / (y - x))), .string (qD ((v - u) / (y - x)))] 46 ∧ m ≤ b11 ∧
    (Blk W b1 #[.string (qN x), .string (qD x)] 46 ∧ Blk W b2 #[.string (qN y), .string (qD y)] 46 ∧ Blk W b3 #[.string (qN u), .string (qD u)] 46) ∧ (Blk W b4 #[.string (qN v), .string (qD v)] 46 ∧ Blk W b5 #[.string (qN t), .string (qD t)] 46 ∧ Blk W br #[.string ⟨#[]⟩, .string ⟨#[]⟩] 46) ∧ Kept n m w W
set_option maxRecDepth 100000 in
set_option maxHeartbeats 4000000 in
theorem along_q (x y u v t : Rat) (h : AlongOK x y u v t) (w : World) (hT : TabW w) :
    Calls Tryz.prog 75 #[.agg #[.string (qN x), .string (qD x)], .agg #[.string (qN y), .string (qD y)], .agg #[.string (qN u), .string (qD u)], .agg #[.string (qN v), .string (qD v)], .agg #[.string (qN t), .string (qD t)]] w fun e w' => e = .returned (.agg #[.string (qN (u + (v - u) / (y - x) * (t - x))), .string (qD (u + (v - u) / (y - x) * (t - x)))]) ∧ Below w.heap.size w w' := by
  obtain ⟨⟨hA1, hA2, hA3⟩, ⟨hA4, hA5, hA6⟩, hW1⟩ := six_new w #[.string (qN x), .string (qD x)] #[.string (qN y), .string (qD y)] #[.string (qN u), .string (qD u)] #[.string (qN v), .string (qD v)] #[.string (qN t), .string (qD t)] #[.string ⟨#[]⟩, .string ⟨#[]⟩]
  have H := Lib.hid h
  have HT := Lib.hid hT
  have HW1 := Lib.hid hW1
  clear hW1 hT h
  go_enter Tryz.func75, Tryz.ntmps75
  go_wp2_with fail
  have hm : Tryz.prog.follows .mixedOrders = true := by kernel_rfl
  have hfnR : ∀ f, Fence.wide.fn f := fun _ => trivial
  refine wp_region_I (SlopeI w.heap.size (w.heap.size + 6) w (w.heap.size) (w.heap.size + 1) (w.heap.size + 1 + 1) (w.heap.size + 1 + 1 + 1) (w.heap.size + 1 + 1 + 1 + 1) (w.heap.size + 1 + 1 + 1 + 1 + 1) x y u v t) (fun W => Kept w.heap.size (w.heap.size + 6) w W ∧ (Blk W (w.heap.size) #[.string (qN x), .string (qD x)] 46 ∧ Blk W (w.heap.size + 1) #[.string (qN y), .string (qD y)] 46 ∧ Blk W (w.heap.size + 1 + 1) #[.string (qN u), .string (qD u)] 46) ∧ (Blk W (w.heap.size + 1 + 1 + 1) #[.string (qN v), .string (qD v)] 46 ∧ Blk W (w.heap.size + 1 + 1 + 1 + 1) #[.string (qN t), .string (qD t)] 46 ∧ Blk W (w.heap.size + 1 + 1 + 1 + 1 + 1) #[.string ⟨#[]⟩, .string ⟨#[]⟩] 46))
    (fun W => (W.cell? ⟨w.heap.size, 0, none⟩ = some (.string (qN x)) ∧ W.cell? ⟨w.heap.size, 1, none⟩ = some (.string (qD x))) ∧ (W.cell? ⟨w.heap.size + 1, 0, none⟩ = some (.string (qN y)) ∧ W.cell? ⟨w.heap.size + 1, 1, none⟩ = some (.string (qD y))) ∧ (W.cell? ⟨w.heap.size + 1 + 1, 0, none⟩ = some (.string (qN u)) ∧ W.cell? ⟨w.heap.size + 1 + 1, 1, none⟩ = some (.string (qD u))) ∧ (W.cell? ⟨w.heap.size + 1 + 1 + 1, 0, none⟩ = some (.string (qN v)) ∧ W.cell? ⟨w.heap.size + 1 + 1 + 1, 1, none⟩ = some (.string (qD v))) ∧ (W.cell? ⟨w.heap.size + 1 + 1 + 1 + 1, 0, none⟩ = some (.string (qN t)) ∧ W.cell? ⟨w.heap.size + 1 + 1 + 1 + 1, 1, none⟩ = some (.string (qD t)))) [] hm ⟨hA1.drew.two.1, hA2.drew.two.1, hA3.drew.two.1, hA4.drew.two.1, hA5.drew.two.1⟩ ⟨Kept.of (by omega) (by simp) HW1.out.drew, ⟨hA1.drew, hA2.drew, hA3.drew⟩, hA4.drew, hA5.drew, hA6.drew⟩ ?_ ?_
  · clear hA1 hA2 hA3 hA4 hA5 hA6 HW1
    rintro W0 hCells ⟨hk, ⟨g1, g2, g3⟩, g4, g5, g6⟩
    refine takeJ hfnR (by kernel_rfl) 0 (v := ?_) rfl (by kernel_rfl) (fun _ _ _ h => h) (by kernel_rfl) hCells (Or.inl ⟨by rfl, ?_⟩) ?_
    rotate_left 1
    · intro w hSw; (try dsimp only at hSw); go_simp; (try with_reducible rfl)
    try simp only [Act.put, List.setIfInBounds_toArray, List.set_cons_zero, List.set_cons_succ]
    refine takeJ hfnR (by kernel_rfl) 1 (v := ?_) rfl (by kernel_rfl) (fun _ _ _ h => h) (by kernel_rfl) hCells (Or.inl ⟨by rfl, ?_⟩) ?_
    rotate_left 1
    · intro w hSw; (try dsimp only at hSw); go_simp; (try with_reducible rfl)
    try simp only [Act.put, List.setIfInBounds_toArray, List.set_cons_zero, List.set_cons_succ]
    refine takeJ hfnR (by kernel_rfl) 6 (v := ?_) rfl (by kernel_rfl) (fun _ _ _ h => h) (by kernel_rfl) hCells (Or.inl ⟨by rfl, ?_⟩) ?_
    rotate_left 1
    · intro w hSw; (try dsimp only at hSw); go_simp; (try with_reducible rfl)
    try simp only [Act.put, List.setIfInBounds_toArray, List.set_cons_zero, List.set_cons_succ]
    refine takeJ hfnR (by kernel_rfl) 7 (v := ?_) rfl (by kernel_rfl) (fun _ _ _ h => h) (by kernel_rfl) hCells (Or.inl ⟨by rfl, ?_⟩) ?_
    rotate_left 1
    · intro w hSw; (try dsimp only at hSw); go_simp; (try with_reducible rfl)
    try simp only [Act.put, List.setIfInBounds_toArray, List.set_cons_zero, List.set_cons_succ]
    refine wpAnyJ_ready (rs := [2, 16]) (by kernel_rfl) (by simp) (consJ 2 rfl (fun K hK => ?_) (consJ 16 rfl (fun K hK => ?_) AllJ.nil))
    ·
      go_simp
      refine ⟨rfl, ?_⟩
      refine (callsIn_wide.2 (sub_q v u H.out.hv H.out.hu H.out.s1 (HT.out.below hk.2.2 (Nat.le_refl _)))).mono ?_; rintro e w2 ⟨rfl, hb2⟩
      have hk := hk.pass hb2
      have g1 := g1.pass hb2
      have g2 := g2.pass hb2
      have g3 := g3.pass hb2
      have g4 := g4.pass hb2
      have g5 := g5.pass hb2
      have g6 := g6.pass hb2
      refine hK.out _ _ (holdJ ?_ (fun hCells => ?_))
      · clear hK; (try dsimp only); exact ⟨⟨pc hb2 hCells.1.1, pc hb2 hCells.1.2⟩, ⟨pc hb2 hCells.2.1.1, pc hb2 hCells.2.1.2⟩, ⟨pc hb2 hCells.2.2.1.1, pc hb2 hCells.2.2.1.2⟩, ⟨pc hb2 hCells.2.2.2.1.1, pc hb2 hCells.2.2.2.1.2⟩, ⟨pc hb2 hCells.2.2.2.2.1, pc hb2 hCells.2.2.2.2.2⟩⟩
      clear hK K hb2
      try simp only [Act.put, List.setIfInBounds_toArray, List.set_cons_zero, List.set_cons_succ]
      refine takeJ hfnR (by kernel_rfl) 3 (v := ?_) rfl (by kernel_rfl) (fun _ _ _ h => h) (by kernel_rfl) hCells (Or.inl ⟨by rfl, ?_⟩) ?_
      rotate_left 1
      · intro w hSw; (try dsimp only at hSw); go_simp; (try with_reducible rfl)
      try simp only [Act.put, List.setIfInBounds_toArray, List.set_cons_zero, List.set_cons_succ]
      refine takeJ hfnR (by kernel_rfl) 4 (v := ?_) rfl (by kernel_rfl) (fun _ _ _ h => h) (by kernel_rfl) hCells (Or.inl ⟨by rfl, ?_⟩) ?_
      rotate_left 1
      · intro w hSw; (try dsimp only at hSw); go_simp; (try with_reducible rfl)
      try simp only [Act.put, List.setIfInBounds_toArray, List.set_cons_zero, List.set_cons_succ]
      refine wpAnyJ_ready (rs := [5, 16]) (by kernel_rfl) (by simp) (consJ 5 rfl (fun K hK => ?_) (consJ 16 rfl (fun K hK => ?_) AllJ.nil))
      ·
        go_simp
        refine ⟨rfl, ?_⟩
        refine (callsIn_wide.2 (must_ok _ _ _)).mono ?_; rintro e w3 ⟨rfl, hb3⟩
        have hk := hk.pass hb3
        have g1 := g1.pass hb3
        have g2 := g2.pass hb3
        have g3 := g3.pass hb3
        have g4 := g4.pass hb3
        have g5 := g5.pass hb3
        have g6 := g6.pass hb3
        refine hK.out _ _ (holdJ ?_ (fun hCells => ?_))
        · clear hK; (try dsimp only); exact ⟨⟨pc hb3 hCells.1.1, pc hb3 hCells.1.2⟩, ⟨pc hb3 hCells.2.1.1, pc hb3 hCells.2.1.2⟩, ⟨pc hb3 hCells.2.2.1.1, pc hb3 hCells.2.2.1.2⟩, ⟨pc hb3 hCells.2.2.2.1.1, pc hb3 hCells.2.2.2.1.2⟩, ⟨pc hb3 hCells.2.2.2.2.1, pc hb3 hCells.2.2.2.2.2⟩⟩
        clear hK K hb3
        try simp only [Act.put, List.setIfInBounds_toArray, List.set_cons_zero, List.set_cons_succ]
        refine wpAnyJ_ready (rs := [8, 16]) (by kernel_rfl) (by simp) (consJ 8 rfl (fun K hK => ?_) (consJ 16 rfl (fun K hK => ?_) AllJ.nil))
        ·
          go_simp
          refine ⟨rfl, ?_⟩
          refine (callsIn_wide.2 (sub_q y x H.out.hy H.out.hx H.out.s2 (HT.out.below hk.2.2 (Nat.le_refl _)))).mono ?_; rintro e w4 ⟨rfl, hb4⟩
          have hk := hk.pass hb4
          have g1 := g1.pass hb4
          have g2 := g2.pass hb4
          have g3 := g3.pass hb4
          have g4 := g4.pass hb4
          have g5 := g5.pass hb4
          have g6 := g6.pass hb4
          refine hK.out _ _ (holdJ ?_ (fun hCells => ?_))
          · clear hK; (try dsimp only); exact ⟨⟨pc hb4 hCells.1.1, pc hb4 hCells.1.2⟩, ⟨pc hb4 hCells.2.1.1, pc hb4 hCells.2.1.2⟩, ⟨pc hb4 hCells.2.2.1.1, pc hb4 hCells.2.2.1.2⟩, ⟨pc hb4 hCells.2.2.2.1.1, pc hb4 hCells.2.2.2.1.2⟩, ⟨pc hb4 hCells.2.2.2.2.1, pc hb4 hCells.2.2.2.2.2⟩⟩
          clear hK K hb4
          try simp only [Act.put, List.setIfInBounds_toArray, List.set_cons_zero, List.set_cons_succ]
          refine takeJ hfnR (by kernel_rfl) 9 (v := ?_) rfl (by kernel_rfl) (fun _ _ _ h => h) (by kernel_rfl) hCells (Or.inl ⟨by rfl, ?_⟩) ?_
          rotate_left 1
          · intro w hSw; (try dsimp only at hSw); go_simp; (try with_reducible rfl)
          try simp only [Act.put, List.setIfInBounds_toArray, List.set_cons_zero, List.set_cons_succ]
          refine takeJ hfnR (by kernel_rfl) 10 (v := ?_) rfl (by kernel_rfl) (fun _ _ _ h => h) (by kernel_rfl) hCells (Or.inl ⟨by rfl, ?_⟩) ?_
          rotate_left 1
          · intro w hSw; (try dsimp only at hSw); go_simp; (try with_reducible rfl)
          try simp only [Act.put, List.setIfInBounds_toArray, List.set_cons_zero, List.set_cons_succ]
          refine wpAnyJ_ready (rs := [11, 16]) (by kernel_rfl) (by simp) (consJ 11 rfl (fun K hK => ?_) (consJ 16 rfl (fun K hK => ?_) AllJ.nil))
          ·
            go_simp
            refine ⟨rfl, ?_⟩
            refine (callsIn_wide.2 (must_ok _ _ _)).mono ?_; rintro e w5 ⟨rfl, hb5⟩
            have hk := hk.pass hb5
            have g1 := g1.pass hb5
            have g2 := g2.pass hb5
            have g3 := g3.pass hb5
            have g4 := g4.pass hb5
            have g5 := g5.pass hb5
            have g6 := g6.pass hb5
            refine hK.out _ _ (holdJ ?_ (fun hCells => ?_))
            · clear hK; (try dsimp only); exact ⟨⟨pc hb5 hCells.1.1, pc hb5 hCells.1.2⟩, ⟨pc hb5 hCells.2.1.1, pc hb5 hCells.2.1.2⟩, ⟨pc hb5 hCells.2.2.1.1, pc hb5 hCells.2.2.1.2⟩, ⟨pc hb5 hCells.2.2.2.1.1, pc hb5 hCells.2.2.2.1.2⟩, ⟨pc hb5 hCells.2.2.2.2.1, pc hb5 hCells.2.2.2.2.2⟩⟩
            clear hK K hb5
            try simp only [Act.put, List.setIfInBounds_toArray, List.set_cons_zero, List.set_cons_succ]
            refine wpAnyJ_ready (rs := [12, 16]) (by kernel_rfl) (by simp) (consJ 12 rfl (fun K hK => ?_) (consJ 16 rfl (fun K hK => ?_) AllJ.nil))
            ·
              go_simp
              refine ⟨rfl, ?_⟩
              refine (callsIn_wide.2 (div_q _ _ H.out.s1 H.out.s2 H.out.n2 H.out.s3 (HT.out.below hk.2.2 (Nat.le_refl _)))).mono ?_; rintro e w6 ⟨rfl, hb6⟩
              have hk := hk.pass hb6
              have g1 := g1.pass hb6
              have g2 := g2.pass hb6
              have g3 := g3.pass hb6
              have g4 := g4.pass hb6
              have g5 := g5.pass hb6
              have g6 := g6.pass hb6
              refine hK.out _ _ (holdJ ?_ (fun hCells => ?_))
              · clear hK; (try dsimp only); exact ⟨⟨pc hb6 hCells.1.1, pc hb6 hCells.1.2⟩, ⟨pc hb6 hCells.2.1.1, pc hb6 hCells.2.1.2⟩, ⟨pc hb6 hCells.2.2.1.1, pc hb6 hCells.2.2.1.2⟩, ⟨pc hb6 hCells.2.2.2.1.1, pc hb6 hCells.2.2.2.1.2⟩, ⟨pc hb6 hCells.2.2.2.2.1, pc hb6 hCells.2.2.2.2.2⟩⟩
              clear hK K hb6
              try simp only [Act.put, List.setIfInBounds_toArray, List.set_cons_zero, List.set_cons_succ]
              refine takeJ hfnR (by kernel_rfl) 13 (v := ?_) rfl (by kernel_rfl) (fun _ _ _ h => h) (by kernel_rfl) hCells (Or.inl ⟨by rfl, ?_⟩) ?_
              rotate_left 1
              · intro w hSw; (try dsimp only at hSw); go_simp; (try with_reducible rfl)
              try simp only [Act.put, List.setIfInBounds_toArray, List.set_cons_zero, List.set_cons_succ]
              refine takeJ hfnR (by kernel_rfl) 14 (v := ?_) rfl (by kernel_rfl) (fun _ _ _ h => h) (by kernel_rfl) hCells (Or.inl ⟨by rfl, ?_⟩) ?_
              rotate_left 1
              · intro w hSw; (try dsimp only at hSw); go_simp; (try with_reducible rfl)
              try simp only [Act.put, List.setIfInBounds_toArray, List.set_cons_zero, List.set_cons_succ]
              refine wpAnyJ_ready (rs := [15, 16]) (by kernel_rfl) (by simp) (consJ 15 rfl (fun K hK => ?_) (consJ 16 rfl (fun K hK => ?_) AllJ.nil))
              ·
                go_simp
                refine ⟨rfl, ?_⟩
                refine (callsIn_wide.2 (must_ok _ _ _)).mono ?_; rintro e w7 ⟨rfl, hb7⟩
                have hk := hk.pass hb7
                have g1 := g1.pass hb7
                have g2 := g2.pass hb7
                have g3 := g3.pass hb7
                have g4 := g4.pass hb7
                have g5 := g5.pass hb7
                have g6 := g6.pass hb7
                refine hK.out _ _ (holdJ ?_ (fun hCells => ?_))
                · clear hK; (try dsimp only); exact ⟨⟨pc hb7 hCells.1.1, pc hb7 hCells.1.2⟩, ⟨pc hb7 hCells.2.1.1, pc hb7 hCells.2.1.2⟩, ⟨pc hb7 hCells.2.2.1.1, pc hb7 hCells.2.2.1.2⟩, ⟨pc hb7 hCells.2.2.2.1.1, pc hb7 hCells.2.2.2.1.2⟩, ⟨pc hb7 hCells.2.2.2.2.1, pc hb7 hCells.2.2.2.2.2⟩⟩
                clear hK K hb7
                try simp only [Act.put, List.setIfInBounds_toArray, List.set_cons_zero, List.set_cons_succ]
                refine oneJ 16 (by kernel_rfl) rfl (fun K hK => ?_)
                go_simp
                have hk11 := Blk.new w7 #[.string ⟨#[]⟩, .string ⟨#[]⟩] 46
                have ge_hk11 := hk.2.1
                have hk := hk.alloc (.cells #[.string ⟨#[]⟩, .string ⟨#[]⟩] 46)
                have g1 := g1.alloc (.cells #[.string ⟨#[]⟩, .string ⟨#[]⟩] 46)
                have g2 := g2.alloc (.cells #[.string ⟨#[]⟩, .string ⟨#[]⟩] 46)
                have g3 := g3.alloc (.cells #[.string ⟨#[]⟩, .string ⟨#[]⟩] 46)
                have g4 := g4.alloc (.cells #[.string ⟨#[]⟩, .string ⟨#[]⟩] 46)
                have g5 := g5.alloc (.cells #[.string ⟨#[]⟩, .string ⟨#[]⟩] 46)
                have g6 := g6.alloc (.cells #[.string ⟨#[]⟩, .string ⟨#[]⟩] 46)
                refine hK.out _ _ (holdJ ?_ (fun hCells => ?_))
                · clear hK; (try dsimp only); exact ⟨⟨pc (below_alloc _ _) hCells.1.1, pc (below_alloc _ _) hCells.1.2⟩, ⟨pc (below_alloc _ _) hCells.2.1.1, pc (below_alloc _ _) hCells.2.1.2⟩, ⟨pc (below_alloc _ _) hCells.2.2.1.1, pc (below_alloc _ _) hCells.2.2.1.2⟩, ⟨pc (below_alloc _ _) hCells.2.2.2.1.1, pc (below_alloc _ _) hCells.2.2.2.1.2⟩, ⟨pc (below_alloc _ _) hCells.2.2.2.2.1, pc (below_alloc _ _) hCells.2.2.2.2.2⟩⟩
                clear hK K
                generalize w7.heap.size = b_hk11 at hk11 ge_hk11 ⊢
                generalize w7.alloc (.cells #[.string ⟨#[]⟩, .string ⟨#[]⟩] 46) = W_hk11 at hk g1 g2 g3 g4 g5 g6 hk11 hCells ⊢
                try simp only [Act.put, List.setIfInBounds_toArray, List.set_cons_zero, List.set_cons_succ]
                refine oneJ 17 (by kernel_rfl) rfl (fun K hK => ?_)
                obtain ⟨⟨r0, r1⟩, f0, f1⟩ := hk11.two
                go_simp
                refine hK.out _ _ (holdJ ?_ (fun hCells => ?_))
                · clear hK; (try dsimp only); (exact ⟨⟨far2 hCells.1.1 (by omega), far2 hCells.1.2 (by omega)⟩, ⟨far2 hCells.2.1.1 (by omega), far2 hCells.2.1.2 (by omega)⟩, ⟨far2 hCells.2.2.1.1 (by omega), far2 hCells.2.2.1.2 (by omega)⟩, ⟨far2 hCells.2.2.2.1.1 (by omega), far2 hCells.2.2.2.1.2 (by omega)⟩, ⟨far2 hCells.2.2.2.2.1 (by omega), far2 hCells.2.2.2.2.2 (by omega)⟩⟩)
                clear r0 r1 f0 f1
                have g1 := (g1.far (p := ⟨b_hk11, 0, none⟩) (by simp <;> omega) (.string (qN ((v - u) / (y - x))))).far (p := ⟨b_hk11, 1, none⟩) (by simp <;> omega) (.string (qD ((v - u) / (y - x))))
                have g2 := (g2.far (p := ⟨b_hk11, 0, none⟩) (by simp <;> omega) (.string (qN ((v - u) / (y - x))))).far (p := ⟨b_hk11, 1, none⟩) (by simp <;> omega) (.string (qD ((v - u) / (y - x))))
                have g3 := (g3.far (p := ⟨b_hk11, 0, none⟩) (by simp <;> omega) (.string (qN ((v - u) / (y - x))))).far (p := ⟨b_hk11, 1, none⟩) (by simp <;> omega) (.string (qD ((v - u) / (y - x))))
                have g4 := (g4.far (p := ⟨b_hk11, 0, none⟩) (by simp <;> omega) (.string (qN ((v - u) / (y - x))))).far (p := ⟨b_hk11, 1, none⟩) (by simp <;> omega) (.string (qD ((v - u) / (y - x))))
                have g5 := (g5.far (p := ⟨b_hk11, 0, none⟩) (by simp <;> omega) (.string (qN ((v - u) / (y - x))))).far (p := ⟨b_hk11, 1, none⟩) (by simp <;> omega) (.string (qD ((v - u) / (y - x))))
                have g6 := (g6.far (p := ⟨b_hk11, 0, none⟩) (by simp <;> omega) (.string (qN ((v - u) / (y - x))))).far (p := ⟨b_hk11, 1, none⟩) (by simp <;> omega) (.string (qD ((v - u) / (y - x))))
                have hk := (hk.set (p := ⟨b_hk11, 0, none⟩) ge_hk11 (.string (qN ((v - u) / (y - x))))).set (p := ⟨b_hk11, 1, none⟩) ge_hk11 (.string (qD ((v - u) / (y - x))))
                have hk11 := (hk11.set 0 (.string (qN ((v - u) / (y - x))))).set 1 (.string (qD ((v - u) / (y - x))))
                clear hK K
                try simp only [Act.put, List.setIfInBounds_toArray, List.set_cons_zero, List.set_cons_succ]
                refine wpAnyJ_done (by kernel_rfl) (NoPan.normal ?_) _
                exact ⟨rfl, _, _, _, _, _, _, _, _, _, _, _, _, _, _, _, _, _, _, _, _, _, _, _, _, _, _, _, _, _, _, _, _, _, _, _, _, _, _, rfl, hk11, ge_hk11, ⟨g1, g2, g3⟩, ⟨g4, g5, g6⟩, hk⟩
              ·
                go_simp
                have hk11 := Blk.new w6 #[.string ⟨#[]⟩, .string ⟨#[]⟩] 46
                have ge_hk11 := hk.2.1
                have hk := hk.alloc (.cells #[.string ⟨#[]⟩, .string ⟨#[]⟩] 46)
                have g1 := g1.alloc (.cells #[.string ⟨#[]⟩, .string ⟨#[]⟩] 46)
                have g2 := g2.alloc (.cells #[.string ⟨#[]⟩, .string ⟨#[]⟩] 46)
                have g3 := g3.alloc (.cells #[.string ⟨#[]⟩, .string ⟨#[]⟩] 46)
                have g4 := g4.alloc (.cells #[.string ⟨#[]⟩, .string ⟨#[]⟩] 46)
                have g5 := g5.alloc (.cells #[.string ⟨#[]⟩, .string ⟨#[]⟩] 46)
                have g6 := g6.alloc (.cells #[.string ⟨#[]⟩, .string ⟨#[]⟩] 46)
                refine hK.out _ _ (holdJ ?_ (fun hCells => ?_))
                · clear hK; (try dsimp only); exact ⟨⟨pc (below_alloc _ _) hCells.1.1, pc (below_alloc _ _) hCells.1.2⟩, ⟨pc (below_alloc _ _) hCells.2.1.1, pc (below_alloc _ _) hCells.2.1.2⟩, ⟨pc (below_alloc _ _) hCells.2.2.1.1, pc (below_alloc _ _) hCells.2.2.1.2⟩, ⟨pc (below_alloc _ _) hCells.2.2.2.1.1, pc (below_alloc _ _) hCells.2.2.2.1.2⟩, ⟨pc (below_alloc _ _) hCells.2.2.2.2.1, pc (below_alloc _ _) hCells.2.2.2.2.2⟩⟩
                clear hK K
                generalize w6.heap.size = b_hk11 at hk11 ge_hk11 ⊢
                generalize w6.alloc (.cells #[.string ⟨#[]⟩, .string ⟨#[]⟩] 46) = W_hk11 at hk g1 g2 g3 g4 g5 g6 hk11 hCells ⊢
                try simp only [Act.put, List.setIfInBounds_toArray, List.set_cons_zero, List.set_cons_succ]
                refine oneJ 15 (by kernel_rfl) rfl (fun K hK => ?_)
                go_simp
                refine ⟨rfl, ?_⟩
                refine (callsIn_wide.2 (must_ok _ _ _)).mono ?_; rintro e w7 ⟨rfl, hb7⟩
                have hk := hk.pass hb7
                have g1 := g1.pass hb7
                have g2 := g2.pass hb7
                have g3 := g3.pass hb7
                have g4 := g4.pass hb7
                have g5 := g5.pass hb7
                have g6 := g6.pass hb7
                have hk11 := hk11.pass hb7
                refine hK.out _ _ (holdJ ?_ (fun hCells => ?_))
                · clear hK; (try dsimp only); exact ⟨⟨pc hb7 hCells.1.1, pc hb7 hCells.1.2⟩, ⟨pc hb7 hCells.2.1.1, pc hb7 hCells.2.1.2⟩, ⟨pc hb7 hCells.2.2.1.1, pc hb7 hCells.2.2.1.2⟩, ⟨pc hb7 hCells.2.2.2.1.1, pc hb7 hCells.2.2.2.1.2⟩, ⟨pc hb7 hCells.2.2.2.2.1, pc hb7 hCells.2.2.2.2.2⟩⟩
                clear hK K hb7
                try simp only [Act.put, List.setIfInBounds_toArray, List.set_cons_zero, List.set_cons_succ]
                refine oneJ 17 (by kernel_rfl) rfl (fun K hK => ?_)
                obtain ⟨⟨r0, r1⟩, f0, f1⟩ := hk11.two
                go_simp
                refine hK.out _ _ (holdJ ?_ (fun hCells => ?_))
                · clear hK; (try dsimp only); (exact ⟨⟨far2 hCells.1.1 (by omega), far2 hCells.1.2 (by omega)⟩, ⟨far2 hCells.2.1.1 (by omega), far2 hCells.2.1.2 (by omega)⟩, ⟨far2 hCells.2.2.1.1 (by omega), far2 hCells.2.2.1.2 (by omega)⟩, ⟨far2 hCells.2.2.2.1.1 (by omega), far2 hCells.2.2.2.1.2 (by omega)⟩, ⟨far2 hCells.2.2.2.2.1 (by omega), far2 hCells.2.2.2.2.2 (by omega)⟩⟩)
                clear r0 r1 f0 f1
                have g1 := (g1.far (p := ⟨b_hk11, 0, none⟩) (by simp <;> omega) (.string (qN ((v - u) / (y - x))))).far (p := ⟨b_hk11, 1, none⟩) (by simp <;> omega) (.string (qD ((v - u) / (y - x))))
                have g2 := (g2.far (p := ⟨b_hk11, 0, none⟩) (by simp <;> omega) (.string (qN ((v - u) / (y - x))))).far (p := ⟨b_hk11, 1, none⟩) (by simp <;> omega) (.string (qD ((v - u) / (y - x))))
                have g3 := (g3.far (p := ⟨b_hk11, 0, none⟩) (by simp <;> omega) (.string (qN ((v - u) / (y - x))))).far (p := ⟨b_hk11, 1, none⟩) (by simp <;> omega) (.string (qD ((v - u) / (y - x))))
                have g4 := (g4.far (p := ⟨b_hk11, 0, none⟩) (by simp <;> omega) (.string (qN ((v - u) / (y - x))))).far (p := ⟨b_hk11, 1, none⟩) (by simp <;> omega) (.string (qD ((v - u) / (y - x))))
                have g5 := (g5.far (p := ⟨b_hk11, 0, none⟩) (by simp <;> omega) (.string (qN ((v - u) / (y - x))))).far (p := ⟨b_hk11, 1, none⟩) (by simp <;> omega) (.string (qD ((v - u) / (y - x))))
                have g6 := (g6.far (p := ⟨b_hk11, 0, none⟩) (by simp <;> omega) (.string (qN ((v - u) / (y - x))))).far (p := ⟨b_hk11, 1, none⟩) (by simp <;> omega) (.string (qD ((v - u) / (y - x))))
                have hk := (hk.set (p := ⟨b_hk11, 0, none⟩) ge_hk11 (.string (qN ((v - u) / (y - x))))).set (p := ⟨b_hk11, 1, none⟩) ge_hk11 (.string (qD ((v - u) / (y - x))))
                have hk11 := (hk11.set 0 (.string (qN ((v - u) / (y - x))))).set 1 (.string (qD ((v - u) / (y - x))))
                clear hK K
                try simp only [Act.put, List.setIfInBounds_toArray, List.set_cons_zero, List.set_cons_succ]
                refine wpAnyJ_done (by kernel_rfl) (NoPan.normal ?_) _
                exact ⟨rfl, _, _, _, _, _, _, _, _, _, _, _, _, _, _, _, _, _, _, _, _, _, _, _, _, _, _, _, _, _, _, _, _, _, _, _, _, _, _, rfl, hk11, ge_hk11, ⟨g1, g2, g3⟩, ⟨g4, g5, g6⟩, hk⟩
            ·
              go_simp
              have hk11 := Blk.new w5 #[.string ⟨#[]⟩, .string ⟨#[]⟩] 46
              have ge_hk11 := hk.2.1
              have hk := hk.alloc (.cells #[.string ⟨#[]⟩, .string ⟨#[]⟩] 46)
              have g1 := g1.alloc (.cells #[.string ⟨#[]⟩, .string ⟨#[]⟩] 46)
              have g2 := g2.alloc (.cells #[.string ⟨#[]⟩, .string ⟨#[]⟩] 46)
              have g3 := g3.alloc (.cells #[.string ⟨#[]⟩, .string ⟨#[]⟩] 46)
              have g4 := g4.alloc (.cells #[.string ⟨#[]⟩, .string ⟨#[]⟩] 46)
              have g5 := g5.alloc (.cells #[.string ⟨#[]⟩, .string ⟨#[]⟩] 46)
              have g6 := g6.alloc (.cells #[.string ⟨#[]⟩, .string ⟨#[]⟩] 46)
              refine hK.out _ _ (holdJ ?_ (fun hCells => ?_))
              · clear hK; (try dsimp only); exact ⟨⟨pc (below_alloc _ _) hCells.1.1, pc (below_alloc _ _) hCells.1.2⟩, ⟨pc (below_alloc _ _) hCells.2.1.1, pc (below_alloc _ _) hCells.2.1.2⟩, ⟨pc (below_alloc _ _) hCells.2.2.1.1, pc (below_alloc _ _) hCells.2.2.1.2⟩, ⟨pc (below_alloc _ _) hCells.2.2.2.1.1, pc (below_alloc _ _) hCells.2.2.2.1.2⟩, ⟨pc (below_alloc _ _) hCells.2.2.2.2.1, pc (below_alloc _ _) hCells.2.2.2.2.2⟩⟩
              clear hK K
              generalize w5.heap.size = b_hk11 at hk11 ge_hk11 ⊢
              generalize w5.alloc (.cells #[.string ⟨#[]⟩, .string ⟨#[]⟩] 46) = W_hk11 at hk g1 g2 g3 g4 g5 g6 hk11 hCells ⊢
              try simp only [Act.put, List.setIfInBounds_toArray, List.set_cons_zero, List.set_cons_succ]
              refine oneJ 12 (by kernel_rfl) rfl (fun K hK => ?_)
              go_simp
              refine ⟨rfl, ?_⟩
              refine (callsIn_wide.2 (div_q _ _ H.out.s1 H.out.s2 H.out.n2 H.out.s3 (HT.out.below hk.2.2 (Nat.le_refl _)))).mono ?_; rintro e w6 ⟨rfl, hb6⟩
              have hk := hk.pass hb6
              have g1 := g1.pass hb6
              have g2 := g2.pass hb6
              have g3 := g3.pass hb6
              have g4 := g4.pass hb6
              have g5 := g5.pass hb6
              have g6 := g6.pass hb6
              have hk11 := hk11.pass hb6
              refine hK.out _ _ (holdJ ?_ (fun hCells => ?_))
              · clear hK; (try dsimp only); exact ⟨⟨pc hb6 hCells.1.1, pc hb6 hCells.1.2⟩, ⟨pc hb6 hCells.2.1.1, pc hb6 hCells.2.1.2⟩, ⟨pc hb6 hCells.2.2.1.1, pc hb6 hCells.2.2.1.2⟩, ⟨pc hb6 hCells.2.2.2.1.1, pc hb6 hCells.2.2.2.1.2⟩, ⟨pc hb6 hCells.2.2.2.2.1, pc hb6 hCells.2.2.2.2.2⟩⟩
              clear hK K hb6
              try simp only [Act.put, List.setIfInBounds_toArray, List.set_cons_zero, List.set_cons_succ]
              refine takeJ hfnR (by kernel_rfl) 13 (v := ?_) rfl (by kernel_rfl) (fun _ _ _ h => h) (by kernel_rfl) hCells (Or.inl ⟨by rfl, ?_⟩) ?_
              rotate_left 1
              · intro w hSw; (try dsimp only at hSw); go_simp; (try with_reducible rfl)
              try simp only [Act.put, List.setIfInBounds_toArray, List.set_cons_zero, List.set_cons_succ]
              refine takeJ hfnR (by kernel_rfl) 14 (v := ?_) rfl (by kernel_rfl) (fun _ _ _ h => h) (by kernel_rfl) hCells (Or.inl ⟨by rfl, ?_⟩) ?_
              rotate_left 1
              · intro w hSw; (try dsimp only at hSw); go_simp; (try with_reducible rfl)
              try simp only [Act.put, List.setIfInBounds_toArray, List.set_cons_zero, List.set_cons_succ]
              refine oneJ 15 (by kernel_rfl) rfl (fun K hK => ?_)
              go_simp
              refine ⟨rfl, ?_⟩
              refine (callsIn_wide.2 (must_ok _ _ _)).mono ?_; rintro e w7 ⟨rfl, hb7⟩
              have hk := hk.pass hb7
              have g1 := g1.pass hb7
              have g2 := g2.pass hb7
              have g3 := g3.pass hb7
              have g4 := g4.pass hb7
              have g5 := g5.pass hb7
              have g6 := g6.pass hb7
              have hk11 := hk11.pass hb7
              refine hK.out _ _ (holdJ ?_ (fun hCells => ?_))
              · clear hK; (try dsimp only); exact ⟨⟨pc hb7 hCells.1.1, pc hb7 hCells.1.2⟩, ⟨pc hb7 hCells.2.1.1, pc hb7 hCells.2.1.2⟩, ⟨pc hb7 hCells.2.2.1.1, pc hb7 hCells.2.2.1.2⟩, ⟨pc hb7 hCells.2.2.2.1.1, pc hb7 hCells.2.2.2.1.2⟩, ⟨pc hb7 hCells.2.2.2.2.1, pc hb7 hCells.2.2.2.2.2⟩⟩
              clear hK K hb7
              try simp only [Act.put, List.setIfInBounds_toArray, List.set_cons_zero, List.set_cons_succ]
              refine oneJ 17 (by kernel_rfl) rfl (fun K hK => ?_)
              obtain ⟨⟨r0, r1⟩, f0, f1⟩ := hk11.two
              go_simp
              refine hK.out _ _ (holdJ ?_ (fun hCells => ?_))
              · clear hK; (try dsimp only); (exact ⟨⟨far2 hCells.1.1 (by omega), far2 hCells.1.2 (by omega)⟩, ⟨far2 hCells.2.1.1 (by omega), far2 hCells.2.1.2 (by omega)⟩, ⟨far2 hCells.2.2.1.1 (by omega), far2 hCells.2.2.1.2 (by omega)⟩, ⟨far2 hCells.2.2.2.1.1 (by omega), far2 hCells.2.2.2.1.2 (by omega)⟩, ⟨far2 hCells.2.2.2.2.1 (by omega), far2 hCells.2.2.2.2.2 (by omega)⟩⟩)
              clear r0 r1 f0 f1
              have g1 := (g1.far (p := ⟨b_hk11, 0, none⟩) (by simp <;> omega) (.string (qN ((v - u) / (y - x))))).far (p := ⟨b_hk11, 1, none⟩) (by simp <;> omega) (.string (qD ((v - u) / (y - x))))
              have g2 := (g2.far (p := ⟨b_hk11, 0, none⟩) (by simp <;> omega) (.string (qN ((v - u) / (y - x))))).far (p := ⟨b_hk11, 1, none⟩) (by simp <;> omega) (.string (qD ((v - u) / (y - x))))
              have g3 := (g3.far (p := ⟨b_hk11, 0, none⟩) (by simp <;> omega) (.string (qN ((v - u) / (y - x))))).far (p := ⟨b_hk11, 1, none⟩) (by simp <;> omega) (.string (qD ((v - u) / (y - x))))
              have g4 := (g4.far (p := ⟨b_hk11, 0, none⟩) (by simp <;> omega) (.string (qN ((v - u) / (y - x))))).far (p := ⟨b_hk11, 1, none⟩) (by simp <;> omega) (.string (qD ((v - u) / (y - x))))
              have g5 := (g5.far (p := ⟨b_hk11, 0, none⟩) (by simp <;> omega) (.string (qN ((v - u) / (y - x))))).far (p := ⟨b_hk11, 1, none⟩) (by simp <;> omega) (.string (qD ((v - u) / (y - x))))
              have g6 := (g6.far (p := ⟨b_hk11, 0, none⟩) (by simp <;> omega) (.string (qN ((v - u) / (y - x))))).far (p := ⟨b_hk11, 1, none⟩) (by simp <;> omega) (.string (qD ((v - u) / (y - x))))
              have hk := (hk.set (p := ⟨b_hk11, 0, none⟩) ge_hk11 (.string (qN ((v - u) / (y - x))))).set (p := ⟨b_hk11, 1, none⟩) ge_hk11 (.string (qD ((v - u) / (y - x))))
              have hk11 := (hk11.set 0 (.string (qN ((v - u) / (y - x))))).set 1 (.string (qD ((v - u) / (y - x))))
              clear hK K
              try simp only [Act.put, List.setIfInBounds_toArray, List.set_cons_zero, List.set_cons_succ]
              refine wpAnyJ_done (by kernel_rfl) (NoPan.normal ?_) _
              exact ⟨rfl, _, _, _, _, _, _, _, _, _, _, _, _, _, _, _, _, _, _, _, _, _, _, _, _, _, _, _, _, _, _, _, _, _, _, _, _, _, _, rfl, hk11, ge_hk11, ⟨g1, g2, g3⟩, ⟨g4, g5, g6⟩, hk⟩
          ·
            go_simp
            have hk11 := Blk.new w4 #[.string ⟨#[]⟩, .string ⟨#[]⟩] 46
            have ge_hk11 := hk.2.1
            have hk := hk.alloc (.cells #[.string ⟨#[]⟩, .string ⟨#[]⟩] 46)
            have g1 := g1.alloc (.cells #[.string ⟨#[]⟩, .string ⟨#[]⟩] 46)
            have g2 := g2.alloc (.cells #[.string ⟨#[]⟩, .string ⟨#[]⟩] 46)
            have g3 := g3.alloc (.cells #[.string ⟨#[]⟩, .string ⟨#[]⟩] 46)
            have g4 := g4.alloc (.cells #[.string ⟨#[]⟩, .string ⟨#[]⟩] 46)
            have g5 := g5.alloc (.cells #[.string ⟨#[]⟩, .string ⟨#[]⟩] 46)
            have g6 := g6.alloc (.cells #[.string ⟨#[]⟩, .string ⟨#[]⟩] 46)
            refine hK.out _ _ (holdJ ?_ (fun hCells => ?_))
            · clear hK; (try dsimp only); exact ⟨⟨pc (below_alloc _ _) hCells.1.1, pc (below_alloc _ _) hCells.1.2⟩, ⟨pc (below_alloc _ _) hCells.2.1.1, pc (below_alloc _ _) hCells.2.1.2⟩, ⟨pc (below_alloc _ _) hCells.2.2.1.1, pc (below_alloc _ _) hCells.2.2.1.2⟩, ⟨pc (below_alloc _ _) hCells.2.2.2.1.1, pc (below_alloc _ _) hCells.2.2.2.1.2⟩, ⟨pc (below_alloc _ _) hCells.2.2.2.2.1, pc (below_alloc _ _) hCells.2.2.2.2.2⟩⟩
            clear hK K
            generalize w4.heap.size = b_hk11 at hk11 ge_hk11 ⊢
            generalize w4.alloc (.cells #[.string ⟨#[]⟩, .string ⟨#[]⟩] 46) = W_hk11 at hk g1 g2 g3 g4 g5 g6 hk11 hCells ⊢
            try simp only [Act.put, List.setIfInBounds_toArray, List.set_cons_zero, List.set_cons_succ]
            refine oneJ 11 (by kernel_rfl) rfl (fun K hK => ?_)
            go_simp
            refine ⟨rfl, ?_⟩
            refine (callsIn_wide.2 (must_ok _ _ _)).mono ?_; rintro e w5 ⟨rfl, hb5⟩
            have hk := hk.pass hb5
            have g1 := g1.pass hb5
            have g2 := g2.pass hb5
            have g3 := g3.pass hb5
            have g4 := g4.pass hb5
            have g5 := g5.pass hb5
            have g6 := g6.pass hb5
            have hk11 := hk11.pass hb5
            refine hK.out _ _ (holdJ ?_ (fun hCells => ?_))
            · clear hK; (try dsimp only); exact ⟨⟨pc hb5 hCells.1.1, pc hb5 hCells.1.2⟩, ⟨pc hb5 hCells.2.1.1, pc hb5 hCells.2.1.2⟩, ⟨pc hb5 hCells.2.2.1.1, pc hb5 hCells.2.2.1.2⟩, ⟨pc hb5 hCells.2.2.2.1.1, pc hb5 hCells.2.2.2.1.2⟩, ⟨pc hb5 hCells.2.2.2.2.1, pc hb5 hCells.2.2.2.2.2⟩⟩
            clear hK K hb5
            try simp only [Act.put, List.setIfInBounds_toArray, List.set_cons_zero, List.set_cons_succ]
            refine oneJ 12 (by kernel_rfl) rfl (fun K hK => ?_)
            go_simp
            refine ⟨rfl, ?_⟩
            refine (callsIn_wide.2 (div_q _ _ H.out.s1 H.out.s2 H.out.n2 H.out.s3 (HT.out.below hk.2.2 (Nat.le_refl _)))).mono ?_; rintro e w6 ⟨rfl, hb6⟩
            have hk := hk.pass hb6
            have g1 := g1.pass hb6
            have g2 := g2.pass hb6
            have g3 := g3.pass hb6
            have g4 := g4.pass hb6
            have g5 := g5.pass hb6
            have g6 := g6.pass hb6
            have hk11 := hk11.pass hb6
            refine hK.out _ _ (holdJ ?_ (fun hCells => ?_))
            · clear hK; (try dsimp only); exact ⟨⟨pc hb6 hCells.1.1, pc hb6 hCells.1.2⟩, ⟨pc hb6 hCells.2.1.1, pc hb6 hCells.2.1.2⟩, ⟨pc hb6 hCells.2.2.1.1, pc hb6 hCells.2.2.1.2⟩, ⟨pc hb6 hCells.2.2.2.1.1, pc hb6 hCells.2.2.2.1.2⟩, ⟨pc hb6 hCells.2.2.2.2.1, pc hb6 hCells.2.2.2.2.2⟩⟩
            clear hK K hb6
            try simp only [Act.put, List.setIfInBounds_toArray, List.set_cons_zero, List.set_cons_succ]
            refine takeJ hfnR (by kernel_rfl) 13 (v := ?_) rfl (by kernel_rfl) (fun _ _ _ h => h) (by kernel_rfl) hCells (Or.inl ⟨by rfl, ?_⟩) ?_
            rotate_left 1
            · intro w hSw; (try dsimp only at hSw); go_simp; (try with_reducible rfl)
            try simp only [Act.put, List.setIfInBounds_toArray, List.set_cons_zero, List.set_cons_succ]
            refine takeJ hfnR (by kernel_rfl) 14 (v := ?_) rfl (by kernel_rfl) (fun _ _ _ h => h) (by kernel_rfl) hCells (Or.inl ⟨by rfl, ?_⟩) ?_
            rotate_left 1
            · intro w hSw; (try dsimp only at hSw); go_simp; (try with_reducible rfl)
            try simp only [Act.put, List.setIfInBounds_toArray, List.set_cons_zero, List.set_cons_succ]
            refine oneJ 15 (by kernel_rfl) rfl (fun K hK => ?_)
            go_simp
            refine ⟨rfl, ?_⟩
            refine (callsIn_wide.2 (must_ok _ _ _)).mono ?_; rintro e w7 ⟨rfl, hb7⟩
            have hk := hk.pass hb7
            have g1 := g1.pass hb7
            have g2 := g2.pass hb7
            have g3 := g3.pass hb7
            have g4 := g4.pass hb7
            have g5 := g5.pass hb7
            have g6 := g6.pass hb7
            have hk11 := hk11.pass hb7
            refine hK.out _ _ (holdJ ?_ (fun hCells => ?_))
            · clear hK; (try dsimp only); exact ⟨⟨pc hb7 hCells.1.1, pc hb7 hCells.1.2⟩, ⟨pc hb7 hCells.2.1.1, pc hb7 hCells.2.1.2⟩, ⟨pc hb7 hCells.2.2.1.1, pc hb7 hCells.2.2.1.2⟩, ⟨pc hb7 hCells.2.2.2.1.1, pc hb7 hCells.2.2.2.1.2⟩, ⟨pc hb7 hCells.2.2.2.2.1, pc hb7 hCells.2.2.2.2.2⟩⟩
            clear hK K hb7
            try simp only [Act.put, List.setIfInBounds_toArray, List.set_cons_zero, List.set_cons_succ]
            refine oneJ 17 (by kernel_rfl) rfl (fun K hK => ?_)
            obtain ⟨⟨r0, r1⟩, f0, f1⟩ := hk11.two
            go_simp
            refine hK.out _ _ (holdJ ?_ (fun hCells => ?_))
            · clear hK; (try dsimp only); (exact ⟨⟨far2 hCells.1.1 (by omega), far2 hCells.1.2 (by omega)⟩, ⟨far2 hCells.2.1.1 (by omega), far2 hCells.2.1.2 (by omega)⟩, ⟨far2 hCells.2.2.1.1 (by omega), far2 hCells.2.2.1.2 (by omega)⟩, ⟨far2 hCells.2.2.2.1.1 (by omega), far2 hCells.2.2.2.1.2 (by omega)⟩, ⟨far2 hCells.2.2.2.2.1 (by omega), far2 hCells.2.2.2.2.2 (by omega)⟩⟩)
            clear r0 r1 f0 f1
            have g1 := (g1.far (p := ⟨b_hk11, 0, none⟩) (by simp <;> omega) (.string (qN ((v - u) / (y - x))))).far (p := ⟨b_hk11, 1, none⟩) (by simp <;> omega) (.string (qD ((v - u) / (y - x))))
            have g2 := (g2.far (p := ⟨b_hk11, 0, none⟩) (by simp <;> omega) (.string (qN ((v - u) / (y - x))))).far (p := ⟨b_hk11, 1, none⟩) (by simp <;> omega) (.string (qD ((v - u) / (y - x))))
            have g3 := (g3.far (p := ⟨b_hk11, 0, none⟩) (by simp <;> omega) (.string (qN ((v - u) / (y - x))))).far (p := ⟨b_hk11, 1, none⟩) (by simp <;> omega) (.string (qD ((v - u) / (y - x))))
            have g4 := (g4.far (p := ⟨b_hk11, 0, none⟩) (by simp <;> omega) (.string (qN ((v - u) / (y - x))))).far (p := ⟨b_hk11, 1, none⟩) (by simp <;> omega) (.string (qD ((v - u) / (y - x))))
            have g5 := (g5.far (p := ⟨b_hk11, 0, none⟩) (by simp <;> omega) (.string (qN ((v - u) / (y - x))))).far (p := ⟨b_hk11, 1, none⟩) (by simp <;> omega) (.string (qD ((v - u) / (y - x))))
            have g6 := (g6.far (p := ⟨b_hk11, 0, none⟩) (by simp <;> omega) (.string (qN ((v - u) / (y - x))))).far (p := ⟨b_hk11, 1, none⟩) (by simp <;> omega) (.string (qD ((v - u) / (y - x))))
            have hk := (hk.set (p := ⟨b_hk11, 0, none⟩) ge_hk11 (.string (qN ((v - u) / (y - x))))).set (p := ⟨b_hk11, 1, none⟩) ge_hk11 (.string (qD ((v - u) / (y - x))))
            have hk11 := (hk11.set 0 (.string (qN ((v - u) / (y - x))))).set 1 (.string (qD ((v - u) / (y - x))))
            clear hK K
            try simp only [Act.put, List.setIfInBounds_toArray, List.set_cons_zero, List.set_cons_succ]
            refine wpAnyJ_done (by kernel_rfl) (NoPan.normal ?_) _
            exact ⟨rfl, _, _, _, _, _, _, _, _, _, _, _, _, _, _, _, _, _, _, _, _, _, _, _, _, _, _, _, _, _, _, _, _, _, _, _, _, _, _, rfl, hk11, ge_hk11, ⟨g1, g2, g3⟩, ⟨g4, g5, g6⟩, hk⟩
        ·
          go_simp
          have hk11 := Blk.new w3 #[.string ⟨#[]⟩, .string ⟨#[]⟩] 46
          have ge_hk11 := hk.2.1
          have hk := hk.alloc (.cells #[.string ⟨#[]⟩, .string ⟨#[]⟩] 46)
          have g1 := g1.alloc (.cells #[.string ⟨#[]⟩, .string ⟨#[]⟩] 46)
          have g2 := g2.alloc (.cells #[.string ⟨#[]⟩, .string ⟨#[]⟩] 46)
          have g3 := g3.alloc (.cells #[.string ⟨#[]⟩, .string ⟨#[]⟩] 46)
          have g4 := g4.alloc (.cells #[.string ⟨#[]⟩, .string ⟨#[]⟩] 46)
          have g5 := g5.alloc (.cells #[.string ⟨#[]⟩, .string ⟨#[]⟩] 46)
          have g6 := g6.alloc (.cells #[.string ⟨#[]⟩, .string ⟨#[]⟩] 46)
          refine hK.out _ _ (holdJ ?_ (fun hCells => ?_))
          · clear hK; (try dsimp only); exact ⟨⟨pc (below_alloc _ _) hCells.1.1, pc (below_alloc _ _) hCells.1.2⟩, ⟨pc (below_alloc _ _) hCells.2.1.1, pc (below_alloc _ _) hCells.2.1.2⟩, ⟨pc (below_alloc _ _) hCells.2.2.1.1, pc (below_alloc _ _) hCells.2.2.1.2⟩, ⟨pc (below_alloc _ _) hCells.2.2.2.1.1, pc (below_alloc _ _) hCells.2.2.2.1.2⟩, ⟨pc (below_alloc _ _) hCells.2.2.2.2.1, pc (below_alloc _ _) hCells.2.2.2.2.2⟩⟩
          clear hK K
          generalize w3.heap.size = b_hk11 at hk11 ge_hk11 ⊢
          generalize w3.alloc (.cells #[.string ⟨#[]⟩, .string ⟨#[]⟩] 46) = W_hk11 at hk g1 g2 g3 g4 g5 g6 hk11 hCells ⊢
          try simp only [Act.put, List.setIfInBounds_toArray, List.set_cons_zero, List.set_cons_succ]
          refine oneJ 8 (by kernel_rfl) rfl (fun K hK => ?_)
          go_simp
          refine ⟨rfl, ?_⟩
          refine (callsIn_wide.2 (sub_q y x H.out.hy H.out.hx H.out.s2 (HT.out.below hk.2.2 (Nat.le_refl _)))).mono ?_; rintro e w4 ⟨rfl, hb4⟩
          have hk := hk.pass hb4
          have g1 := g1.pass hb4
          have g2 := g2.pass hb4
          have g3 := g3.pass hb4
          have g4 := g4.pass hb4
          have g5 := g5.pass hb4
          have g6 := g6.pass hb4
          have hk11 := hk11.pass hb4
          refine hK.out _ _ (holdJ ?_ (fun hCells => ?_))
          · clear hK; (try dsimp only); exact ⟨⟨pc hb4 hCells.1.1, pc hb4 hCells.1.2⟩, ⟨pc hb4 hCells.2.1.1, pc hb4 hCells.2.1.2⟩, ⟨pc hb4 hCells.2.2.1.1, pc hb4 hCells.2.2.1.2⟩, ⟨pc hb4 hCells.2.2.2.1.1, pc hb4 hCells.2.2.2.1.2⟩, ⟨pc hb4 hCells.2.2.2.2.1, pc hb4 hCells.2.2.2.2.2⟩⟩
          clear hK K hb4
          try simp only [Act.put, List.setIfInBounds_toArray, List.set_cons_zero, List.set_cons_succ]
          refine takeJ hfnR (by kernel_rfl) 9 (v := ?_) rfl (by kernel_rfl) (fun _ _ _ h => h) (by kernel_rfl) hCells (Or.inl ⟨by rfl, ?_⟩) ?_
          rotate_left 1
          · intro w hSw; (try dsimp only at hSw); go_simp; (try with_reducible rfl)
          try simp only [Act.put, List.setIfInBounds_toArray, List.set_cons_zero, List.set_cons_succ]
          refine takeJ hfnR (by kernel_rfl) 10 (v := ?_) rfl (by kernel_rfl) (fun _ _ _ h => h) (by kernel_rfl) hCells (Or.inl ⟨by rfl, ?_⟩) ?_
          rotate_left 1
          · intro w hSw; (try dsimp only at hSw); go_simp; (try with_reducible rfl)
          try simp only [Act.put, List.setIfInBounds_toArray, List.set_cons_zero, List.set_cons_succ]
          refine oneJ 11 (by kernel_rfl) rfl (fun K hK => ?_)
          go_simp
          refine ⟨rfl, ?_⟩
          refine (callsIn_wide.2 (must_ok _ _ _)).mono ?_; rintro e w5 ⟨rfl, hb5⟩
          have hk := hk.pass hb5
          have g1 := g1.pass hb5
          have g2 := g2.pass hb5
          have g3 := g3.pass hb5
          have g4 := g4.pass hb5
          have g5 := g5.pass hb5
          have g6 := g6.pass hb5
          have hk11 := hk11.pass hb5
          refine hK.out _ _ (holdJ ?_ (fun hCells => ?_))
          · clear hK; (try dsimp only); exact ⟨⟨pc hb5 hCells.1.1, pc hb5 hCells.1.2⟩, ⟨pc hb5 hCells.2.1.1, pc hb5 hCells.2.1.2⟩, ⟨pc hb5 hCells.2.2.1.1, pc hb5 hCells.2.2.1.2⟩, ⟨pc hb5 hCells.2.2.2.1.1, pc hb5 hCells.2.2.2.1.2⟩, ⟨pc hb5 hCells.2.2.2.2.1, pc hb5 hCells.2.2.2.2.2⟩⟩
          clear hK K hb5
          try simp only [Act.put, List.setIfInBounds_toArray, List.set_cons_zero, List.set_cons_succ]
          refine oneJ 12 (by kernel_rfl) rfl (fun K hK => ?_)
          go_simp
          refine ⟨rfl, ?_⟩
          refine (callsIn_wide.2 (div_q _ _ H.out.s1 H.out.s2 H.out.n2 H.out.s3 (HT.out.below hk.2.2 (Nat.le_refl _)))).mono ?_; rintro e w6 ⟨rfl, hb6⟩
          have hk := hk.pass hb6
          have g1 := g1.pass hb6
          have g2 := g2.pass hb6
          have g3 := g3.pass hb6
          have g4 := g4.pass hb6
          have g5 := g5.pass hb6
          have g6 := g6.pass hb6
          have hk11 := hk11.pass hb6
          refine hK.out _ _ (holdJ ?_ (fun hCells => ?_))
          · clear hK; (try dsimp only); exact ⟨⟨pc hb6 hCells.1.1, pc hb6 hCells.1.2⟩, ⟨pc hb6 hCells.2.1.1, pc hb6 hCells.2.1.2⟩, ⟨pc hb6 hCells.2.2.1.1, pc hb6 hCells.2.2.1.2⟩, ⟨pc hb6 hCells.2.2.2.1.1, pc hb6 hCells.2.2.2.1.2⟩, ⟨pc hb6 hCells.2.2.2.2.1, pc hb6 hCells.2.2.2.2.2⟩⟩
          clear hK K hb6
          try simp only [Act.put, List.setIfInBounds_toArray, List.set_cons_zero, List.set_cons_succ]
          refine takeJ hfnR (by kernel_rfl) 13 (v := ?_) rfl (by kernel_rfl) (fun _ _ _ h => h) (by kernel_rfl) hCells (Or.inl ⟨by rfl, ?_⟩) ?_
          rotate_left 1
          · intro w hSw; (try dsimp only at hSw); go_simp; (try with_reducible rfl)
          try simp only [Act.put, List.setIfInBounds_toArray, List.set_cons_zero, List.set_cons_succ]
          refine takeJ hfnR (by kernel_rfl) 14 (v := ?_) rfl (by kernel_rfl) (fun _ _ _ h => h) (by kernel_rfl) hCells (Or.inl ⟨by rfl, ?_⟩) ?_
          rotate_left 1
          · intro w hSw; (try dsimp only at hSw); go_simp; (try with_reducible rfl)
          try simp only [Act.put, List.setIfInBounds_toArray, List.set_cons_zero, List.set_cons_succ]
          refine oneJ 15 (by kernel_rfl) rfl (fun K hK => ?_)
          go_simp
          refine ⟨rfl, ?_⟩
          refine (callsIn_wide.2 (must_ok _ _ _)).mono ?_; rintro e w7 ⟨rfl, hb7⟩
          have hk := hk.pass hb7
          have g1 := g1.pass hb7
          have g2 := g2.pass hb7
          have g3 := g3.pass hb7
          have g4 := g4.pass hb7
          have g5 := g5.pass hb7
          have g6 := g6.pass hb7
          have hk11 := hk11.pass hb7
          refine hK.out _ _ (holdJ ?_ (fun hCells => ?_))
          · clear hK; (try dsimp only); exact ⟨⟨pc hb7 hCells.1.1, pc hb7 hCells.1.2⟩, ⟨pc hb7 hCells.2.1.1, pc hb7 hCells.2.1.2⟩, ⟨pc hb7 hCells.2.2.1.1, pc hb7 hCells.2.2.1.2⟩, ⟨pc hb7 hCells.2.2.2.1.1, pc hb7 hCells.2.2.2.1.2⟩, ⟨pc hb7 hCells.2.2.2.2.1, pc hb7 hCells.2.2.2.2.2⟩⟩
          clear hK K hb7
          try simp only [Act.put, List.setIfInBounds_toArray, List.set_cons_zero, List.set_cons_succ]
          refine oneJ 17 (by kernel_rfl) rfl (fun K hK => ?_)
          obtain ⟨⟨r0, r1⟩, f0, f1⟩ := hk11.two
          go_simp
          refine hK.out _ _ (holdJ ?_ (fun hCells => ?_))
          · clear hK; (try dsimp only); (exact ⟨⟨far2 hCells.1.1 (by omega), far2 hCells.1.2 (by omega)⟩, ⟨far2 hCells.2.1.1 (by omega), far2 hCells.2.1.2 (by omega)⟩, ⟨far2 hCells.2.2.1.1 (by omega), far2 hCells.2.2.1.2 (by omega)⟩, ⟨far2 hCells.2.2.2.1.1 (by omega), far2 hCells.2.2.2.1.2 (by omega)⟩, ⟨far2 hCells.2.2.2.2.1 (by omega), far2 hCells.2.2.2.2.2 (by omega)⟩⟩)
          clear r0 r1 f0 f1
          have g1 := (g1.far (p := ⟨b_hk11, 0, none⟩) (by simp <;> omega) (.string (qN ((v - u) / (y - x))))).far (p := ⟨b_hk11, 1, none⟩) (by simp <;> omega) (.string (qD ((v - u) / (y - x))))
          have g2 := (g2.far (p := ⟨b_hk11, 0, none⟩) (by simp <;> omega) (.string (qN ((v - u) / (y - x))))).far (p := ⟨b_hk11, 1, none⟩) (by simp <;> omega) (.string (qD ((v - u) / (y - x))))
          have g3 := (g3.far (p := ⟨b_hk11, 0, none⟩) (by simp <;> omega) (.string (qN ((v - u) / (y - x))))).far (p := ⟨b_hk11, 1, none⟩) (by simp <;> omega) (.string (qD ((v - u) / (y - x))))
          have g4 := (g4.far (p := ⟨b_hk11, 0, none⟩) (by simp <;> omega) (.string (qN ((v - u) / (y - x))))).far (p := ⟨b_hk11, 1, none⟩) (by simp <;> omega) (.string (qD ((v - u) / (y - x))))
          have g5 := (g5.far (p := ⟨b_hk11, 0, none⟩) (by simp <;> omega) (.string (qN ((v - u) / (y - x))))).far (p := ⟨b_hk11, 1, none⟩) (by simp <;> omega) (.string (qD ((v - u) / (y - x))))
          have g6 := (g6.far (p := ⟨b_hk11, 0, none⟩) (by simp <;> omega) (.string (qN ((v - u) / (y - x))))).far (p := ⟨b_hk11, 1, none⟩) (by simp <;> omega) (.string (qD ((v - u) / (y - x))))
          have hk := (hk.set (p := ⟨b_hk11, 0, none⟩) ge_hk11 (.string (qN ((v - u) / (y - x))))).set (p := ⟨b_hk11, 1, none⟩) ge_hk11 (.string (qD ((v - u) / (y - x))))
          have hk11 := (hk11.set 0 (.string (qN ((v - u) / (y - x))))).set 1 (.string (qD ((v - u) / (y - x))))
          clear hK K
          try simp only [Act.put, List.setIfInBounds_toArray, List.set_cons_zero, List.set_cons_succ]
          refine wpAnyJ_done (by kernel_rfl) (NoPan.normal ?_) _
          exact ⟨rfl, _, _, _, _, _, _, _, _, _, _, _, _, _, _, _, _, _, _, _, _, _, _, _, _, _, _, _, _, _, _, _, _, _, _, _, _, _, _, rfl, hk11, ge_hk11, ⟨g1, g2, g3⟩, ⟨g4, g5, g6⟩, hk⟩
      ·
        go_simp
        have hk11 := Blk.new w2 #[.string ⟨#[]⟩, .string ⟨#[]⟩] 46
        have ge_hk11 := hk.2.1
        have hk := hk.alloc (.cells #[.string ⟨#[]⟩, .string ⟨#[]⟩] 46)
        have g1 := g1.alloc (.cells #[.string ⟨#[]⟩, .string ⟨#[]⟩] 46)
        have g2 := g2.alloc (.cells #[.string ⟨#[]⟩, .string ⟨#[]⟩] 46)
        have g3 := g3.alloc (.cells #[.string ⟨#[]⟩, .string ⟨#[]⟩] 46)
        have g4 := g4.alloc (.cells #[.string ⟨#[]⟩, .string ⟨#[]⟩] 46)
        have g5 := g5.alloc (.cells #[.string ⟨#[]⟩, .string ⟨#[]⟩] 46)
        have g6 := g6.alloc (.cells #[.string ⟨#[]⟩, .string ⟨#[]⟩] 46)
        refine hK.out _ _ (holdJ ?_ (fun hCells => ?_))
        · clear hK; (try dsimp only); exact ⟨⟨pc (below_alloc _ _) hCells.1.1, pc (below_alloc _ _) hCells.1.2⟩, ⟨pc (below_alloc _ _) hCells.2.1.1, pc (below_alloc _ _) hCells.2.1.2⟩, ⟨pc (below_alloc _ _) hCells.2.2.1.1, pc (below_alloc _ _) hCells.2.2.1.2⟩, ⟨pc (below_alloc _ _) hCells.2.2.2.1.1, pc (below_alloc _ _) hCells.2.2.2.1.2⟩, ⟨pc (below_alloc _ _) hCells.2.2.2.2.1, pc (below_alloc _ _) hCells.2.2.2.2.2⟩⟩
        clear hK K
        generalize w2.heap.size = b_hk11 at hk11 ge_hk11 ⊢
        generalize w2.alloc (.cells #[.string ⟨#[]⟩, .string ⟨#[]⟩] 46) = W_hk11 at hk g1 g2 g3 g4 g5 g6 hk11 hCells ⊢
        try simp only [Act.put, List.setIfInBounds_toArray, List.set_cons_zero, List.set_cons_succ]
        refine oneJ 5 (by kernel_rfl) rfl (fun K hK => ?_)
        go_simp
        refine ⟨rfl, ?_⟩
        refine (callsIn_wide.2 (must_ok _ _ _)).mono ?_; rintro e w3 ⟨rfl, hb3⟩
        have hk := hk.pass hb3
        have g1 := g1.pass hb3
        have g2 := g2.pass hb3
        have g3 := g3.pass hb3
        have g4 := g4.pass hb3
        have g5 := g5.pass hb3
        have g6 := g6.pass hb3
        have hk11 := hk11.pass hb3
        refine hK.out _ _ (holdJ ?_ (fun hCells => ?_))
        · clear hK; (try dsimp only); exact ⟨⟨pc hb3 hCells.1.1, pc hb3 hCells.1.2⟩, ⟨pc hb3 hCells.2.1.1, pc hb3 hCells.2.1.2⟩, ⟨pc hb3 hCells.2.2.1.1, pc hb3 hCells.2.2.1.2⟩, ⟨pc hb3 hCells.2.2.2.1.1, pc hb3 hCells.2.2.2.1.2⟩, ⟨pc hb3 hCells.2.2.2.2.1, pc hb3 hCells.2.2.2.2.2⟩⟩
        clear hK K hb3
        try simp only [Act.put, List.setIfInBounds_toArray, List.set_cons_zero, List.set_cons_succ]
        refine oneJ 8 (by kernel_rfl) rfl (fun K hK => ?_)
        go_simp
        refine ⟨rfl, ?_⟩
        refine (callsIn_wide.2 (sub_q y x H.out.hy H.out.hx H.out.s2 (HT.out.below hk.2.2 (Nat.le_refl _)))).mono ?_; rintro e w4 ⟨rfl, hb4⟩
        have hk := hk.pass hb4
        have g1 := g1.pass hb4
        have g2 := g2.pass hb4
        have g3 := g3.pass hb4
        have g4 := g4.pass hb4
        have g5 := g5.pass hb4
        have g6 := g6.pass hb4
        have hk11 := hk11.pass hb4
        refine hK.out _ _ (holdJ ?_ (fun hCells => ?_))
        · clear hK; (try dsimp only); exact ⟨⟨pc hb4 hCells.1.1, pc hb4 hCells.1.2⟩, ⟨pc hb4 hCells.2.1.1, pc hb4 hCells.2.1.2⟩, ⟨pc hb4 hCells.2.2.1.1, pc hb4 hCells.2.2.1.2⟩, ⟨pc hb4 hCells.2.2.2.1.1, pc hb4 hCells.2.2.2.1.2⟩, ⟨pc hb4 hCells.2.2.2.2.1, pc hb4 hCells.2.2.2.2.2⟩⟩
        clear hK K hb4
        try simp only [Act.put, List.setIfInBounds_toArray, List.set_cons_zero, List.set_cons_succ]
        refine takeJ hfnR (by kernel_rfl) 9 (v := ?_) rfl (by kernel_rfl) (fun _ _ _ h => h) (by kernel_rfl) hCells (Or.inl ⟨by rfl, ?_⟩) ?_
        rotate_left 1
        · intro w hSw; (try dsimp only at hSw); go_simp; (try with_reducible rfl)
        try simp only [Act.put, List.setIfInBounds_toArray, List.set_cons_zero, List.set_cons_succ]
        refine takeJ hfnR (by kernel_rfl) 10 (v := ?_) rfl (by kernel_rfl) (fun _ _ _ h => h) (by kernel_rfl) hCells (Or.inl ⟨by rfl, ?_⟩) ?_
        rotate_left 1
        · intro w hSw; (try dsimp only at hSw); go_simp; (try with_reducible rfl)
        try simp only [Act.put, List.setIfInBounds_toArray, List.set_cons_zero, List.set_cons_succ]
        refine oneJ 11 (by kernel_rfl) rfl (fun K hK => ?_)
        go_simp
        refine ⟨rfl, ?_⟩
        refine (callsIn_wide.2 (must_ok _ _ _)).mono ?_; rintro e w5 ⟨rfl, hb5⟩
        have hk := hk.pass hb5
        have g1 := g1.pass hb5
        have g2 := g2.pass hb5
        have g3 := g3.pass hb5
        have g4 := g4.pass hb5
        have g5 := g5.pass hb5
        have g6 := g6.pass hb5
        have hk11 := hk11.pass hb5
        refine hK.out _ _ (holdJ ?_ (fun hCells => ?_))
        · clear hK; (try dsimp only); exact ⟨⟨pc hb5 hCells.1.1, pc hb5 hCells.1.2⟩, ⟨pc hb5 hCells.2.1.1, pc hb5 hCells.2.1.2⟩, ⟨pc hb5 hCells.2.2.1.1, pc hb5 hCells.2.2.1.2⟩, ⟨pc hb5 hCells.2.2.2.1.1, pc hb5 hCells.2.2.2.1.2⟩, ⟨pc hb5 hCells.2.2.2.2.1, pc hb5 hCells.2.2.2.2.2⟩⟩
        clear hK K hb5
        try simp only [Act.put, List.setIfInBounds_toArray, List.set_cons_zero, List.set_cons_succ]
        refine oneJ 12 (by kernel_rfl) rfl (fun K hK => ?_)
        go_simp
        refine ⟨rfl, ?_⟩
        refine (callsIn_wide.2 (div_q _ _ H.out.s1 H.out.s2 H.out.n2 H.out.s3 (HT.out.below hk.2.2 (Nat.le_refl _)))).mono ?_; rintro e w6 ⟨rfl, hb6⟩
        have hk := hk.pass hb6
        have g1 := g1.pass hb6
        have g2 := g2.pass hb6
        have g3 := g3.pass hb6
        have g4 := g4.pass hb6
        have g5 := g5.pass hb6
        have g6 := g6.pass hb6
        have hk11 := hk11.pass hb6
        refine hK.out _ _ (holdJ ?_ (fun hCells => ?_))
        · clear hK; (try dsimp only); exact ⟨⟨pc hb6 hCells.1.1, pc hb6 hCells.1.2⟩, ⟨pc hb6 hCells.2.1.1, pc hb6 hCells.2.1.2⟩, ⟨pc hb6 hCells.2.2.1.1, pc hb6 hCells.2.2.1.2⟩, ⟨pc hb6 hCells.2.2.2.1.1, pc hb6 hCells.2.2.2.1.2⟩, ⟨pc hb6 hCells.2.2.2.2.1, pc hb6 hCells.2.2.2.2.2⟩⟩
        clear hK K hb6
        try simp only [Act.put, List.setIfInBounds_toArray, List.set_cons_zero, List.set_cons_succ]
        refine takeJ hfnR (by kernel_rfl) 13 (v := ?_) rfl (by kernel_rfl) (fun _ _ _ h => h) (by kernel_rfl) hCells (Or.inl ⟨by rfl, ?_⟩) ?_
        rotate_left 1
        · intro w hSw; (try dsimp only at hSw); go_simp; (try with_reducible rfl)
        try simp only [Act.put, List.setIfInBounds_toArray, List.set_cons_zero, List.set_cons_succ]
        refine takeJ hfnR (by kernel_rfl) 14 (v := ?_) rfl (by kernel_rfl) (fun _ _ _ h => h) (by kernel_rfl) hCells (Or.inl ⟨by rfl, ?_⟩) ?_
        rotate_left 1
        · intro w hSw; (try dsimp only at hSw); go_simp; (try with_reducible rfl)
        try simp only [Act.put, List.setIfInBounds_toArray, List.set_cons_zero, List.set_cons_succ]
        refine oneJ 15 (by kernel_rfl) rfl (fun K hK => ?_)
        go_simp
        refine ⟨rfl, ?_⟩
        refine (callsIn_wide.2 (must_ok _ _ _)).mono ?_; rintro e w7 ⟨rfl, hb7⟩
        have hk := hk.pass hb7
        have g1 := g1.pass hb7
        have g2 := g2.pass hb7
        have g3 := g3.pass hb7
        have g4 := g4.pass hb7
        have g5 := g5.pass hb7
        have g6 := g6.pass hb7
        have hk11 := hk11.pass hb7
        refine hK.out _ _ (holdJ ?_ (fun hCells => ?_))
        · clear hK; (try dsimp only); exact ⟨⟨pc hb7 hCells.1.1, pc hb7 hCells.1.2⟩, ⟨pc hb7 hCells.2.1.1, pc hb7 hCells.2.1.2⟩, ⟨pc hb7 hCells.2.2.1.1, pc hb7 hCells.2.2.1.2⟩, ⟨pc hb7 hCells.2.2.2.1.1, pc hb7 hCells.2.2.2.1.2⟩, ⟨pc hb7 hCells.2.2.2.2.1, pc hb7 hCells.2.2.2.2.2⟩⟩
        clear hK K hb7
        try simp only [Act.put, List.setIfInBounds_toArray, List.set_cons_zero, List.set_cons_succ]
        refine oneJ 17 (by kernel_rfl) rfl (fun K hK => ?_)
        obtain ⟨⟨r0, r1⟩, f0, f1⟩ := hk11.two
        go_simp
        refine hK.out _ _ (holdJ ?_ (fun hCells => ?_))
        · clear hK; (try dsimp only); (exact ⟨⟨far2 hCells.1.1 (by omega), far2 hCells.1.2 (by omega)⟩, ⟨far2 hCells.2.1.1 (by omega), far2 hCells.2.1.2 (by omega)⟩, ⟨far2 hCells.2.2.1.1 (by omega), far2 hCells.2.2.1.2 (by omega)⟩, ⟨far2 hCells.2.2.2.1.1 (by omega), far2 hCells.2.2.2.1.2 (by omega)⟩, ⟨far2 hCells.2.2.2.2.1 (by omega), far2 hCells.2.2.2.2.2 (by omega)⟩⟩)
        clear r0 r1 f0 f1
        have g1 := (g1.far (p := ⟨b_hk11, 0, none⟩) (by simp <;> omega) (.string (qN ((v - u) / (y - x))))).far (p := ⟨b_hk11, 1, none⟩) (by simp <;> omega) (.string (qD ((v - u) / (y - x))))
        have g2 := (g2.far (p := ⟨b_hk11, 0, none⟩) (by simp <;> omega) (.string (qN ((v - u) / (y - x))))).far (p := ⟨b_hk11, 1, none⟩) (by simp <;> omega) (.string (qD ((v - u) / (y - x))))
        have g3 := (g3.far (p := ⟨b_hk11, 0, none⟩) (by simp <;> omega) (.string (qN ((v - u) / (y - x))))).far (p := ⟨b_hk11, 1, none⟩) (by simp <;> omega) (.string (qD ((v - u) / (y - x))))
        have g4 := (g4.far (p := ⟨b_hk11, 0, none⟩) (by simp <;> omega) (.string (qN ((v - u) / (y - x))))).far (p := ⟨b_hk11, 1, none⟩) (by simp <;> omega) (.string (qD ((v - u) / (y - x))))
        have g5 := (g5.far (p := ⟨b_hk11, 0, none⟩) (by simp <;> omega) (.string (qN ((v - u) / (y - x))))).far (p := ⟨b_hk11, 1, none⟩) (by simp <;> omega) (.string (qD ((v - u) / (y - x))))
        have g6 := (g6.far (p := ⟨b_hk11, 0, none⟩) (by simp <;> omega) (.string (qN ((v - u) / (y - x))))).far (p := ⟨b_hk11, 1, none⟩) (by simp <;> omega) (.string (qD ((v - u) / (y - x))))
        have hk := (hk.set (p := ⟨b_hk11, 0, none⟩) ge_hk11 (.string (qN ((v - u) / (y - x))))).set (p := ⟨b_hk11, 1, none⟩) ge_hk11 (.string (qD ((v - u) / (y - x))))
        have hk11 := (hk11.set 0 (.string (qN ((v - u) / (y - x))))).set 1 (.string (qD ((v - u) / (y - x))))
        clear hK K
        try simp only [Act.put, List.setIfInBounds_toArray, List.set_cons_zero, List.set_cons_succ]
        refine wpAnyJ_done (by kernel_rfl) (NoPan.normal ?_) _
        exact ⟨rfl, _, _, _, _, _, _, _, _, _, _, _, _, _, _, _, _, _, _, _, _, _, _, _, _, _, _, _, _, _, _, _, _, _, _, _, _, _, _, rfl, hk11, ge_hk11, ⟨g1, g2, g3⟩, ⟨g4, g5, g6⟩, hk⟩
    ·
      go_simp
      have hk11 := Blk.new W0 #[.string ⟨#[]⟩, .string ⟨#[]⟩] 46
      have ge_hk11 := hk.2.1
      have hk := hk.alloc (.cells #[.string ⟨#[]⟩, .string ⟨#[]⟩] 46)
      have g1 := g1.alloc (.cells #[.string ⟨#[]⟩, .string ⟨#[]⟩] 46)
      have g2 := g2.alloc (.cells #[.string ⟨#[]⟩, .string ⟨#[]⟩] 46)
      have g3 := g3.alloc (.cells #[.string ⟨#[]⟩, .string ⟨#[]⟩] 46)
      have g4 := g4.alloc (.cells #[.string ⟨#[]⟩, .string ⟨#[]⟩] 46)
      have g5 := g5.alloc (.cells #[.string ⟨#[]⟩, .string ⟨#[]⟩] 46)
      have g6 := g6.alloc (.cells #[.string ⟨#[]⟩, .string ⟨#[]⟩] 46)
      refine hK.out _ _ (holdJ ?_ (fun hCells => ?_))
      · clear hK; (try dsimp only); exact ⟨⟨pc (below_alloc _ _) hCells.1.1, pc (below_alloc _ _) hCells.1.2⟩, ⟨pc (below_alloc _ _) hCells.2.1.1, pc (below_alloc _ _) hCells.2.1.2⟩, ⟨pc (below_alloc _ _) hCells.2.2.1.1, pc (below_alloc _ _) hCells.2.2.1.2⟩, ⟨pc (below_alloc _ _) hCells.2.2.2.1.1, pc (below_alloc _ _) hCells.2.2.2.1.2⟩, ⟨pc (below_alloc _ _) hCells.2.2.2.2.1, pc (below_alloc _ _) hCells.2.2.2.2.2⟩⟩
      clear hK K
      generalize W0.heap.size = b_hk11 at hk11 ge_hk11 ⊢
      generalize W0.alloc (.cells #[.string ⟨#[]⟩, .string ⟨#[]⟩] 46) = W_hk11 at hk g1 g2 g3 g4 g5 g6 hk11 hCells ⊢
      try simp only [Act.put, List.setIfInBounds_toArray, List.set_cons_zero, List.set_cons_succ]
      refine oneJ 2 (by kernel_rfl) rfl (fun K hK => ?_)
      go_simp
      refine ⟨rfl, ?_⟩
      refine (callsIn_wide.2 (sub_q v u H.out.hv H.out.hu H.out.s1 (HT.out.below hk.2.2 (Nat.le_refl _)))).mono ?_; rintro e w2 ⟨rfl, hb2⟩
      have hk := hk.pass hb2
      have g1 := g1.pass hb2
      have g2 := g2.pass hb2
      have g3 := g3.pass hb2
      have g4 := g4.pass hb2
      have g5 := g5.pass hb2
      have g6 := g6.pass hb2
      have hk11 := hk11.pass hb2
      refine hK.out _ _ (holdJ ?_ (fun hCells => ?_))
      · clear hK; (try dsimp only); exact ⟨⟨pc hb2 hCells.1.1, pc hb2 hCells.1.2⟩, ⟨pc hb2 hCells.2.1.1, pc hb2 hCells.2.1.2⟩, ⟨pc hb2 hCells.2.2.1.1, pc hb2 hCells.2.2.1.2⟩, ⟨pc hb2 hCells.2.2.2.1.1, pc hb2 hCells.2.2.2.1.2⟩, ⟨pc hb2 hCells.2.2.2.2.1, pc hb2 hCells.2.2.2.2.2⟩⟩
      clear hK K hb2
      try simp only [Act.put, List.setIfInBounds_toArray, List.set_cons_zero, List.set_cons_succ]
      refine takeJ hfnR (by kernel_rfl) 3 (v := ?_) rfl (by kernel_rfl) (fun _ _ _ h => h) (by kernel_rfl) hCells (Or.inl ⟨by rfl, ?_⟩) ?_
      rotate_left 1
      · intro w hSw; (try dsimp only at hSw); go_simp; (try with_reducible rfl)
      try simp only [Act.put, List.setIfInBounds_toArray, List.set_cons_zero, List.set_cons_succ]
      refine takeJ hfnR (by kernel_rfl) 4 (v := ?_) rfl (by kernel_rfl) (fun _ _ _ h => h) (by kernel_rfl) hCells (Or.inl ⟨by rfl, ?_⟩) ?_
      rotate_left 1
      · intro w hSw; (try dsimp only at hSw); go_simp; (try with_reducible rfl)
      try simp only [Act.put, List.setIfInBounds_toArray, List.set_cons_zero, List.set_cons_succ]
      refine oneJ 5 (by kernel_rfl) rfl (fun K hK => ?_)
      go_simp
      refine ⟨rfl, ?_⟩
      refine (callsIn_wide.2 (must_ok _ _ _)).mono ?_; rintro e w3 ⟨rfl, hb3⟩
      have hk := hk.pass hb3
      have g1 := g1.pass hb3
      have g2 := g2.pass hb3
      have g3 := g3.pass hb3
      have g4 := g4.pass hb3
      have g5 := g5.pass hb3
      have g6 := g6.pass hb3
      have hk11 := hk11.pass hb3
      refine hK.out _ _ (holdJ ?_ (fun hCells => ?_))
      · clear hK; (try dsimp only); exact ⟨⟨pc hb3 hCells.1.1, pc hb3 hCells.1.2⟩, ⟨pc hb3 hCells.2.1.1, pc hb3 hCells.2.1.2⟩, ⟨pc hb3 hCells.2.2.1.1, pc hb3 hCells.2.2.1.2⟩, ⟨pc hb3 hCells.2.2.2.1.1, pc hb3 hCells.2.2.2.1.2⟩, ⟨pc hb3 hCells.2.2.2.2.1, pc hb3 hCells.2.2.2.2.2⟩⟩
      clear hK K hb3
      try simp only [Act.put, List.setIfInBounds_toArray, List.set_cons_zero, List.set_cons_succ]
      refine oneJ 8 (by kernel_rfl) rfl (fun K hK => ?_)
      go_simp
      refine ⟨rfl, ?_⟩
      refine (callsIn_wide.2 (sub_q y x H.out.hy H.out.hx H.out.s2 (HT.out.below hk.2.2 (Nat.le_refl _)))).mono ?_; rintro e w4 ⟨rfl, hb4⟩
      have hk := hk.pass hb4
      have g1 := g1.pass hb4
      have g2 := g2.pass hb4
      have g3 := g3.pass hb4
      have g4 := g4.pass hb4
      have g5 := g5.pass hb4
      have g6 := g6.pass hb4
      have hk11 := hk11.pass hb4
      refine hK.out _ _ (holdJ ?_ (fun hCells => ?_))
      · clear hK; (try dsimp only); exact ⟨⟨pc hb4 hCells.1.1, pc hb4 hCells.1.2⟩, ⟨pc hb4 hCells.2.1.1, pc hb4 hCells.2.1.2⟩, ⟨pc hb4 hCells.2.2.1.1, pc hb4 hCells.2.2.1.2⟩, ⟨pc hb4 hCells.2.2.2.1.1, pc hb4 hCells.2.2.2.1.2⟩, ⟨pc hb4 hCells.2.2.2.2.1, pc hb4 hCells.2.2.2.2.2⟩⟩
      clear hK K hb4
      try simp only [Act.put, List.setIfInBounds_toArray, List.set_cons_zero, List.set_cons_succ]
      refine takeJ hfnR (by kernel_rfl) 9 (v := ?_) rfl (by kernel_rfl) (fun _ _ _ h => h) (by kernel_rfl) hCells (Or.inl ⟨by rfl, ?_⟩) ?_
      rotate_left 1
      · intro w hSw; (try dsimp only at hSw); go_simp; (try with_reducible rfl)
      try simp only [Act.put, List.setIfInBounds_toArray, List.set_cons_zero, List.set_cons_succ]
      refine takeJ hfnR (by kernel_rfl) 10 (v := ?_) rfl (by kernel_rfl) (fun _ _ _ h => h) (by kernel_rfl) hCells (Or.inl ⟨by rfl, ?_⟩) ?_
      rotate_left 1
      · intro w hSw; (try dsimp only at hSw); go_simp; (try with_reducible rfl)
      try simp only [Act.put, List.setIfInBounds_toArray, List.set_cons_zero, List.set_cons_succ]
      refine oneJ 11 (by kernel_rfl) rfl (fun K hK => ?_)
      go_simp
      refine ⟨rfl, ?_⟩
      refine (callsIn_wide.2 (must_ok _ _ _)).mono ?_; rintro e w5 ⟨rfl, hb5⟩
      have hk := hk.pass hb5
      have g1 := g1.pass hb5
      have g2 := g2.pass hb5
      have g3 := g3.pass hb5
      have g4 := g4.pass hb5
      have g5 := g5.pass hb5
      have g6 := g6.pass hb5
      have hk11 := hk11.pass hb5
      refine hK.out _ _ (holdJ ?_ (fun hCells => ?_))
      · clear hK; (try dsimp only); exact ⟨⟨pc hb5 hCells.1.1, pc hb5 hCells.1.2⟩, ⟨pc hb5 hCells.2.1.1, pc hb5 hCells.2.1.2⟩, ⟨pc hb5 hCells.2.2.1.1, pc hb5 hCells.2.2.1.2⟩, ⟨pc hb5 hCells.2.2.2.1.1, pc hb5 hCells.2.2.2.1.2⟩, ⟨pc hb5 hCells.2.2.2.2.1, pc hb5 hCells.2.2.2.2.2⟩⟩
      clear hK K hb5
      try simp only [Act.put, List.setIfInBounds_toArray, List.set_cons_zero, List.set_cons_succ]
      refine oneJ 12 (by kernel_rfl) rfl (fun K hK => ?_)
      go_simp
      refine ⟨rfl, ?_⟩
      refine (callsIn_wide.2 (div_q _ _ H.out.s1 H.out.s2 H.out.n2 H.out.s3 (HT.out.below hk.2.2 (Nat.le_refl _)))).mono ?_; rintro e w6 ⟨rfl, hb6⟩
      have hk := hk.pass hb6
      have g1 := g1.pass hb6
      have g2 := g2.pass hb6
      have g3 := g3.pass hb6
      have g4 := g4.pass hb6
      have g5 := g5.pass hb6
      have g6 := g6.pass hb6
      have hk11 := hk11.pass hb6
      refine hK.out _ _ (holdJ ?_ (fun hCells => ?_))
      · clear hK; (try dsimp only); exact ⟨⟨pc hb6 hCells.1.1, pc hb6 hCells.1.2⟩, ⟨pc hb6 hCells.2.1.1, pc hb6 hCells.2.1.2⟩, ⟨pc hb6 hCells.2.2.1.1, pc hb6 hCells.2.2.1.2⟩, ⟨pc hb6 hCells.2.2.2.1.1, pc hb6 hCells.2.2.2.1.2⟩, ⟨pc hb6 hCells.2.2.2.2.1, pc hb6 hCells.2.2.2.2.2⟩⟩
      clear hK K hb6
      try simp only [Act.put, List.setIfInBounds_toArray, List.set_cons_zero, List.set_cons_succ]
      refine takeJ hfnR (by kernel_rfl) 13 (v := ?_) rfl (by kernel_rfl) (fun _ _ _ h => h) (by kernel_rfl) hCells (Or.inl ⟨by rfl, ?_⟩) ?_
      rotate_left 1
      · intro w hSw; (try dsimp only at hSw); go_simp; (try with_reducible rfl)
      try simp only [Act.put, List.setIfInBounds_toArray, List.set_cons_zero, List.set_cons_succ]
      refine takeJ hfnR (by kernel_rfl) 14 (v := ?_) rfl (by kernel_rfl) (fun _ _ _ h => h) (by kernel_rfl) hCells (Or.inl ⟨by rfl, ?_⟩) ?_
      rotate_left 1
      · intro w hSw; (try dsimp only at hSw); go_simp; (try with_reducible rfl)
      try simp only [Act.put, List.setIfInBounds_toArray, List.set_cons_zero, List.set_cons_succ]
      refine oneJ 15 (by kernel_rfl) rfl (fun K hK => ?_)
      go_simp
      refine ⟨rfl, ?_⟩
      refine (callsIn_wide.2 (must_ok _ _ _)).mono ?_; rintro e w7 ⟨rfl, hb7⟩
      have hk := hk.pass hb7
      have g1 := g1.pass hb7
      have g2 := g2.pass hb7
      have g3 := g3.pass hb7
      have g4 := g4.pass hb7
      have g5 := g5.pass hb7
      have g6 := g6.pass hb7
      have hk11 := hk11.pass hb7
      refine hK.out _ _ (holdJ ?_ (fun hCells => ?_))
      · clear hK; (try dsimp only); exact ⟨⟨pc hb7 hCells.1.1, pc hb7 hCells.1.2⟩, ⟨pc hb7 hCells.2.1.1, pc hb7 hCells.2.1.2⟩, ⟨pc hb7 hCells.2.2.1.1, pc hb7 hCells.2.2.1.2⟩, ⟨pc hb7 hCells.2.2.2.1.1, pc hb7 hCells.2.2.2.1.2⟩, ⟨pc hb7 hCells.2.2.2.2.1, pc hb7 hCells.2.2.2.2.2⟩⟩
      clear hK K hb7
      try simp only [Act.put, List.setIfInBounds_toArray, List.set_cons_zero, List.set_cons_succ]
      refine oneJ 17 (by kernel_rfl) rfl (fun K hK => ?_)
      obtain ⟨⟨r0, r1⟩, f0, f1⟩ := hk11.two
      go_simp
      refine hK.out _ _ (holdJ ?_ (fun hCells => ?_))
      · clear hK; (try dsimp only); (exact ⟨⟨far2 hCells.1.1 (by omega), far2 hCells.1.2 (by omega)⟩, ⟨far2 hCells.2.1.1 (by omega), far2 hCells.2.1.2 (by omega)⟩, ⟨far2 hCells.2.2.1.1 (by omega), far2 hCells.2.2.1.2 (by omega)⟩, ⟨far2 hCells.2.2.2.1.1 (by omega), far2 hCells.2.2.2.1.2 (by omega)⟩, ⟨far2 hCells.2.2.2.2.1 (by omega), far2 hCells.2.2.2.2.2 (by omega)⟩⟩)
      clear r0 r1 f0 f1
      have g1 := (g1.far (p := ⟨b_hk11, 0, none⟩) (by simp <;> omega) (.string (qN ((v - u) / (y - x))))).far (p := ⟨b_hk11, 1, none⟩) (by simp <;> omega) (.string (qD ((v - u) / (y - x))))
      have g2 := (g2.far (p := ⟨b_hk11, 0, none⟩) (by simp <;> omega) (.string (qN ((v - u) / (y - x))))).far (p := ⟨b_hk11, 1, none⟩) (by simp <;> omega) (.string (qD ((v - u) / (y - x))))
      have g3 := (g3.far (p := ⟨b_hk11, 0, none⟩) (by simp <;> omega) (.string (qN ((v - u) / (y - x))))).far (p := ⟨b_hk11, 1, none⟩) (by simp <;> omega) (.string (qD ((v - u) / (y - x))))
      have g4 := (g4.far (p := ⟨b_hk11, 0, none⟩) (by simp <;> omega) (.string (qN ((v - u) / (y - x))))).far (p := ⟨b_hk11, 1, none⟩) (by simp <;> omega) (.string (qD ((v - u) / (y - x))))
      have g5 := (g5.far (p := ⟨b_hk11, 0, none⟩) (by simp <;> omega) (.string (qN ((v - u) / (y - x))))).far (p := ⟨b_hk11, 1, none⟩) (by simp <;> omega) (.string (qD ((v - u) / (y - x))))
      have g6 := (g6.far (p := ⟨b_hk11, 0, none⟩) (by simp <;> omega) (.string (qN ((v - u) / (y - x))))).far (p := ⟨b_hk11, 1, none⟩) (by simp <;> omega) (.string (qD ((v - u) / (y - x))))
      have hk := (hk.set (p := ⟨b_hk11, 0, none⟩) ge_hk11 (.string (qN ((v - u) / (y - x))))).set (p := ⟨b_hk11, 1, none⟩) ge_hk11 (.string (qD ((v - u) / (y - x))))
      have hk11 := (hk11.set 0 (.string (qN ((v - u) / (y - x))))).set 1 (.string (qD ((v - u) / (y - x))))
      clear hK K
      try simp only [Act.put, List.setIfInBounds_toArray, List.set_cons_zero, List.set_cons_succ]
      refine wpAnyJ_done (by kernel_rfl) (NoPan.normal ?_) _
      exact ⟨rfl, _, _, _, _, _, _, _, _, _, _, _, _, _, _, _, _, _, _, _, _, _, _, _, _, _, _, _, _, _, _, _, _, _, _, _, _, _, _, rfl, hk11, ge_hk11, ⟨g1, g2, g3⟩, ⟨g4, g5, g6⟩, hk⟩
  · clear hA1 hA2 hA3 hA4 hA5 hA6 HW1
    rintro a' w2 ⟨b11, x_0, x_1, x_2, x_3, x_4, x_5, x_6, x_7, x_8, x_9, x_10, x_11, x_12, x_13, x_14, x_15, x_16, x_17, x_18, x_19, x_20, x_21, x_22, x_23, x_24, x_25, x_26, x_27, x_28, x_29, x_30, x_31, x_32, x_33, x_34, x_35, x_36, rfl, hk11, ge11, ⟨g1, g2, g3⟩, ⟨g4, g5, g6⟩, hk⟩
    have HK := Lib.hid hk.drew
    have g6 := g6.drew
    clear g2 g4 hk
    go_wp2_with fail
    refine wp_region_J (fun W => (W.cell? ⟨w.heap.size + 1 + 1, 0, none⟩ = some (.string (qN u)) ∧ W.cell? ⟨w.heap.size + 1 + 1, 1, none⟩ = some (.string (qD u))) ∧ (W.cell? ⟨b11, 0, none⟩ = some (.string (qN ((v - u) / (y - x)))) ∧ W.cell? ⟨b11, 1, none⟩ = some (.string (qD ((v - u) / (y - x))))) ∧ (W.cell? ⟨w.heap.size + 1 + 1 + 1 + 1, 0, none⟩ = some (.string (qN t)) ∧ W.cell? ⟨w.heap.size + 1 + 1 + 1 + 1, 1, none⟩ = some (.string (qD t))) ∧ (W.cell? ⟨w.heap.size, 0, none⟩ = some (.string (qN x)) ∧ W.cell? ⟨w.heap.size, 1, none⟩ = some (.string (qD x)))) [] hm ?hCells0 (fun hCells => ?_)
    case hCells0 => exact ⟨g3.drew.two.1, hk11.drew.two.1, g5.drew.two.1, g1.drew.two.1⟩
    clear g1 g3 g5 hk11
    refine takeJ hfnR (by kernel_rfl) 0 (v := ?_) rfl (by kernel_rfl) (fun _ _ _ h => h) (by kernel_rfl) hCells (Or.inl ⟨by rfl, ?_⟩) ?_
    rotate_left 1
    · intro w hSw; (try dsimp only at hSw); go_simp; (try with_reducible rfl)
    try simp only [Act.put, List.setIfInBounds_toArray, List.set_cons_zero, List.set_cons_succ]
    refine takeJ hfnR (by kernel_rfl) 1 (v := ?_) rfl (by kernel_rfl) (fun _ _ _ h => h) (by kernel_rfl) hCells (Or.inl ⟨by rfl, ?_⟩) ?_
    rotate_left 1
    · intro w hSw; (try dsimp only at hSw); go_simp; (try with_reducible rfl)
    try simp only [Act.put, List.setIfInBounds_toArray, List.set_cons_zero, List.set_cons_succ]
    refine takeJ hfnR (by kernel_rfl) 2 (v := ?_) rfl (by kernel_rfl) (fun _ _ _ h => h) (by kernel_rfl) hCells (Or.inl ⟨by rfl, ?_⟩) ?_
    rotate_left 1
    · intro w hSw; (try dsimp only at hSw); go_simp; (try with_reducible rfl)
    try simp only [Act.put, List.setIfInBounds_toArray, List.set_cons_zero, List.set_cons_succ]
    refine takeJ hfnR (by kernel_rfl) 3 (v := ?_) rfl (by kernel_rfl) (fun _ _ _ h => h) (by kernel_rfl) hCells (Or.inl ⟨by rfl, ?_⟩) ?_
    rotate_left 1
    · intro w hSw; (try dsimp only at hSw); go_simp; (try with_reducible rfl)
    try simp only [Act.put, List.setIfInBounds_toArray, List.set_cons_zero, List.set_cons_succ]
    refine oneJ 4 (by kernel_rfl) rfl (fun K hK => ?_)
    go_simp
    refine ⟨rfl, ?_⟩
    (refine (callsIn_wide.2 (sub_q t x H.out.ht H.out.hx H.out.s4 (HT.out.below HK.out.2.2 (Nat.le_refl _)))).mono ?_; rintro e w3 ⟨rfl, hb3⟩)
    refine hK.out _ _ (holdJ ?_ (fun hCells => ?_))
    · clear hK; (try dsimp only); (exact ⟨⟨pc hb3 hCells.1.1, pc hb3 hCells.1.2⟩, ⟨pc hb3 hCells.2.1.1, pc hb3 hCells.2.1.2⟩, ⟨pc hb3 hCells.2.2.1.1, pc hb3 hCells.2.2.1.2⟩, ⟨pc hb3 hCells.2.2.2.1, pc hb3 hCells.2.2.2.2⟩⟩)
    clear hK K
    try simp only [Act.put, List.setIfInBounds_toArray, List.set_cons_zero, List.set_cons_succ]
    have HK := Lib.hid (HK.out.pass hb3)
    have g6 := g6.pass hb3
    clear hb3
    refine takeJ hfnR (by kernel_rfl) 5 (v := ?_) rfl (by kernel_rfl) (fun _ _ _ h => h) (by kernel_rfl) hCells (Or.inl ⟨by rfl, ?_⟩) ?_
    rotate_left 1
    · intro w hSw; (try dsimp only at hSw); go_simp; (try with_reducible rfl)
    try simp only [Act.put, List.setIfInBounds_toArray, List.set_cons_zero, List.set_cons_succ]
    refine takeJ hfnR (by kernel_rfl) 6 (v := ?_) rfl (by kernel_rfl) (fun _ _ _ h => h) (by kernel_rfl) hCells (Or.inl ⟨by rfl, ?_⟩) ?_
    rotate_left 1
    · intro w hSw; (try dsimp only at hSw); go_simp; (try with_reducible rfl)
    try simp only [Act.put, List.setIfInBounds_toArray, List.set_cons_zero, List.set_cons_succ]
    refine oneJ 7 (by kernel_rfl) rfl (fun K hK => ?_)
    go_simp
    refine ⟨rfl, ?_⟩
    (refine (callsIn_wide.2 (must_ok _ _ _)).mono ?_; rintro e w4 ⟨rfl, hb4⟩)
    refine hK.out _ _ (holdJ ?_ (fun hCells => ?_))
    · clear hK; (try dsimp only); (exact ⟨⟨pc hb4 hCells.1.1, pc hb4 hCells.1.2⟩, ⟨pc hb4 hCells.2.1.1, pc hb4 hCells.2.1.2⟩, ⟨pc hb4 hCells.2.2.1.1, pc hb4 hCells.2.2.1.2⟩, ⟨pc hb4 hCells.2.2.2.1, pc hb4 hCells.2.2.2.2⟩⟩)
    clear hK K
    try simp only [Act.put, List.setIfInBounds_toArray, List.set_cons_zero, List.set_cons_succ]
    have HK := Lib.hid (HK.out.pass hb4)
    have g6 := g6.pass hb4
    clear hb4
    refine oneJ 8 (by kernel_rfl) rfl (fun K hK => ?_)
    go_simp
    refine ⟨rfl, ?_⟩
    (refine (callsIn_wide.2 (mul_q _ _ H.out.s3 H.out.s4 H.out.s5 (HT.out.below HK.out.2.2 (Nat.le_refl _)))).mono ?_; rintro e w5 ⟨rfl, hb5⟩)
    refine hK.out _ _ (holdJ ?_ (fun hCells => ?_))
    · clear hK; (try dsimp only); (exact ⟨⟨pc hb5 hCells.1.1, pc hb5 hCells.1.2⟩, ⟨pc hb5 hCells.2.1.1, pc hb5 hCells.2.1.2⟩, ⟨pc hb5 hCells.2.2.1.1, pc hb5 hCells.2.2.1.2⟩, ⟨pc hb5 hCells.2.2.2.1, pc hb5 hCells.2.2.2.2⟩⟩)
    clear hK K
    try simp only [Act.put, List.setIfInBounds_toArray, List.set_cons_zero, List.set_cons_succ]
    have HK := Lib.hid (HK.out.pass hb5)
    have g6 := g6.pass hb5
    clear hb5
    refine takeJ hfnR (by kernel_rfl) 9 (v := ?_) rfl (by kernel_rfl) (fun _ _ _ h => h) (by kernel_rfl) hCells (Or.inl ⟨by rfl, ?_⟩) ?_
    rotate_left 1
    · intro w hSw; (try dsimp only at hSw); go_simp; (try with_reducible rfl)
    try simp only [Act.put, List.setIfInBounds_toArray, List.set_cons_zero, List.set_cons_succ]
    refine takeJ hfnR (by kernel_rfl) 10 (v := ?_) rfl (by kernel_rfl) (fun _ _ _ h => h) (by kernel_rfl) hCells (Or.inl ⟨by rfl, ?_⟩) ?_
    rotate_left 1
    · intro w hSw; (try dsimp only at hSw); go_simp; (try with_reducible rfl)
    try simp only [Act.put, List.setIfInBounds_toArray, List.set_cons_zero, List.set_cons_succ]
    refine oneJ 11 (by kernel_rfl) rfl (fun K hK => ?_)
    go_simp
    refine ⟨rfl, ?_⟩
    (refine (callsIn_wide.2 (must_ok _ _ _)).mono ?_; rintro e w6 ⟨rfl, hb6⟩)
    refine hK.out _ _ (holdJ ?_ (fun hCells => ?_))
    · clear hK; (try dsimp only); (exact ⟨⟨pc hb6 hCells.1.1, pc hb6 hCells.1.2⟩, ⟨pc hb6 hCells.2.1.1, pc hb6 hCells.2.1.2⟩, ⟨pc hb6 hCells.2.2.1.1, pc hb6 hCells.2.2.1.2⟩, ⟨pc hb6 hCells.2.2.2.1, pc hb6 hCells.2.2.2.2⟩⟩)
    clear hK K
    try simp only [Act.put, List.setIfInBounds_toArray, List.set_cons_zero, List.set_cons_succ]
    have HK := Lib.hid (HK.out.pass hb6)
    have g6 := g6.pass hb6
    clear hb6
    refine oneJ 12 (by kernel_rfl) rfl (fun K hK => ?_)
    go_simp
    refine ⟨rfl, ?_⟩
    (refine (callsIn_wide.2 (add_q _ _ H.out.hu H.out.s5 H.out.s6 (HT.out.below HK.out.2.2 (Nat.le_refl _)))).mono ?_; rintro e w7 ⟨rfl, hb7⟩)
    refine hK.out _ _ (holdJ ?_ (fun hCells => ?_))
    · clear hK; (try dsimp only); (exact ⟨⟨pc hb7 hCells.1.1, pc hb7 hCells.1.2⟩, ⟨pc hb7 hCells.2.1.1, pc hb7 hCells.2.1.2⟩, ⟨pc hb7 hCells.2.2.1.1, pc hb7 hCells.2.2.1.2⟩, ⟨pc hb7 hCells.2.2.2.1, pc hb7 hCells.2.2.2.2⟩⟩)
    clear hK K
    try simp only [Act.put, List.setIfInBounds_toArray, List.set_cons_zero, List.set_cons_succ]
    have HK := Lib.hid (HK.out.pass hb7)
    have g6 := g6.pass hb7
    clear hb7
    refine takeJ hfnR (by kernel_rfl) 13 (v := ?_) rfl (by kernel_rfl) (fun _ _ _ h => h) (by kernel_rfl) hCells (Or.inl ⟨by rfl, ?_⟩) ?_
    rotate_left 1
    · intro w hSw; (try dsimp only at hSw); go_simp; (try with_reducible rfl)
    try simp only [Act.put, List.setIfInBounds_toArray, List.set_cons_zero, List.set_cons_succ]
    refine takeJ hfnR (by kernel_rfl) 14 (v := ?_) rfl (by kernel_rfl) (fun _ _ _ h => h) (by kernel_rfl) hCells (Or.inl ⟨by rfl, ?_⟩) ?_
    rotate_left 1
    · intro w hSw; (try dsimp only at hSw); go_simp; (try with_reducible rfl)
    try simp only [Act.put, List.setIfInBounds_toArray, List.set_cons_zero, List.set_cons_succ]
    refine oneJ 15 (by kernel_rfl) rfl (fun K hK => ?_)
    go_simp
    refine ⟨rfl, ?_⟩
    (refine (callsIn_wide.2 (must_ok _ _ _)).mono ?_; rintro e w8 ⟨rfl, hb8⟩)
    refine hK.out _ _ (holdJ ?_ (fun hCells => ?_))
    · clear hK; (try dsimp only); (exact ⟨⟨pc hb8 hCells.1.1, pc hb8 hCells.1.2⟩, ⟨pc hb8 hCells.2.1.1, pc hb8 hCells.2.1.2⟩, ⟨pc hb8 hCells.2.2.1.1, pc hb8 hCells.2.2.1.2⟩, ⟨pc hb8 hCells.2.2.2.1, pc hb8 hCells.2.2.2.2⟩⟩)
    clear hK K
    try simp only [Act.put, List.setIfInBounds_toArray, List.set_cons_zero, List.set_cons_succ]
    have HK := Lib.hid (HK.out.pass hb8)
    have g6 := g6.pass hb8
    clear hb8
    obtain ⟨⟨r0, r1⟩, f0, f1⟩ := g6.two
    refine oneJ 16 (by kernel_rfl) rfl (fun K hK => ?_)
    go_simp
    refine hK.out _ _ (holdJ ?_ (fun hCells => ?_))
    · clear hK; (try dsimp only); (exact ⟨⟨far2 hCells.1.1 (by omega), far2 hCells.1.2 (by omega)⟩, ⟨far2 hCells.2.1.1 (by omega), far2 hCells.2.1.2 (by omega)⟩, ⟨far2 hCells.2.2.1.1 (by omega), far2 hCells.2.2.1.2 (by omega)⟩, ⟨far2 hCells.2.2.2.1 (by omega), far2 hCells.2.2.2.2 (by omega)⟩⟩)
    clear hK K
    try simp only [Act.put, List.setIfInBounds_toArray, List.set_cons_zero, List.set_cons_succ]
    refine wpAnyJ_done (by kernel_rfl) (NoPan.normal ?_) _
    go_wp2_with fail
    refine bodyPost_ret (results_c1 (g := w.heap.size + 1 + 1 + 1 + 1 + 1) rfl rfl ((g6.set 0 _).set 1 _) Tryz.underlying46 rfl (by kernel_rfl)) rfl ?_
    exact ⟨by simp, (HK.out.2.2.setCell (by simp; omega) _).setCell (by simp; omega) _⟩
end Go.Proofs.Cr
