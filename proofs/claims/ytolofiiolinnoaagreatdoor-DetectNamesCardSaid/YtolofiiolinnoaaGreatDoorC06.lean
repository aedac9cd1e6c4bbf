/- Contracts of functions that the laws reach, and plain lemmas. Part 6. -/
import Derived.Test.YtolofiiolinnoaaGreatDoorC05
set_option linter.all false
namespace Go.Proofs.Cr
open Go.RowKit Go.Shelf
attribute [local go_sem] Oper.semAt_some

theorem times_n {a b : Nat} {A1 A2 : Option Addr} {l1 l2 c1 c2 : Nat} {w : World} (h1 : Num w A1 l1 c1 a) (h2 : Num w A2 l2 c2 b) (hs1 : l1 ≤ 1000) (hs2 : l2 ≤ 1000) :
    Calls Tryz.prog 64 #[.slice A1 l1 c1, .slice A2 l2 c2] w fun e w' => ∃ A l c, e = .returned (.slice A l c) ∧ Num w' A l c (a * b) ∧ l ≤ l1 + l2 ∧ Below w.heap.size w w' := by
  refine (times_any a b A1 A2 l1 l2 c1 c2 w h1 h2 (by omega) (by omega)).mono ?_
  rintro e w' ⟨v, rfl, ho, hb⟩
  have hl := limbs_mul_length B9_two a b
  rw [← h1.1, ← h2.1] at hl
  obtain ⟨A, l, c, rfl, hN⟩ := NumV.of_owns ho (by omega)
  exact ⟨A, l, c, rfl, hN, by rw [hN.1]; exact hl, hb⟩
theorem plus_n {a b : Nat} {A1 A2 : Option Addr} {l1 l2 c1 c2 : Nat} {w : World} (h1 : Num w A1 l1 c1 a) (h2 : Num w A2 l2 c2 b) (hs1 : l1 ≤ 1000) (hs2 : l2 ≤ 1000) :
    Calls Tryz.prog 65 #[.slice A1 l1 c1, .slice A2 l2 c2] w fun e w' => ∃ A l c, e = .returned (.slice A l c) ∧ Num w' A l c (a + b) ∧ l ≤ max l1 l2 + 1 ∧ Below w.heap.size w w' := by
  refine (plus_any a b A1 A2 l1 l2 c1 c2 w h1 h2 (by omega) (by omega)).mono ?_
  rintro e w' ⟨v, rfl, ho, hb⟩
  have hl := limbs_add_length B9_two a b
  rw [← h1.1, ← h2.1] at hl
  obtain ⟨A, l, c, rfl, hN⟩ := NumV.of_owns ho (by omega)
  exact ⟨A, l, c, rfl, hN, by rw [hN.1]; exact hl, hb⟩
theorem minus_n {a b : Nat} {A1 A2 : Option Addr} {l1 l2 c1 c2 : Nat} {w : World} (h1 : Num w A1 l1 c1 a) (h2 : Num w A2 l2 c2 b) (hs1 : l1 ≤ 1000) (hle : b ≤ a) :
    Calls Tryz.prog 91 #[.slice A1 l1 c1, .slice A2 l2 c2] w fun e w' => ∃ A l c, e = .returned (.slice A l c) ∧ Num w' A l c (a - b) ∧ l ≤ l1 ∧ Below w.heap.size w w' := by
  have hs2 : l2 ≤ l1 := by rw [h1.1, h2.1]; exact limbs_length_mono B9_two hle
  refine (minus_any a b A1 A2 l1 l2 c1 c2 w h1 h2 (by omega) (by omega)).mono ?_
  rintro e w' ⟨v, rfl, ho, hb⟩
  have hl := limbs_length_mono B9_two (Nat.sub_le a b)
  rw [← h1.1] at hl
  obtain ⟨A, l, c, rfl, hN⟩ := NumV.of_owns ho (by omega)
  exact ⟨A, l, c, rfl, hN, by rw [hN.1]; exact hl, hb⟩
theorem part_n {n d : Nat} {A1 A2 : Option Addr} {l1 l2 c1 c2 : Nat} {w : World} (h1 : Num w A1 l1 c1 n) (h2 : Num w A2 l2 c2 d) (hs1 : l1 ≤ 1000) (hs2 : l2 ≤ 1000) (hd0 : 0 < d) (hT : TabW w) :
    Calls Tryz.prog 66 #[.agg #[.slice A1 l1 c1, .slice A2 l2 c2]] w (PartPost (partS n d) w) :=
  part_any n d _ _ w ⟨_, _, _, rfl, h1⟩ ⟨_, _, _, rfl, h2⟩ (by rw [← h1.1]; omega) (by rw [← h2.1]; omega) hd0 hT

set_option maxRecDepth 100000 in
set_option maxHeartbeats 1000000 in
theorem mul1_any (n1 d1 n2 d2 : Nat) (v1 v2 v3 v4 : Value) (w : World) (h1 : NumV w v1 n1) (h2 : NumV w v2 d1) (h3 : NumV w v3 n2) (h4 : NumV w v4 d2)
    (b1 : (limbs B9 n1).length ≤ 67) (b2 : (limbs B9 d1).length ≤ 67) (b3 : (limbs B9 n2).length ≤ 67) (b4 : (limbs B9 d2).length ≤ 67) (hd1 : 0 < d1) (hd2 : 0 < d2) (hT : TabW w) :
    Calls Tryz.prog 71 #[.agg #[v1, v2], .agg #[v3, v4]] w (PartPost (partS (n1 * n2) (d1 * d2)) w) := by
  obtain ⟨A1, l1, c1, rfl, h1⟩ := h1
  obtain ⟨A2, l2, c2, rfl, h2⟩ := h2
  obtain ⟨A3, l3, c3, rfl, h3⟩ := h3
  obtain ⟨A4, l4, c4, rfl, h4⟩ := h4
  rw [← h1.1] at b1; rw [← h2.1] at b2; rw [← h3.1] at b3; rw [← h4.1] at b4
  obtain ⟨hA1, hB1, hR1, hW1⟩ := three_new w #[.slice A1 l1 c1, .slice A2 l2 c2] #[.slice A3 l3 c3, .slice A4 l4 c4] #[.string ⟨#[]⟩, .string ⟨#[]⟩] 95 95 46
  have HW1 := Lib.hid hW1.drew
  have H := Lib.hid (And.intro h1 (And.intro h2 (And.intro h3 (And.intro h4 (And.intro hT (Nat.mul_pos hd1 hd2))))))
  clear h1 h2 h3 h4 hT hW1 hd1 hd2
  obtain ⟨p, hp⟩ : ∃ p, p = partS (n1 * n2) (d1 * d2) := ⟨_, rfl⟩
  have HP := Lib.hid hp
  rw [← hp]
  obtain ⟨p1, p2, p3⟩ := p
  clear hp
  go_enter Tryz.func71, Tryz.ntmps71
  go_wp2_with fail
  have hm : Tryz.prog.follows .mixedOrders = true := by kernel_rfl
  have hfnR : ∀ f, Fence.wide.fn f := fun _ => trivial
  refine wp_region_J (fun W => (W.cell? ⟨w.heap.size, 0, none⟩ = some (.slice A1 l1 c1) ∧ W.cell? ⟨w.heap.size, 1, none⟩ = some (.slice A2 l2 c2)) ∧ (W.cell? ⟨w.heap.size + 1, 0, none⟩ = some (.slice A3 l3 c3) ∧ W.cell? ⟨w.heap.size + 1, 1, none⟩ = some (.slice A4 l4 c4))) [] hm ?hCells0 (fun hCells => ?_)
  case hCells0 => exact ⟨hA1.drew.two.1, hB1.drew.two.1⟩
  refine takeJ hfnR (by kernel_rfl) 0 (v := ?_) rfl (by kernel_rfl) (fun _ _ _ h => h) (by kernel_rfl) hCells (Or.inl ⟨by rfl, ?_⟩) ?_
  rotate_left 1
  · intro w hSw; (try dsimp only at hSw); go_simp; (try with_reducible rfl)
  try simp only [Act.put, List.setIfInBounds_toArray, List.set_cons_zero, List.set_cons_succ]
  refine takeJ hfnR (by kernel_rfl) 1 (v := ?_) rfl (by kernel_rfl) (fun _ _ _ h => h) (by kernel_rfl) hCells (Or.inl ⟨by rfl, ?_⟩) ?_
  rotate_left 1
  · intro w hSw; (try dsimp only at hSw); go_simp; (try with_reducible rfl)
  try simp only [Act.put, List.setIfInBounds_toArray, List.set_cons_zero, List.set_cons_succ]
  refine takeJ hfnR (by kernel_rfl) 2 (v := ?_) rfl (by kernel_rfl) (fun _ _ _ h => h) (by kernel_rfl) hCells (Or.inl ⟨by rfl, ?_⟩) ?_
  rotate_left 1
  · intro w hSw; (try dsimp only at hSw); go_simp; (try with_reducible rfl)
  try simp only [Act.put, List.setIfInBounds_toArray, List.set_cons_zero, List.set_cons_succ]
  refine takeJ hfnR (by kernel_rfl) 3 (v := ?_) rfl (by kernel_rfl) (fun _ _ _ h => h) (by kernel_rfl) hCells (Or.inl ⟨by rfl, ?_⟩) ?_
  rotate_left 1
  · intro w hSw; (try dsimp only at hSw); go_simp; (try with_reducible rfl)
  try simp only [Act.put, List.setIfInBounds_toArray, List.set_cons_zero, List.set_cons_succ]
  refine takeJ hfnR (by kernel_rfl) 5 (v := ?_) rfl (by kernel_rfl) (fun _ _ _ h => h) (by kernel_rfl) hCells (Or.inl ⟨by rfl, ?_⟩) ?_
  rotate_left 1
  · intro w hSw; (try dsimp only at hSw); go_simp; (try with_reducible rfl)
  try simp only [Act.put, List.setIfInBounds_toArray, List.set_cons_zero, List.set_cons_succ]
  refine takeJ hfnR (by kernel_rfl) 6 (v := ?_) rfl (by kernel_rfl) (fun _ _ _ h => h) (by kernel_rfl) hCells (Or.inl ⟨by rfl, ?_⟩) ?_
  rotate_left 1
  · intro w hSw; (try dsimp only at hSw); go_simp; (try with_reducible rfl)
  try simp only [Act.put, List.setIfInBounds_toArray, List.set_cons_zero, List.set_cons_succ]
  refine takeJ hfnR (by kernel_rfl) 7 (v := ?_) rfl (by kernel_rfl) (fun _ _ _ h => h) (by kernel_rfl) hCells (Or.inl ⟨by rfl, ?_⟩) ?_
  rotate_left 1
  · intro w hSw; (try dsimp only at hSw); go_simp; (try with_reducible rfl)
  try simp only [Act.put, List.setIfInBounds_toArray, List.set_cons_zero, List.set_cons_succ]
  refine takeJ hfnR (by kernel_rfl) 8 (v := ?_) rfl (by kernel_rfl) (fun _ _ _ h => h) (by kernel_rfl) hCells (Or.inl ⟨by rfl, ?_⟩) ?_
  rotate_left 1
  · intro w hSw; (try dsimp only at hSw); go_simp; (try with_reducible rfl)
  try simp only [Act.put, List.setIfInBounds_toArray, List.set_cons_zero, List.set_cons_succ]
  have TA := Lib.hid (times_n (H.out.1.below HW1.out (Nat.le_refl _)) (H.out.2.2.1.below HW1.out (Nat.le_refl _)) (by omega) (by omega))
  refine oneJ 4 (by kernel_rfl) rfl (fun K hK => ?_)
  go_simp
  refine ⟨rfl, ?_⟩
  (refine (callsIn_wide.2 TA.out).mono ?_; rintro e w2 ⟨A5, l5, c5, rfl, h5, b5, hb2⟩)
  refine hK.out _ _ (holdJ ?_ (fun hCells => ?_))
  · clear hK; (try dsimp only); (exact ⟨⟨pc hb2 hCells.1.1, pc hb2 hCells.1.2⟩, ⟨pc hb2 hCells.2.1, pc hb2 hCells.2.2⟩⟩)
  clear hK K
  try simp only [Act.put, List.setIfInBounds_toArray, List.set_cons_zero, List.set_cons_succ]
  have HB2 : Hid (Below w.heap.size w w2) := Lib.hid (HW1.out.trans (hb2.mono HW1.out.size))
  have TB := Lib.hid (times_n (H.out.2.1.below HB2.out (Nat.le_refl _)) (H.out.2.2.2.1.below HB2.out (Nat.le_refl _)) (by omega) (by omega))
  refine oneJ 9 (by kernel_rfl) rfl (fun K hK => ?_)
  go_simp
  refine ⟨rfl, ?_⟩
  (refine (callsIn_wide.2 TB.out).mono ?_; rintro e w3 ⟨A6, l6, c6, rfl, h6, b6, hb3⟩)
  refine hK.out _ _ (holdJ ?_ (fun hCells => ?_))
  · clear hK; (try dsimp only); (exact ⟨⟨pc hb3 hCells.1.1, pc hb3 hCells.1.2⟩, ⟨pc hb3 hCells.2.1, pc hb3 hCells.2.2⟩⟩)
  clear hK K
  try simp only [Act.put, List.setIfInBounds_toArray, List.set_cons_zero, List.set_cons_succ]
  have HB3 : Hid (Below w.heap.size w w3) := Lib.hid (HB2.out.trans (hb3.mono HB2.out.size))
  have TP := Lib.hid (part_n (h5.below hb3 (Nat.le_refl _)) h6 (by omega) (by omega) H.out.2.2.2.2.2 (H.out.2.2.2.2.1.below HB3.out (Nat.le_refl _)))
  rw [← HP.out] at TP
  have hR3 := (hR1.drew.pass hb2).pass hb3
  clear h5 h6 hb2 hR1
  refine takeJ hfnR (by kernel_rfl) 10 (v := ?_) rfl (by kernel_rfl) (fun _ _ _ h => h) (by kernel_rfl) hCells (Or.inl ⟨by rfl, ?_⟩) ?_
  rotate_left 1
  · intro w hSw; (try dsimp only at hSw); go_simp; (try with_reducible rfl)
  try simp only [Act.put, List.setIfInBounds_toArray, List.set_cons_zero, List.set_cons_succ]
  refine oneJ 11 (by kernel_rfl) rfl (fun K hK => ?_)
  go_simp
  refine ⟨rfl, ?_⟩
  (refine (callsIn_wide.2 TP.out).mono ?_; rintro e w4 ⟨he, hb4⟩; simp only [pv] at he; subst he)
  refine hK.out _ _ (holdJ ?_ (fun hCells => ?_))
  · clear hK; (try dsimp only); (exact ⟨⟨pc hb4 hCells.1.1, pc hb4 hCells.1.2⟩, ⟨pc hb4 hCells.2.1, pc hb4 hCells.2.2⟩⟩)
  clear hK K
  try simp only [Act.put, List.setIfInBounds_toArray, List.set_cons_zero, List.set_cons_succ]
  have HB4 : Hid (Below w.heap.size w w4) := Lib.hid (HB3.out.trans (hb4.mono HB3.out.size))
  have hR4 := hR3.pass hb4
  obtain ⟨⟨r0, r1⟩, f0, f1⟩ := hR4.two
  clear hb4 hR3 hb3
  refine takeJ hfnR (by kernel_rfl) 12 (v := ?_) rfl (by kernel_rfl) (fun _ _ _ h => h) (by kernel_rfl) hCells (Or.inl ⟨by rfl, ?_⟩) ?_
  rotate_left 1
  · intro w hSw; (try dsimp only at hSw); go_simp; (try with_reducible rfl)
  try simp only [Act.put, List.setIfInBounds_toArray, List.set_cons_zero, List.set_cons_succ]
  refine takeJ hfnR (by kernel_rfl) 13 (v := ?_) rfl (by kernel_rfl) (fun _ _ _ h => h) (by kernel_rfl) hCells (Or.inl ⟨by rfl, ?_⟩) ?_
  rotate_left 1
  · intro w hSw; (try dsimp only at hSw); go_simp; (try with_reducible rfl)
  try simp only [Act.put, List.setIfInBounds_toArray, List.set_cons_zero, List.set_cons_succ]
  refine oneJ 14 (by kernel_rfl) rfl (fun K hK => ?_)
  go_simp
  refine hK.out _ _ (holdJ ?_ (fun hCells => ?_))
  · clear hK; (try dsimp only); (exact ⟨⟨far2 hCells.1.1 (by omega), far2 hCells.1.2 (by omega)⟩, ⟨far2 hCells.2.1 (by omega), far2 hCells.2.2 (by omega)⟩⟩)
  clear hK K
  try simp only [Act.put, List.setIfInBounds_toArray, List.set_cons_zero, List.set_cons_succ]
  refine takeJ hfnR (by kernel_rfl) 15 (v := ?_) rfl (by kernel_rfl) (fun _ _ _ h => h) (by kernel_rfl) hCells (Or.inl ⟨by rfl, ?_⟩) ?_
  rotate_left 1
  · intro w hSw; (try dsimp only at hSw); go_simp; (try with_reducible rfl)
  try simp only [Act.put, List.setIfInBounds_toArray, List.set_cons_zero, List.set_cons_succ]
  refine wpAnyJ_done (by kernel_rfl) (NoPan.normal ?_) _
  go_wp2
  refine bodyPost_ret (results_ct (g := w.heap.size + 1 + 1) rfl rfl ((hR4.set 0 _).set 1 _) Tryz.underlying46 rfl (by kernel_rfl)) rfl ?_
  exact ⟨by simp [pv], (HB4.out.setCell (by simp; omega) _).setCell (by simp; omega) _⟩
end Go.Proofs.Cr
namespace Go.Proofs.Cr
open Go.RowKit Go.Shelf
attribute [local go_sem] Oper.semAt_some

set_option maxRecDepth 100000 in
set_option maxHeartbeats 1000000 in
theorem add1_any (n1 d1 n2 d2 : Nat) (v1 v2 v3 v4 : Value) (w : World) (h1 : NumV w v1 n1) (h2 : NumV w v2 d1) (h3 : NumV w v3 n2) (h4 : NumV w v4 d2)
    (b1 : (limbs B9 n1).length ≤ 67) (b2 : (limbs B9 d1).length ≤ 67) (b3 : (limbs B9 n2).length ≤ 67) (b4 : (limbs B9 d2).length ≤ 67) (hd1 : 0 < d1) (hd2 : 0 < d2) (hT : TabW w) :
    Calls Tryz.prog 63 #[.agg #[v1, v2], .agg #[v3, v4]] w (PartPost (partS (n1 * d2 + n2 * d1) (d1 * d2)) w) := by
  obtain ⟨A1, l1, c1, rfl, h1⟩ := h1
  obtain ⟨A2, l2, c2, rfl, h2⟩ := h2
  obtain ⟨A3, l3, c3, rfl, h3⟩ := h3
  obtain ⟨A4, l4, c4, rfl, h4⟩ := h4
  rw [← h1.1] at b1; rw [← h2.1] at b2; rw [← h3.1] at b3; rw [← h4.1] at b4
  obtain ⟨hA1, hB1, hR1, hW1⟩ := three_new w #[.slice A1 l1 c1, .slice A2 l2 c2] #[.slice A3 l3 c3, .slice A4 l4 c4] #[.string ⟨#[]⟩, .string ⟨#[]⟩] 95 95 46
  have HW1 := Lib.hid hW1.drew
  have H := Lib.hid (And.intro h1 (And.intro h2 (And.intro h3 (And.intro h4 (And.intro hT (Nat.mul_pos hd1 hd2))))))
  clear h1 h2 h3 h4 hT hW1 hd1 hd2
  obtain ⟨p, hp⟩ : ∃ p, p = partS (n1 * d2 + n2 * d1) (d1 * d2) := ⟨_, rfl⟩
  have HP := Lib.hid hp
  rw [← hp]
  obtain ⟨p1, p2, p3⟩ := p
  clear hp
  go_enter Tryz.func63, Tryz.ntmps63
  go_wp2_with fail
  have hm : Tryz.prog.follows .mixedOrders = true := by kernel_rfl
  have hfnR : ∀ f, Fence.wide.fn f := fun _ => trivial
  refine wp_region_J (fun W => (W.cell? ⟨w.heap.size, 0, none⟩ = some (.slice A1 l1 c1) ∧ W.cell? ⟨w.heap.size, 1, none⟩ = some (.slice A2 l2 c2)) ∧ (W.cell? ⟨w.heap.size + 1, 0, none⟩ = some (.slice A3 l3 c3) ∧ W.cell? ⟨w.heap.size + 1, 1, none⟩ = some (.slice A4 l4 c4))) [] hm ?hCells0 (fun hCells => ?_)
  case hCells0 => exact ⟨hA1.drew.two.1, hB1.drew.two.1⟩
  refine takeJ hfnR (by kernel_rfl) 0 (v := ?_) rfl (by kernel_rfl) (fun _ _ _ h => h) (by kernel_rfl) hCells (Or.inl ⟨by rfl, ?_⟩) ?_
  rotate_left 1
  · intro w hSw; (try dsimp only at hSw); go_simp; (try with_reducible rfl)
  try simp only [Act.put, List.setIfInBounds_toArray, List.set_cons_zero, List.set_cons_succ]
  refine takeJ hfnR (by kernel_rfl) 1 (v := ?_) rfl (by kernel_rfl) (fun _ _ _ h => h) (by kernel_rfl) hCells (Or.inl ⟨by rfl, ?_⟩) ?_
  rotate_left 1
  · intro w hSw; (try dsimp only at hSw); go_simp; (try with_reducible rfl)
  try simp only [Act.put, List.setIfInBounds_toArray, List.set_cons_zero, List.set_cons_succ]
  refine takeJ hfnR (by kernel_rfl) 2 (v := ?_) rfl (by kernel_rfl) (fun _ _ _ h => h) (by kernel_rfl) hCells (Or.inl ⟨by rfl, ?_⟩) ?_
  rotate_left 1
  · intro w hSw; (try dsimp only at hSw); go_simp; (try with_reducible rfl)
  try simp only [Act.put, List.setIfInBounds_toArray, List.set_cons_zero, List.set_cons_succ]
  refine takeJ hfnR (by kernel_rfl) 3 (v := ?_) rfl (by kernel_rfl) (fun _ _ _ h => h) (by kernel_rfl) hCells (Or.inl ⟨by rfl, ?_⟩) ?_
  rotate_left 1
  · intro w hSw; (try dsimp only at hSw); go_simp; (try with_reducible rfl)
  try simp only [Act.put, List.setIfInBounds_toArray, List.set_cons_zero, List.set_cons_succ]
  refine takeJ hfnR (by kernel_rfl) 5 (v := ?_) rfl (by kernel_rfl) (fun _ _ _ h => h) (by kernel_rfl) hCells (Or.inl ⟨by rfl, ?_⟩) ?_
  rotate_left 1
  · intro w hSw; (try dsimp only at hSw); go_simp; (try with_reducible rfl)
  try simp only [Act.put, List.setIfInBounds_toArray, List.set_cons_zero, List.set_cons_succ]
  refine takeJ hfnR (by kernel_rfl) 6 (v := ?_) rfl (by kernel_rfl) (fun _ _ _ h => h) (by kernel_rfl) hCells (Or.inl ⟨by rfl, ?_⟩) ?_
  rotate_left 1
  · intro w hSw; (try dsimp only at hSw); go_simp; (try with_reducible rfl)
  try simp only [Act.put, List.setIfInBounds_toArray, List.set_cons_zero, List.set_cons_succ]
  refine takeJ hfnR (by kernel_rfl) 7 (v := ?_) rfl (by kernel_rfl) (fun _ _ _ h => h) (by kernel_rfl) hCells (Or.inl ⟨by rfl, ?_⟩) ?_
  rotate_left 1
  · intro w hSw; (try dsimp only at hSw); go_simp; (try with_reducible rfl)
  try simp only [Act.put, List.setIfInBounds_toArray, List.set_cons_zero, List.set_cons_succ]
  refine takeJ hfnR (by kernel_rfl) 8 (v := ?_) rfl (by kernel_rfl) (fun _ _ _ h => h) (by kernel_rfl) hCells (Or.inl ⟨by rfl, ?_⟩) ?_
  rotate_left 1
  · intro w hSw; (try dsimp only at hSw); go_simp; (try with_reducible rfl)
  try simp only [Act.put, List.setIfInBounds_toArray, List.set_cons_zero, List.set_cons_succ]
  refine takeJ hfnR (by kernel_rfl) 11 (v := ?_) rfl (by kernel_rfl) (fun _ _ _ h => h) (by kernel_rfl) hCells (Or.inl ⟨by rfl, ?_⟩) ?_
  rotate_left 1
  · intro w hSw; (try dsimp only at hSw); go_simp; (try with_reducible rfl)
  try simp only [Act.put, List.setIfInBounds_toArray, List.set_cons_zero, List.set_cons_succ]
  refine takeJ hfnR (by kernel_rfl) 12 (v := ?_) rfl (by kernel_rfl) (fun _ _ _ h => h) (by kernel_rfl) hCells (Or.inl ⟨by rfl, ?_⟩) ?_
  rotate_left 1
  · intro w hSw; (try dsimp only at hSw); go_simp; (try with_reducible rfl)
  try simp only [Act.put, List.setIfInBounds_toArray, List.set_cons_zero, List.set_cons_succ]
  refine takeJ hfnR (by kernel_rfl) 13 (v := ?_) rfl (by kernel_rfl) (fun _ _ _ h => h) (by kernel_rfl) hCells (Or.inl ⟨by rfl, ?_⟩) ?_
  rotate_left 1
  · intro w hSw; (try dsimp only at hSw); go_simp; (try with_reducible rfl)
  try simp only [Act.put, List.setIfInBounds_toArray, List.set_cons_zero, List.set_cons_succ]
  refine takeJ hfnR (by kernel_rfl) 14 (v := ?_) rfl (by kernel_rfl) (fun _ _ _ h => h) (by kernel_rfl) hCells (Or.inl ⟨by rfl, ?_⟩) ?_
  rotate_left 1
  · intro w hSw; (try dsimp only at hSw); go_simp; (try with_reducible rfl)
  try simp only [Act.put, List.setIfInBounds_toArray, List.set_cons_zero, List.set_cons_succ]
  have TA := Lib.hid (times_n (H.out.1.below HW1.out (Nat.le_refl _)) (H.out.2.2.2.1.below HW1.out (Nat.le_refl _)) (by omega) (by omega))
  refine oneJ 4 (by kernel_rfl) rfl (fun K hK => ?_)
  go_simp
  refine ⟨rfl, ?_⟩
  (refine (callsIn_wide.2 TA.out).mono ?_; rintro e w2 ⟨A5, l5, c5, rfl, h5, b5, hb2⟩)
  refine hK.out _ _ (holdJ ?_ (fun hCells => ?_))
  · clear hK; (try dsimp only); (exact ⟨⟨pc hb2 hCells.1.1, pc hb2 hCells.1.2⟩, ⟨pc hb2 hCells.2.1, pc hb2 hCells.2.2⟩⟩)
  clear hK K
  try simp only [Act.put, List.setIfInBounds_toArray, List.set_cons_zero, List.set_cons_succ]
  have HB2 : Hid (Below w.heap.size w w2) := Lib.hid (HW1.out.trans (hb2.mono HW1.out.size))
  have TB := Lib.hid (times_n (H.out.2.2.1.below HB2.out (Nat.le_refl _)) (H.out.2.1.below HB2.out (Nat.le_refl _)) (by omega) (by omega))
  refine oneJ 9 (by kernel_rfl) rfl (fun K hK => ?_)
  go_simp
  refine ⟨rfl, ?_⟩
  (refine (callsIn_wide.2 TB.out).mono ?_; rintro e w3 ⟨A6, l6, c6, rfl, h6, b6, hb3⟩)
  refine hK.out _ _ (holdJ ?_ (fun hCells => ?_))
  · clear hK; (try dsimp only); (exact ⟨⟨pc hb3 hCells.1.1, pc hb3 hCells.1.2⟩, ⟨pc hb3 hCells.2.1, pc hb3 hCells.2.2⟩⟩)
  clear hK K
  try simp only [Act.put, List.setIfInBounds_toArray, List.set_cons_zero, List.set_cons_succ]
  have HB3 : Hid (Below w.heap.size w w3) := Lib.hid (HB2.out.trans (hb3.mono HB2.out.size))
  have TC := Lib.hid (plus_n (h5.below hb3 (Nat.le_refl _)) h6 (by omega) (by omega))
  refine oneJ 10 (by kernel_rfl) rfl (fun K hK => ?_)
  go_simp
  refine ⟨rfl, ?_⟩
  (refine (callsIn_wide.2 TC.out).mono ?_; rintro e w4 ⟨A7, l7, c7, rfl, h7, b7, hb4⟩)
  refine hK.out _ _ (holdJ ?_ (fun hCells => ?_))
  · clear hK; (try dsimp only); (exact ⟨⟨pc hb4 hCells.1.1, pc hb4 hCells.1.2⟩, ⟨pc hb4 hCells.2.1, pc hb4 hCells.2.2⟩⟩)
  clear hK K
  try simp only [Act.put, List.setIfInBounds_toArray, List.set_cons_zero, List.set_cons_succ]
  have HB4 : Hid (Below w.heap.size w w4) := Lib.hid (HB3.out.trans (hb4.mono HB3.out.size))
  have TD := Lib.hid (times_n (H.out.2.1.below HB4.out (Nat.le_refl _)) (H.out.2.2.2.1.below HB4.out (Nat.le_refl _)) (by omega) (by omega))
  refine oneJ 15 (by kernel_rfl) rfl (fun K hK => ?_)
  go_simp
  refine ⟨rfl, ?_⟩
  (refine (callsIn_wide.2 TD.out).mono ?_; rintro e w5 ⟨A8, l8, c8, rfl, h8, b8, hb5⟩)
  refine hK.out _ _ (holdJ ?_ (fun hCells => ?_))
  · clear hK; (try dsimp only); (exact ⟨⟨pc hb5 hCells.1.1, pc hb5 hCells.1.2⟩, ⟨pc hb5 hCells.2.1, pc hb5 hCells.2.2⟩⟩)
  clear hK K
  try simp only [Act.put, List.setIfInBounds_toArray, List.set_cons_zero, List.set_cons_succ]
  have HB5 : Hid (Below w.heap.size w w5) := Lib.hid (HB4.out.trans (hb5.mono HB4.out.size))
  have TP := Lib.hid (part_n (h7.below hb5 (Nat.le_refl _)) h8 (by omega) (by omega) H.out.2.2.2.2.2 (H.out.2.2.2.2.1.below HB5.out (Nat.le_refl _)))
  rw [← HP.out] at TP
  have hR5 := (((hR1.drew.pass hb2).pass hb3).pass hb4).pass hb5
  clear h5 h6 h7 h8 hb2 hb3 hb4 hb5 hR1
  refine takeJ hfnR (by kernel_rfl) 16 (v := ?_) rfl (by kernel_rfl) (fun _ _ _ h => h) (by kernel_rfl) hCells (Or.inl ⟨by rfl, ?_⟩) ?_
  rotate_left 1
  · intro w hSw; (try dsimp only at hSw); go_simp; (try with_reducible rfl)
  try simp only [Act.put, List.setIfInBounds_toArray, List.set_cons_zero, List.set_cons_succ]
  refine oneJ 17 (by kernel_rfl) rfl (fun K hK => ?_)
  go_simp
  refine ⟨rfl, ?_⟩
  (refine (callsIn_wide.2 TP.out).mono ?_; rintro e w6 ⟨he, hb6⟩; simp only [pv] at he; subst he)
  refine hK.out _ _ (holdJ ?_ (fun hCells => ?_))
  · clear hK; (try dsimp only); (exact ⟨⟨pc hb6 hCells.1.1, pc hb6 hCells.1.2⟩, ⟨pc hb6 hCells.2.1, pc hb6 hCells.2.2⟩⟩)
  clear hK K
  try simp only [Act.put, List.setIfInBounds_toArray, List.set_cons_zero, List.set_cons_succ]
  have HB6 : Hid (Below w.heap.size w w6) := Lib.hid (HB5.out.trans (hb6.mono HB5.out.size))
  have hR6 := hR5.pass hb6
  obtain ⟨⟨r0, r1⟩, f0, f1⟩ := hR6.two
  clear hb6 hR5
  refine takeJ hfnR (by kernel_rfl) 18 (v := ?_) rfl (by kernel_rfl) (fun _ _ _ h => h) (by kernel_rfl) hCells (Or.inl ⟨by rfl, ?_⟩) ?_
  rotate_left 1
  · intro w hSw; (try dsimp only at hSw); go_simp; (try with_reducible rfl)
  try simp only [Act.put, List.setIfInBounds_toArray, List.set_cons_zero, List.set_cons_succ]
  refine takeJ hfnR (by kernel_rfl) 19 (v := ?_) rfl (by kernel_rfl) (fun _ _ _ h => h) (by kernel_rfl) hCells (Or.inl ⟨by rfl, ?_⟩) ?_
  rotate_left 1
  · intro w hSw; (try dsimp only at hSw); go_simp; (try with_reducible rfl)
  try simp only [Act.put, List.setIfInBounds_toArray, List.set_cons_zero, List.set_cons_succ]
  refine oneJ 20 (by kernel_rfl) rfl (fun K hK => ?_)
  go_simp
  refine hK.out _ _ (holdJ ?_ (fun hCells => ?_))
  · clear hK; (try dsimp only); (exact ⟨⟨far2 hCells.1.1 (by omega), far2 hCells.1.2 (by omega)⟩, ⟨far2 hCells.2.1 (by omega), far2 hCells.2.2 (by omega)⟩⟩)
  clear hK K
  try simp only [Act.put, List.setIfInBounds_toArray, List.set_cons_zero, List.set_cons_succ]
  refine takeJ hfnR (by kernel_rfl) 21 (v := ?_) rfl (by kernel_rfl) (fun _ _ _ h => h) (by kernel_rfl) hCells (Or.inl ⟨by rfl, ?_⟩) ?_
  rotate_left 1
  · intro w hSw; (try dsimp only at hSw); go_simp; (try with_reducible rfl)
  try simp only [Act.put, List.setIfInBounds_toArray, List.set_cons_zero, List.set_cons_succ]
  refine wpAnyJ_done (by kernel_rfl) (NoPan.normal ?_) _
  go_wp2
  refine bodyPost_ret (results_ct (g := w.heap.size + 1 + 1) rfl rfl ((hR6.set 0 _).set 1 _) Tryz.underlying46 rfl (by kernel_rfl)) rfl ?_
  exact ⟨by simp [pv], (HB6.out.setCell (by simp; omega) _).setCell (by simp; omega) _⟩
set_option maxRecDepth 100000 in
set_option maxHeartbeats 1000000 in
theorem div1_any (n1 d1 n2 d2 : Nat) (v1 v2 v3 v4 : Value) (w : World) (h1 : NumV w v1 n1) (h2 : NumV w v2 d1) (h3 : NumV w v3 n2) (h4 : NumV w v4 d2)
    (b1 : (limbs B9 n1).length ≤ 67) (b2 : (limbs B9 d1).length ≤ 67) (b3 : (limbs B9 n2).length ≤ 67) (b4 : (limbs B9 d2).length ≤ 67) (hd1 : 0 < d1) (hd2 : 0 < d2) (hT : TabW w) :
    Calls Tryz.prog 129 #[.agg #[v1, v2], .agg #[v3, v4]] w (PartPost (if n2 = 0 then (⟨#[]⟩, ⟨#[]⟩, 10) else partS (n1 * d2) (d1 * n2)) w) := by
  obtain ⟨A1, l1, c1, rfl, h1⟩ := h1
  obtain ⟨A2, l2, c2, rfl, h2⟩ := h2
  obtain ⟨A3, l3, c3, rfl, h3⟩ := h3
  obtain ⟨A4, l4, c4, rfl, h4⟩ := h4
  rw [← h1.1] at b1; rw [← h2.1] at b2; rw [← h3.1] at b3; rw [← h4.1] at b4
  obtain ⟨hA1, hB1, hR1, hW1⟩ := three_new w #[.slice A1 l1 c1, .slice A2 l2 c2] #[.slice A3 l3 c3, .slice A4 l4 c4] #[.string ⟨#[]⟩, .string ⟨#[]⟩] 95 95 46
  have HW1 := Lib.hid hW1
  have H := Lib.hid (And.intro h1 (And.intro h2 (And.intro h3 (And.intro h4 (And.intro hT hd1)))))
  by_cases hz : n2 = 0
  · have hl : ((l3 : Int) == 0) = true := by
      have : l3 = 0 := by rw [h3.1, hz]; rfl
      simp [this]
    rw [if_pos hz]
    clear h1 h2 h3 h4 hT hW1 hd1 hd2 hz
    obtain ⟨⟨x0, x1⟩, _, _⟩ := hA1.two
    obtain ⟨⟨y0, y1⟩, _, _⟩ := hB1.two
    obtain ⟨⟨r0, r1⟩, f0, f1⟩ := hR1.two
    go_enter Tryz.func129, Tryz.ntmps129
    go_wp2_with fail
    refine bodyPost_ret (results_ct (g := w.heap.size + 1 + 1) rfl rfl hR1 Tryz.underlying46 rfl (by kernel_rfl)) rfl ?_
    exact ⟨by simp [pv], HW1.out⟩
  · have hl : ((l3 : Int) == 0) = false := by
      have : 0 < l3 := by rw [h3.1]; exact (limbs_length_pos B9_two).2 (by omega)
      exact beq_eq_false_iff_ne.2 (by omega)
    rw [if_neg hz]
    obtain ⟨p, hp⟩ : ∃ p, p = partS (n1 * d2) (d1 * n2) := ⟨_, rfl⟩
    rw [← hp]
    have HP := Lib.hid hp
    have HZ := Lib.hid (And.intro hz (Nat.mul_pos hd1 (Nat.pos_of_ne_zero hz)))
    obtain ⟨p1, p2, p3⟩ := p
    clear h1 h2 h3 h4 hT hW1 hd1 hd2 hz hp
    go_enter Tryz.func129, Tryz.ntmps129
    go_wp2_with fail
    have hm : Tryz.prog.follows .mixedOrders = true := by kernel_rfl
    have hfnR : ∀ f, Fence.wide.fn f := fun _ => trivial
    have HW2 := Lib.hid HW1.out.drew
    refine wp_region_J (fun W => (W.cell? ⟨w.heap.size, 0, none⟩ = some (.slice A1 l1 c1) ∧ W.cell? ⟨w.heap.size, 1, none⟩ = some (.slice A2 l2 c2)) ∧ (W.cell? ⟨w.heap.size + 1, 0, none⟩ = some (.slice A3 l3 c3) ∧ W.cell? ⟨w.heap.size + 1, 1, none⟩ = some (.slice A4 l4 c4))) [] hm ?hCells0 (fun hCells => ?_)
    case hCells0 => exact ⟨hA1.drew.two.1, hB1.drew.two.1⟩
    refine takeJ hfnR (by kernel_rfl) 0 (v := ?_) rfl (by kernel_rfl) (fun _ _ _ h => h) (by kernel_rfl) hCells (Or.inl ⟨by rfl, ?_⟩) ?_
    rotate_left 1
    · intro w hSw; (try dsimp only at hSw); go_simp; (try with_reducible rfl)
    try simp only [Act.put, List.setIfInBounds_toArray, List.set_cons_zero, List.set_cons_succ]
    refine takeJ hfnR (by kernel_rfl) 1 (v := ?_) rfl (by kernel_rfl) (fun _ _ _ h => h) (by kernel_rfl) hCells (Or.inl ⟨by rfl, ?_⟩) ?_
    rotate_left 1
    · intro w hSw; (try dsimp only at hSw); go_simp; (try with_reducible rfl)
    try simp only [Act.put, List.setIfInBounds_toArray, List.set_cons_zero, List.set_cons_succ]
    refine takeJ hfnR (by kernel_rfl) 2 (v := ?_) rfl (by kernel_rfl) (fun _ _ _ h => h) (by kernel_rfl) hCells (Or.inl ⟨by rfl, ?_⟩) ?_
    rotate_left 1
    · intro w hSw; (try dsimp only at hSw); go_simp; (try with_reducible rfl)
    try simp only [Act.put, List.setIfInBounds_toArray, List.set_cons_zero, List.set_cons_succ]
    refine takeJ hfnR (by kernel_rfl) 3 (v := ?_) rfl (by kernel_rfl) (fun _ _ _ h => h) (by kernel_rfl) hCells (Or.inl ⟨by rfl, ?_⟩) ?_
    rotate_left 1
    · intro w hSw; (try dsimp only at hSw); go_simp; (try with_reducible rfl)
    try simp only [Act.put, List.setIfInBounds_toArray, List.set_cons_zero, List.set_cons_succ]
    refine takeJ hfnR (by kernel_rfl) 5 (v := ?_) rfl (by kernel_rfl) (fun _ _ _ h => h) (by kernel_rfl) hCells (Or.inl ⟨by rfl, ?_⟩) ?_
    rotate_left 1
    · intro w hSw; (try dsimp only at hSw); go_simp; (try with_reducible rfl)
    try simp only [Act.put, List.setIfInBounds_toArray, List.set_cons_zero, List.set_cons_succ]
    refine takeJ hfnR (by kernel_rfl) 6 (v := ?_) rfl (by kernel_rfl) (fun _ _ _ h => h) (by kernel_rfl) hCells (Or.inl ⟨by rfl, ?_⟩) ?_
    rotate_left 1
    · intro w hSw; (try dsimp only at hSw); go_simp; (try with_reducible rfl)
    try simp only [Act.put, List.setIfInBounds_toArray, List.set_cons_zero, List.set_cons_succ]
    refine takeJ hfnR (by kernel_rfl) 7 (v := ?_) rfl (by kernel_rfl) (fun _ _ _ h => h) (by kernel_rfl) hCells (Or.inl ⟨by rfl, ?_⟩) ?_
    rotate_left 1
    · intro w hSw; (try dsimp only at hSw); go_simp; (try with_reducible rfl)
    try simp only [Act.put, List.setIfInBounds_toArray, List.set_cons_zero, List.set_cons_succ]
    refine takeJ hfnR (by kernel_rfl) 8 (v := ?_) rfl (by kernel_rfl) (fun _ _ _ h => h) (by kernel_rfl) hCells (Or.inl ⟨by rfl, ?_⟩) ?_
    rotate_left 1
    · intro w hSw; (try dsimp only at hSw); go_simp; (try with_reducible rfl)
    try simp only [Act.put, List.setIfInBounds_toArray, List.set_cons_zero, List.set_cons_succ]
    have TA := Lib.hid (times_n (H.out.1.below HW2.out (Nat.le_refl _)) (H.out.2.2.2.1.below HW2.out (Nat.le_refl _)) (by omega) (by omega))
    refine oneJ 4 (by kernel_rfl) rfl (fun K hK => ?_)
    go_simp
    refine ⟨rfl, ?_⟩
    (refine (callsIn_wide.2 TA.out).mono ?_; rintro e w2 ⟨A5, l5, c5, rfl, h5, b5, hb2⟩)
    refine hK.out _ _ (holdJ ?_ (fun hCells => ?_))
    · clear hK; (try dsimp only); (exact ⟨⟨pc hb2 hCells.1.1, pc hb2 hCells.1.2⟩, ⟨pc hb2 hCells.2.1, pc hb2 hCells.2.2⟩⟩)
    clear hK K
    try simp only [Act.put, List.setIfInBounds_toArray, List.set_cons_zero, List.set_cons_succ]
    have HB2 : Hid (Below w.heap.size w w2) := Lib.hid (HW2.out.trans (hb2.mono HW2.out.size))
    have TB := Lib.hid (times_n (H.out.2.1.below HB2.out (Nat.le_refl _)) (H.out.2.2.1.below HB2.out (Nat.le_refl _)) (by omega) (by omega))
    refine oneJ 9 (by kernel_rfl) rfl (fun K hK => ?_)
    go_simp
    refine ⟨rfl, ?_⟩
    (refine (callsIn_wide.2 TB.out).mono ?_; rintro e w3 ⟨A6, l6, c6, rfl, h6, b6, hb3⟩)
    refine hK.out _ _ (holdJ ?_ (fun hCells => ?_))
    · clear hK; (try dsimp only); (exact ⟨⟨pc hb3 hCells.1.1, pc hb3 hCells.1.2⟩, ⟨pc hb3 hCells.2.1, pc hb3 hCells.2.2⟩⟩)
    clear hK K
    try simp only [Act.put, List.setIfInBounds_toArray, List.set_cons_zero, List.set_cons_succ]
    have HB3 : Hid (Below w.heap.size w w3) := Lib.hid (HB2.out.trans (hb3.mono HB2.out.size))
    have TP := Lib.hid (part_n (h5.below hb3 (Nat.le_refl _)) h6 (by omega) (by omega) HZ.out.2 (H.out.2.2.2.2.1.below HB3.out (Nat.le_refl _)))
    rw [← HP.out] at TP
    have hR3 := (hR1.drew.pass hb2).pass hb3
    clear h5 h6 hb2 hR1
    refine takeJ hfnR (by kernel_rfl) 10 (v := ?_) rfl (by kernel_rfl) (fun _ _ _ h => h) (by kernel_rfl) hCells (Or.inl ⟨by rfl, ?_⟩) ?_
    rotate_left 1
    · intro w hSw; (try dsimp only at hSw); go_simp; (try with_reducible rfl)
    try simp only [Act.put, List.setIfInBounds_toArray, List.set_cons_zero, List.set_cons_succ]
    refine oneJ 11 (by kernel_rfl) rfl (fun K hK => ?_)
    go_simp
    refine ⟨rfl, ?_⟩
    (refine (callsIn_wide.2 TP.out).mono ?_; rintro e w4 ⟨he, hb4⟩; simp only [pv] at he; subst he)
    refine hK.out _ _ (holdJ ?_ (fun hCells => ?_))
    · clear hK; (try dsimp only); (exact ⟨⟨pc hb4 hCells.1.1, pc hb4 hCells.1.2⟩, ⟨pc hb4 hCells.2.1, pc hb4 hCells.2.2⟩⟩)
    clear hK K
    try simp only [Act.put, List.setIfInBounds_toArray, List.set_cons_zero, List.set_cons_succ]
    have HB4 : Hid (Below w.heap.size w w4) := Lib.hid (HB3.out.trans (hb4.mono HB3.out.size))
    have hR4 := hR3.pass hb4
    obtain ⟨⟨r0, r1⟩, f0, f1⟩ := hR4.two
    clear hb4 hR3 hb3
    refine takeJ hfnR (by kernel_rfl) 12 (v := ?_) rfl (by kernel_rfl) (fun _ _ _ h => h) (by kernel_rfl) hCells (Or.inl ⟨by rfl, ?_⟩) ?_
    rotate_left 1
    · intro w hSw; (try dsimp only at hSw); go_simp; (try with_reducible rfl)
    try simp only [Act.put, List.setIfInBounds_toArray, List.set_cons_zero, List.set_cons_succ]
    refine takeJ hfnR (by kernel_rfl) 13 (v := ?_) rfl (by kernel_rfl) (fun _ _ _ h => h) (by kernel_rfl) hCells (Or.inl ⟨by rfl, ?_⟩) ?_
    rotate_left 1
    · intro w hSw; (try dsimp only at hSw); go_simp; (try with_reducible rfl)
    try simp only [Act.put, List.setIfInBounds_toArray, List.set_cons_zero, List.set_cons_succ]
    refine oneJ 14 (by kernel_rfl) rfl (fun K hK => ?_)
    go_simp
    refine hK.out _ _ (holdJ ?_ (fun hCells => ?_))
    · clear hK; (try dsimp only); (exact ⟨⟨far2 hCells.1.1 (by omega), far2 hCells.1.2 (by omega)⟩, ⟨far2 hCells.2.1 (by omega), far2 hCells.2.2 (by omega)⟩⟩)
    clear hK K
    try simp only [Act.put, List.setIfInBounds_toArray, List.set_cons_zero, List.set_cons_succ]
    refine takeJ hfnR (by kernel_rfl) 15 (v := ?_) rfl (by kernel_rfl) (fun _ _ _ h => h) (by kernel_rfl) hCells (Or.inl ⟨by rfl, ?_⟩) ?_
    rotate_left 1
    · intro w hSw; (try dsimp only at hSw); go_simp; (try with_reducible rfl)
    try simp only [Act.put, List.setIfInBounds_toArray, List.set_cons_zero, List.set_cons_succ]
    refine wpAnyJ_done (by kernel_rfl) (NoPan.normal ?_) _
    go_wp2
    refine bodyPost_ret (results_ct (g := w.heap.size + 1 + 1) rfl rfl ((hR4.set 0 _).set 1 _) Tryz.underlying46 rfl (by kernel_rfl)) rfl ?_
    exact ⟨by simp [pv], (HB4.out.setCell (by simp; omega) _).setCell (by simp; omega) _⟩
set_option maxRecDepth 100000 in
set_option maxHeartbeats 1000000 in
theorem sub1_any (n1 d1 n2 d2 : Nat) (v1 v2 v3 v4 : Value) (w : World) (h1 : NumV w v1 n1) (h2 : NumV w v2 d1) (h3 : NumV w v3 n2) (h4 : NumV w v4 d2)
    (b1 : (limbs B9 n1).length ≤ 67) (b2 : (limbs B9 d1).length ≤ 67) (b3 : (limbs B9 n2).length ≤ 67) (b4 : (limbs B9 d2).length ≤ 67) (hd1 : 0 < d1) (hd2 : 0 < d2) (hT : TabW w) :
    Calls Tryz.prog 90 #[.agg #[v1, v2], .agg #[v3, v4]] w (PartPost (if n1 * d2 < n2 * d1 then (⟨#[]⟩, ⟨#[]⟩, 11) else partS (n1 * d2 - n2 * d1) (d1 * d2)) w) := by
  obtain ⟨A1, l1, c1, rfl, h1⟩ := h1
  obtain ⟨A2, l2, c2, rfl, h2⟩ := h2
  obtain ⟨A3, l3, c3, rfl, h3⟩ := h3
  obtain ⟨A4, l4, c4, rfl, h4⟩ := h4
  rw [← h1.1] at b1; rw [← h2.1] at b2; rw [← h3.1] at b3; rw [← h4.1] at b4
  obtain ⟨hA1, hB1, hR1, hW1⟩ := three_new w #[.slice A1 l1 c1, .slice A2 l2 c2] #[.slice A3 l3 c3, .slice A4 l4 c4] #[.string ⟨#[]⟩, .string ⟨#[]⟩] 95 95 46
  have HW1 := Lib.hid hW1
  have H := Lib.hid (And.intro h1 (And.intro h2 (And.intro h3 (And.intro h4 (And.intro hT (Nat.mul_pos hd1 hd2))))))
  obtain ⟨p, hp⟩ : ∃ p, p = (if n1 * d2 < n2 * d1 then ((⟨#[]⟩, ⟨#[]⟩, 11) : ByteArray × ByteArray × Int) else partS (n1 * d2 - n2 * d1) (d1 * d2)) := ⟨_, rfl⟩
  rw [← hp]
  have HP := Lib.hid hp
  obtain ⟨p1, p2, p3⟩ := p
  clear h1 h2 h3 h4 hT hW1 hd1 hd2 hp
  go_enter Tryz.func90, Tryz.ntmps90
  go_wp2_with fail
  have hm : Tryz.prog.follows .mixedOrders = true := by kernel_rfl
  have hfnR : ∀ f, Fence.wide.fn f := fun _ => trivial
  have HW2 := Lib.hid HW1.out.drew
  refine wp_region_J (fun W => (W.cell? ⟨w.heap.size, 0, none⟩ = some (.slice A1 l1 c1) ∧ W.cell? ⟨w.heap.size, 1, none⟩ = some (.slice A2 l2 c2)) ∧ (W.cell? ⟨w.heap.size + 1, 0, none⟩ = some (.slice A3 l3 c3) ∧ W.cell? ⟨w.heap.size + 1, 1, none⟩ = some (.slice A4 l4 c4))) [] hm ?hCells0 (fun hCells => ?_)
  case hCells0 => exact ⟨hA1.drew.two.1, hB1.drew.two.1⟩
  refine takeJ hfnR (by kernel_rfl) 0 (v := ?_) rfl (by kernel_rfl) (fun _ _ _ h => h) (by kernel_rfl) hCells (Or.inl ⟨by rfl, ?_⟩) ?_
  rotate_left 1
  · intro w hSw; (try dsimp only at hSw); go_simp; (try with_reducible rfl)
  try simp only [Act.put, List.setIfInBounds_toArray, List.set_cons_zero, List.set_cons_succ]
  refine takeJ hfnR (by kernel_rfl) 1 (v := ?_) rfl (by kernel_rfl) (fun _ _ _ h => h) (by kernel_rfl) hCells (Or.inl ⟨by rfl, ?_⟩) ?_
  rotate_left 1
  · intro w hSw; (try dsimp only at hSw); go_simp; (try with_reducible rfl)
  try simp only [Act.put, List.setIfInBounds_toArray, List.set_cons_zero, List.set_cons_succ]
  refine takeJ hfnR (by kernel_rfl) 2 (v := ?_) rfl (by kernel_rfl) (fun _ _ _ h => h) (by kernel_rfl) hCells (Or.inl ⟨by rfl, ?_⟩) ?_
  rotate_left 1
  · intro w hSw; (try dsimp only at hSw); go_simp; (try with_reducible rfl)
  try simp only [Act.put, List.setIfInBounds_toArray, List.set_cons_zero, List.set_cons_succ]
  refine takeJ hfnR (by kernel_rfl) 3 (v := ?_) rfl (by kernel_rfl) (fun _ _ _ h => h) (by kernel_rfl) hCells (Or.inl ⟨by rfl, ?_⟩) ?_
  rotate_left 1
  · intro w hSw; (try dsimp only at hSw); go_simp; (try with_reducible rfl)
  try simp only [Act.put, List.setIfInBounds_toArray, List.set_cons_zero, List.set_cons_succ]
  refine takeJ hfnR (by kernel_rfl) 5 (v := ?_) rfl (by kernel_rfl) (fun _ _ _ h => h) (by kernel_rfl) hCells (Or.inl ⟨by rfl, ?_⟩) ?_
  rotate_left 1
  · intro w hSw; (try dsimp only at hSw); go_simp; (try with_reducible rfl)
  try simp only [Act.put, List.setIfInBounds_toArray, List.set_cons_zero, List.set_cons_succ]
  refine takeJ hfnR (by kernel_rfl) 6 (v := ?_) rfl (by kernel_rfl) (fun _ _ _ h => h) (by kernel_rfl) hCells (Or.inl ⟨by rfl, ?_⟩) ?_
  rotate_left 1
  · intro w hSw; (try dsimp only at hSw); go_simp; (try with_reducible rfl)
  try simp only [Act.put, List.setIfInBounds_toArray, List.set_cons_zero, List.set_cons_succ]
  refine takeJ hfnR (by kernel_rfl) 7 (v := ?_) rfl (by kernel_rfl) (fun _ _ _ h => h) (by kernel_rfl) hCells (Or.inl ⟨by rfl, ?_⟩) ?_
  rotate_left 1
  · intro w hSw; (try dsimp only at hSw); go_simp; (try with_reducible rfl)
  try simp only [Act.put, List.setIfInBounds_toArray, List.set_cons_zero, List.set_cons_succ]
  refine takeJ hfnR (by kernel_rfl) 8 (v := ?_) rfl (by kernel_rfl) (fun _ _ _ h => h) (by kernel_rfl) hCells (Or.inl ⟨by rfl, ?_⟩) ?_
  rotate_left 1
  · intro w hSw; (try dsimp only at hSw); go_simp; (try with_reducible rfl)
  try simp only [Act.put, List.setIfInBounds_toArray, List.set_cons_zero, List.set_cons_succ]
  have TA := Lib.hid (times_n (H.out.1.below HW2.out (Nat.le_refl _)) (H.out.2.2.2.1.below HW2.out (Nat.le_refl _)) (by omega) (by omega))
  refine oneJ 4 (by kernel_rfl) rfl (fun K hK => ?_)
  go_simp
  refine ⟨rfl, ?_⟩
  (refine (callsIn_wide.2 TA.out).mono ?_; rintro e w2 ⟨A5, l5, c5, rfl, h5, b5, hb2⟩)
  refine hK.out _ _ (holdJ ?_ (fun hCells => ?_))
  · clear hK; (try dsimp only); (exact ⟨⟨pc hb2 hCells.1.1, pc hb2 hCells.1.2⟩, ⟨pc hb2 hCells.2.1, pc hb2 hCells.2.2⟩⟩)
  clear hK K
  try simp only [Act.put, List.setIfInBounds_toArray, List.set_cons_zero, List.set_cons_succ]
  have HB2 : Hid (Below w.heap.size w w2) := Lib.hid (HW2.out.trans (hb2.mono HW2.out.size))
  have TB := Lib.hid (times_n (H.out.2.2.1.below HB2.out (Nat.le_refl _)) (H.out.2.1.below HB2.out (Nat.le_refl _)) (by omega) (by omega))
  refine oneJ 9 (by kernel_rfl) rfl (fun K hK => ?_)
  go_simp
  refine ⟨rfl, ?_⟩
  (refine (callsIn_wide.2 TB.out).mono ?_; rintro e w3 ⟨A6, l6, c6, rfl, h6, b6, hb3⟩)
  refine hK.out _ _ (holdJ ?_ (fun hCells => ?_))
  · clear hK; (try dsimp only); (exact ⟨⟨pc hb3 hCells.1.1, pc hb3 hCells.1.2⟩, ⟨pc hb3 hCells.2.1, pc hb3 hCells.2.2⟩⟩)
  clear hK K
  try simp only [Act.put, List.setIfInBounds_toArray, List.set_cons_zero, List.set_cons_succ]
  have HB3 : Hid (Below w.heap.size w w3) := Lib.hid (HB2.out.trans (hb3.mono HB2.out.size))
  have H56 := Lib.hid (And.intro (h5.below hb3 (Nat.le_refl _)) h6)
  have hA3 := (hA1.drew.pass hb2).pass hb3
  have hB3 := (hB1.drew.pass hb2).pass hb3
  have hR3 := (hR1.drew.pass hb2).pass hb3
  clear h5 h6 hb2 hb3 hR1 hA1 hB1
  refine takeJ hfnR (by kernel_rfl) 10 (v := ?_) rfl (by kernel_rfl) (fun _ _ _ h => h) (by kernel_rfl) hCells (Or.inl ⟨by rfl, ?_⟩) ?_
  rotate_left 1
  · intro w hSw; (try dsimp only at hSw); go_simp; (try with_reducible rfl)
  try simp only [Act.put, List.setIfInBounds_toArray, List.set_cons_zero, List.set_cons_succ]
  refine takeJ hfnR (by kernel_rfl) 11 (v := ?_) rfl (by kernel_rfl) (fun _ _ _ h => h) (by kernel_rfl) hCells (Or.inl ⟨by rfl, ?_⟩) ?_
  rotate_left 1
  · intro w hSw; (try dsimp only at hSw); go_simp; (try with_reducible rfl)
  try simp only [Act.put, List.setIfInBounds_toArray, List.set_cons_zero, List.set_cons_succ]
  refine wpAnyJ_done (by kernel_rfl) (NoPan.normal ?_) _
  have TC := Lib.hid (cmp_any _ _ _ _ l5 l6 c5 c6 w3 H56.out.1 H56.out.2 (by omega) (by omega))
  clear hCells
  go_wp2_with fail
  refine TC.out.mono ?_
  clear TC
  rintro e w4 ⟨r, rfl, _, _, hr1, _, hb4⟩
  have HB4 : Hid (Below w.heap.size w w4) := Lib.hid (HB3.out.trans (hb4.mono HB3.out.size))
  have hA4 := hA3.pass hb4
  have hB4 := hB3.pass hb4
  have hR4 := hR3.pass hb4
  have H564 := Lib.hid (And.intro (H56.out.1.below hb4 (Nat.le_refl _)) (H56.out.2.below hb4 (Nat.le_refl _)))
  clear hA3 hB3 hR3 hb4 H56
  by_cases hlt : n1 * d2 < n2 * d1
  · have hr : r < 0 := hr1.2 hlt
    have HL := Lib.hid hlt
    obtain ⟨⟨r0, r1⟩, f0, f1⟩ := hR4.two
    clear hr1 hlt
    go_wp2_with fail
    refine bodyPost_ret (results_ct (g := w.heap.size + 1 + 1) rfl rfl ((hR4.set 0 _).set 1 _) Tryz.underlying46 rfl (by kernel_rfl)) rfl ?_
    exact ⟨by have := HP.out; rw [if_pos HL.out] at this; simp only [Prod.mk.injEq] at this; obtain ⟨rfl, rfl, rfl⟩ := this; simp [pv], (HB4.out.setCell (by simp; omega) _).setCell (by simp; omega) _⟩
  · have hr : ¬ r < 0 := fun h => hlt (hr1.1 h)
    have HL := Lib.hid hlt
    clear hr1 hlt
    go_wp2_with fail
    have HW5 := Lib.hid HB4.out.drew
    refine wp_region_J (fun W => (W.cell? ⟨w.heap.size, 0, none⟩ = some (.slice A1 l1 c1) ∧ W.cell? ⟨w.heap.size, 1, none⟩ = some (.slice A2 l2 c2)) ∧ (W.cell? ⟨w.heap.size + 1, 0, none⟩ = some (.slice A3 l3 c3) ∧ W.cell? ⟨w.heap.size + 1, 1, none⟩ = some (.slice A4 l4 c4))) [] hm ?hCells0 (fun hCells => ?_)
    case hCells0 => exact ⟨hA4.drew.two.1, hB4.drew.two.1⟩
    refine takeJ hfnR (by kernel_rfl) 0 (v := ?_) rfl (by kernel_rfl) (fun _ _ _ h => h) (by kernel_rfl) hCells (Or.inl ⟨by rfl, ?_⟩) ?_
    rotate_left 1
    · intro w hSw; (try dsimp only at hSw); go_simp; (try with_reducible rfl)
    try simp only [Act.put, List.setIfInBounds_toArray, List.set_cons_zero, List.set_cons_succ]
    refine takeJ hfnR (by kernel_rfl) 1 (v := ?_) rfl (by kernel_rfl) (fun _ _ _ h => h) (by kernel_rfl) hCells (Or.inl ⟨by rfl, ?_⟩) ?_
    rotate_left 1
    · intro w hSw; (try dsimp only at hSw); go_simp; (try with_reducible rfl)
    try simp only [Act.put, List.setIfInBounds_toArray, List.set_cons_zero, List.set_cons_succ]
    refine takeJ hfnR (by kernel_rfl) 3 (v := ?_) rfl (by kernel_rfl) (fun _ _ _ h => h) (by kernel_rfl) hCells (Or.inl ⟨by rfl, ?_⟩) ?_
    rotate_left 1
    · intro w hSw; (try dsimp only at hSw); go_simp; (try with_reducible rfl)
    try simp only [Act.put, List.setIfInBounds_toArray, List.set_cons_zero, List.set_cons_succ]
    refine takeJ hfnR (by kernel_rfl) 4 (v := ?_) rfl (by kernel_rfl) (fun _ _ _ h => h) (by kernel_rfl) hCells (Or.inl ⟨by rfl, ?_⟩) ?_
    rotate_left 1
    · intro w hSw; (try dsimp only at hSw); go_simp; (try with_reducible rfl)
    try simp only [Act.put, List.setIfInBounds_toArray, List.set_cons_zero, List.set_cons_succ]
    refine takeJ hfnR (by kernel_rfl) 5 (v := ?_) rfl (by kernel_rfl) (fun _ _ _ h => h) (by kernel_rfl) hCells (Or.inl ⟨by rfl, ?_⟩) ?_
    rotate_left 1
    · intro w hSw; (try dsimp only at hSw); go_simp; (try with_reducible rfl)
    try simp only [Act.put, List.setIfInBounds_toArray, List.set_cons_zero, List.set_cons_succ]
    refine takeJ hfnR (by kernel_rfl) 6 (v := ?_) rfl (by kernel_rfl) (fun _ _ _ h => h) (by kernel_rfl) hCells (Or.inl ⟨by rfl, ?_⟩) ?_
    rotate_left 1
    · intro w hSw; (try dsimp only at hSw); go_simp; (try with_reducible rfl)
    try simp only [Act.put, List.setIfInBounds_toArray, List.set_cons_zero, List.set_cons_succ]
    have TD := Lib.hid (minus_n (w := w4.drew) H564.out.1 H564.out.2 (by omega) (Nat.le_of_not_lt HL.out))
    refine oneJ 2 (by kernel_rfl) rfl (fun K hK => ?_)
    go_simp
    refine ⟨rfl, ?_⟩
    (refine (callsIn_wide.2 TD.out).mono ?_; rintro e w5 ⟨A7, l7, c7, rfl, h7, b7, hb5⟩)
    refine hK.out _ _ (holdJ ?_ (fun hCells => ?_))
    · clear hK; (try dsimp only); (exact ⟨⟨pc hb5 hCells.1.1, pc hb5 hCells.1.2⟩, ⟨pc hb5 hCells.2.1, pc hb5 hCells.2.2⟩⟩)
    clear hK K
    try simp only [Act.put, List.setIfInBounds_toArray, List.set_cons_zero, List.set_cons_succ]
    have HB5 : Hid (Below w.heap.size w w5) := Lib.hid (HW5.out.trans (hb5.mono HW5.out.size))
    have TE := Lib.hid (times_n (H.out.2.1.below HB5.out (Nat.le_refl _)) (H.out.2.2.2.1.below HB5.out (Nat.le_refl _)) (by omega) (by omega))
    refine oneJ 7 (by kernel_rfl) rfl (fun K hK => ?_)
    go_simp
    refine ⟨rfl, ?_⟩
    (refine (callsIn_wide.2 TE.out).mono ?_; rintro e w6 ⟨A8, l8, c8, rfl, h8, b8, hb6⟩)
    refine hK.out _ _ (holdJ ?_ (fun hCells => ?_))
    · clear hK; (try dsimp only); (exact ⟨⟨pc hb6 hCells.1.1, pc hb6 hCells.1.2⟩, ⟨pc hb6 hCells.2.1, pc hb6 hCells.2.2⟩⟩)
    clear hK K
    try simp only [Act.put, List.setIfInBounds_toArray, List.set_cons_zero, List.set_cons_succ]
    have HB6 : Hid (Below w.heap.size w w6) := Lib.hid (HB5.out.trans (hb6.mono HB5.out.size))
    have TP := Lib.hid (part_n (h7.below hb6 (Nat.le_refl _)) h8 (by omega) (by omega) H.out.2.2.2.2.2 (H.out.2.2.2.2.1.below HB6.out (Nat.le_refl _)))
    rw [← HP.out.trans (if_neg HL.out)] at TP
    have hR6 := (hR4.drew.pass hb5).pass hb6
    clear h7 h8 hb5 hR4
    refine takeJ hfnR (by kernel_rfl) 8 (v := ?_) rfl (by kernel_rfl) (fun _ _ _ h => h) (by kernel_rfl) hCells (Or.inl ⟨by rfl, ?_⟩) ?_
    rotate_left 1
    · intro w hSw; (try dsimp only at hSw); go_simp; (try with_reducible rfl)
    try simp only [Act.put, List.setIfInBounds_toArray, List.set_cons_zero, List.set_cons_succ]
    refine oneJ 9 (by kernel_rfl) rfl (fun K hK => ?_)
    go_simp
    refine ⟨rfl, ?_⟩
    (refine (callsIn_wide.2 TP.out).mono ?_; rintro e w7 ⟨he, hb7⟩; simp only [pv] at he; subst he)
    refine hK.out _ _ (holdJ ?_ (fun hCells => ?_))
    · clear hK; (try dsimp only); (exact ⟨⟨pc hb7 hCells.1.1, pc hb7 hCells.1.2⟩, ⟨pc hb7 hCells.2.1, pc hb7 hCells.2.2⟩⟩)
    clear hK K
    try simp only [Act.put, List.setIfInBounds_toArray, List.set_cons_zero, List.set_cons_succ]
    have HB7 : Hid (Below w.heap.size w w7) := Lib.hid (HB6.out.trans (hb7.mono HB6.out.size))
    have hR7 := hR6.pass hb7
    obtain ⟨⟨r0, r1⟩, f0, f1⟩ := hR7.two
    clear hb7 hR6 hb6
    refine takeJ hfnR (by kernel_rfl) 10 (v := ?_) rfl (by kernel_rfl) (fun _ _ _ h => h) (by kernel_rfl) hCells (Or.inl ⟨by rfl, ?_⟩) ?_
    rotate_left 1
    · intro w hSw; (try dsimp only at hSw); go_simp; (try with_reducible rfl)
    try simp only [Act.put, List.setIfInBounds_toArray, List.set_cons_zero, List.set_cons_succ]
    refine takeJ hfnR (by kernel_rfl) 11 (v := ?_) rfl (by kernel_rfl) (fun _ _ _ h => h) (by kernel_rfl) hCells (Or.inl ⟨by rfl, ?_⟩) ?_
    rotate_left 1
    · intro w hSw; (try dsimp only at hSw); go_simp; (try with_reducible rfl)
    try simp only [Act.put, List.setIfInBounds_toArray, List.set_cons_zero, List.set_cons_succ]
    refine oneJ 12 (by kernel_rfl) rfl (fun K hK => ?_)
    go_simp
    refine hK.out _ _ (holdJ ?_ (fun hCells => ?_))
    · clear hK; (try dsimp only); (exact ⟨⟨far2 hCells.1.1 (by omega), far2 hCells.1.2 (by omega)⟩, ⟨far2 hCells.2.1 (by omega), far2 hCells.2.2 (by omega)⟩⟩)
    clear hK K
    try simp only [Act.put, List.setIfInBounds_toArray, List.set_cons_zero, List.set_cons_succ]
    refine takeJ hfnR (by kernel_rfl) 13 (v := ?_) rfl (by kernel_rfl) (fun _ _ _ h => h) (by kernel_rfl) hCells (Or.inl ⟨by rfl, ?_⟩) ?_
    rotate_left 1
    · intro w hSw; (try dsimp only at hSw); go_simp; (try with_reducible rfl)
    try simp only [Act.put, List.setIfInBounds_toArray, List.set_cons_zero, List.set_cons_succ]
    refine wpAnyJ_done (by kernel_rfl) (NoPan.normal ?_) _
    go_wp2
    refine bodyPost_ret (results_ct (g := w.heap.size + 1 + 1) rfl rfl ((hR7.set 0 _).set 1 _) Tryz.underlying46 rfl (by kernel_rfl)) rfl ?_
    exact ⟨by simp [pv], (HB7.out.setCell (by simp; omega) _).setCell (by simp; omega) _⟩
end Go.Proofs.Cr
namespace Go.Proofs.Cr
open Go.RowKit Go.Shelf
attribute [local go_sem] Oper.semAt_some

theorem pos_of_chk {a b : ByteArray} (h : chk a b = true) : 0 < nv b := Nat.pos_of_ne_zero (chk_ok h).2.2.1
def addP (a b c d : ByteArray) : ByteArray × ByteArray × Int := partS (nv a * nv d + nv c * nv b) (nv b * nv d)
def addS (a b c d : ByteArray) : ByteArray × ByteArray × Int := twoS (addP a b c d) a b c d
theorem add_do {a b c d : ByteArray} {w : World} (hT : TabW w) (h1 : chk a b = true) (h2 : chk c d = true) : DoK 63 (addP a b c d) a b c d w :=
  fun W v1 v2 v3 v4 hb n1 n2 n3 n4 => add1_any (nv a) (nv b) (nv c) (nv d) v1 v2 v3 v4 W n1 n2 n3 n4 (limbs_of_right (chk_ok h1).1) (limbs_of_right (chk_ok h1).2.1) (limbs_of_right (chk_ok h2).1) (limbs_of_right (chk_ok h2).2.1) (pos_of_chk h1) (pos_of_chk h2) (hT.below hb (Nat.le_refl _))
set_option maxRecDepth 100000 in
set_option maxHeartbeats 1000000 in
theorem add_any (a b c d : ByteArray) (w : World) (hT : TabW w) :
    Calls Tryz.prog 27 #[.agg #[.string a, .string b], .agg #[.string c, .string d]] w (PartPost (addS a b c d) w) := by
  obtain ⟨hA1, hB1, hR1, hW1⟩ := three_new w #[.string a, .string b] #[.string c, .string d] #[.string ⟨#[]⟩, .string ⟨#[]⟩] 46 46 46
  have TD : Hid (∀ W, TabW W → Calls Tryz.prog 62 #[.agg #[.string a, .string b], .agg #[.string c, .string d], .func (.func 63) #[] #[]] W (PartPost (addS a b c d) W)) := Lib.hid (fun W hW => two_any 63 _ a b c d W (fun _ _ => rfl) (fun e1 e2 => add_do hW e1 e2))
  have HT := Lib.hid hT
  have HW1 := Lib.hid hW1
  generalize addS a b c d = p at TD ⊢
  obtain ⟨p1, p2, p3⟩ := p
  obtain ⟨⟨x0, x1⟩, _, _⟩ := hA1.two
  obtain ⟨⟨y0, y1⟩, _, _⟩ := hB1.two
  clear hW1 hT
  go_enter Tryz.func27, Tryz.ntmps27
  go_wp2_with fail
  refine (TD.out _ (HT.out.below HW1.out (Nat.le_refl _))).mono ?_; rintro e w2 ⟨he, hb2⟩; simp only [pv] at he; subst he
  have hR2 := hR1.pass hb2
  have HB2 := Lib.hid (HW1.out.trans (hb2.mono HW1.out.size))
  clear hb2 hA1 hB1 hR1 x0 x1 y0 y1
  obtain ⟨⟨r0, r1⟩, f0, f1⟩ := hR2.two
  go_wp2_with fail
  refine bodyPost_ret (results_ct (g := w.heap.size + 1 + 1) rfl rfl ((hR2.set 0 _).set 1 _) Tryz.underlying46 rfl (by kernel_rfl)) rfl ?_
  exact ⟨by simp [pv], (HB2.out.setCell (by simp; omega) _).setCell (by simp; omega) _⟩
def mulP (a b c d : ByteArray) : ByteArray × ByteArray × Int := partS (nv a * nv c) (nv b * nv d)
def mulS (a b c d : ByteArray) : ByteArray × ByteArray × Int := twoS (mulP a b c d) a b c d
theorem mul_do {a b c d : ByteArray} {w : World} (hT : TabW w) (h1 : chk a b = true) (h2 : chk c d = true) : DoK 71 (mulP a b c d) a b c d w :=
  fun W v1 v2 v3 v4 hb n1 n2 n3 n4 => mul1_any (nv a) (nv b) (nv c) (nv d) v1 v2 v3 v4 W n1 n2 n3 n4 (limbs_of_right (chk_ok h1).1) (limbs_of_right (chk_ok h1).2.1) (limbs_of_right (chk_ok h2).1) (limbs_of_right (chk_ok h2).2.1) (pos_of_chk h1) (pos_of_chk h2) (hT.below hb (Nat.le_refl _))
set_option maxRecDepth 100000 in
set_option maxHeartbeats 1000000 in
theorem mul_any (a b c d : ByteArray) (w : World) (hT : TabW w) :
    Calls Tryz.prog 29 #[.agg #[.string a, .string b], .agg #[.string c, .string d]] w (PartPost (mulS a b c d) w) := by
  obtain ⟨hA1, hB1, hR1, hW1⟩ := three_new w #[.string a, .string b] #[.string c, .string d] #[.string ⟨#[]⟩, .string ⟨#[]⟩] 46 46 46
  have TD : Hid (∀ W, TabW W → Calls Tryz.prog 62 #[.agg #[.string a, .string b], .agg #[.string c, .string d], .func (.func 71) #[] #[]] W (PartPost (mulS a b c d) W)) := Lib.hid (fun W hW => two_any 71 _ a b c d W (fun _ _ => rfl) (fun e1 e2 => mul_do hW e1 e2))
  have HT := Lib.hid hT
  have HW1 := Lib.hid hW1
  generalize mulS a b c d = p at TD ⊢
  obtain ⟨p1, p2, p3⟩ := p
  obtain ⟨⟨x0, x1⟩, _, _⟩ := hA1.two
  obtain ⟨⟨y0, y1⟩, _, _⟩ := hB1.two
  clear hW1 hT
  go_enter Tryz.func29, Tryz.ntmps29
  go_wp2_with fail
  refine (TD.out _ (HT.out.below HW1.out (Nat.le_refl _))).mono ?_; rintro e w2 ⟨he, hb2⟩; simp only [pv] at he; subst he
  have hR2 := hR1.pass hb2
  have HB2 := Lib.hid (HW1.out.trans (hb2.mono HW1.out.size))
  clear hb2 hA1 hB1 hR1 x0 x1 y0 y1
  obtain ⟨⟨r0, r1⟩, f0, f1⟩ := hR2.two
  go_wp2_with fail
  refine bodyPost_ret (results_ct (g := w.heap.size + 1 + 1) rfl rfl ((hR2.set 0 _).set 1 _) Tryz.underlying46 rfl (by kernel_rfl)) rfl ?_
  exact ⟨by simp [pv], (HB2.out.setCell (by simp; omega) _).setCell (by simp; omega) _⟩
def subP (a b c d : ByteArray) : ByteArray × ByteArray × Int := if nv a * nv d < nv c * nv b then (⟨#[]⟩, ⟨#[]⟩, 11) else partS (nv a * nv d - nv c * nv b) (nv b * nv d)
def subS (a b c d : ByteArray) : ByteArray × ByteArray × Int := twoS (subP a b c d) a b c d
theorem sub_do {a b c d : ByteArray} {w : World} (hT : TabW w) (h1 : chk a b = true) (h2 : chk c d = true) : DoK 90 (subP a b c d) a b c d w :=
  fun W v1 v2 v3 v4 hb n1 n2 n3 n4 => sub1_any (nv a) (nv b) (nv c) (nv d) v1 v2 v3 v4 W n1 n2 n3 n4 (limbs_of_right (chk_ok h1).1) (limbs_of_right (chk_ok h1).2.1) (limbs_of_right (chk_ok h2).1) (limbs_of_right (chk_ok h2).2.1) (pos_of_chk h1) (pos_of_chk h2) (hT.below hb (Nat.le_refl _))
set_option maxRecDepth 100000 in
set_option maxHeartbeats 1000000 in
theorem sub_any (a b c d : ByteArray) (w : World) (hT : TabW w) :
    Calls Tryz.prog 41 #[.agg #[.string a, .string b], .agg #[.string c, .string d]] w (PartPost (subS a b c d) w) := by
  obtain ⟨hA1, hB1, hR1, hW1⟩ := three_new w #[.string a, .string b] #[.string c, .string d] #[.string ⟨#[]⟩, .string ⟨#[]⟩] 46 46 46
  have TD : Hid (∀ W, TabW W → Calls Tryz.prog 62 #[.agg #[.string a, .string b], .agg #[.string c, .string d], .func (.func 90) #[] #[]] W (PartPost (subS a b c d) W)) := Lib.hid (fun W hW => two_any 90 _ a b c d W (fun _ _ => rfl) (fun e1 e2 => sub_do hW e1 e2))
  have HT := Lib.hid hT
  have HW1 := Lib.hid hW1
  generalize subS a b c d = p at TD ⊢
  obtain ⟨p1, p2, p3⟩ := p
  obtain ⟨⟨x0, x1⟩, _, _⟩ := hA1.two
  obtain ⟨⟨y0, y1⟩, _, _⟩ := hB1.two
  clear hW1 hT
  go_enter Tryz.func41, Tryz.ntmps41
  go_wp2_with fail
  refine (TD.out _ (HT.out.below HW1.out (Nat.le_refl _))).mono ?_; rintro e w2 ⟨he, hb2⟩; simp only [pv] at he; subst he
  have hR2 := hR1.pass hb2
  have HB2 := Lib.hid (HW1.out.trans (hb2.mono HW1.out.size))
  clear hb2 hA1 hB1 hR1 x0 x1 y0 y1
  obtain ⟨⟨r0, r1⟩, f0, f1⟩ := hR2.two
  go_wp2_with fail
  refine bodyPost_ret (results_ct (g := w.heap.size + 1 + 1) rfl rfl ((hR2.set 0 _).set 1 _) Tryz.underlying46 rfl (by kernel_rfl)) rfl ?_
  exact ⟨by simp [pv], (HB2.out.setCell (by simp; omega) _).setCell (by simp; omega) _⟩
def divP (a b c d : ByteArray) : ByteArray × ByteArray × Int := if nv c = 0 then (⟨#[]⟩, ⟨#[]⟩, 10) else partS (nv a * nv d) (nv b * nv c)
def divS (a b c d : ByteArray) : ByteArray × ByteArray × Int := twoS (divP a b c d) a b c d
theorem div_do {a b c d : ByteArray} {w : World} (hT : TabW w) (h1 : chk a b = true) (h2 : chk c d = true) : DoK 129 (divP a b c d) a b c d w :=
  fun W v1 v2 v3 v4 hb n1 n2 n3 n4 => div1_any (nv a) (nv b) (nv c) (nv d) v1 v2 v3 v4 W n1 n2 n3 n4 (limbs_of_right (chk_ok h1).1) (limbs_of_right (chk_ok h1).2.1) (limbs_of_right (chk_ok h2).1) (limbs_of_right (chk_ok h2).2.1) (pos_of_chk h1) (pos_of_chk h2) (hT.below hb (Nat.le_refl _))
set_option maxRecDepth 100000 in
set_option maxHeartbeats 1000000 in
theorem div_any (a b c d : ByteArray) (w : World) (hT : TabW w) :
    Calls Tryz.prog 104 #[.agg #[.string a, .string b], .agg #[.string c, .string d]] w (PartPost (divS a b c d) w) := by
  obtain ⟨hA1, hB1, hR1, hW1⟩ := three_new w #[.string a, .string b] #[.string c, .string d] #[.string ⟨#[]⟩, .string ⟨#[]⟩] 46 46 46
  have TD : Hid (∀ W, TabW W → Calls Tryz.prog 62 #[.agg #[.string a, .string b], .agg #[.string c, .string d], .func (.func 129) #[] #[]] W (PartPost (divS a b c d) W)) := Lib.hid (fun W hW => two_any 129 _ a b c d W (fun _ _ => rfl) (fun e1 e2 => div_do hW e1 e2))
  have HT := Lib.hid hT
  have HW1 := Lib.hid hW1
  generalize divS a b c d = p at TD ⊢
  obtain ⟨p1, p2, p3⟩ := p
  obtain ⟨⟨x0, x1⟩, _, _⟩ := hA1.two
  obtain ⟨⟨y0, y1⟩, _, _⟩ := hB1.two
  clear hW1 hT
  go_enter Tryz.func104, Tryz.ntmps104
  go_wp2_with fail
  refine (TD.out _ (HT.out.below HW1.out (Nat.le_refl _))).mono ?_; rintro e w2 ⟨he, hb2⟩; simp only [pv] at he; subst he
  have hR2 := hR1.pass hb2
  have HB2 := Lib.hid (HW1.out.trans (hb2.mono HW1.out.size))
  clear hb2 hA1 hB1 hR1 x0 x1 y0 y1
  obtain ⟨⟨r0, r1⟩, f0, f1⟩ := hR2.two
  go_wp2_with fail
  refine bodyPost_ret (results_ct (g := w.heap.size + 1 + 1) rfl rfl ((hR2.set 0 _).set 1 _) Tryz.underlying46 rfl (by kernel_rfl)) rfl ?_
  exact ⟨by simp [pv], (HB2.out.setCell (by simp; omega) _).setCell (by simp; omega) _⟩
def notS (a b : ByteArray) : ByteArray × ByteArray × Int := subS ⟨#[49]⟩ ⟨#[49]⟩ a b
set_option maxRecDepth 100000 in
set_option maxHeartbeats 1000000 in
theorem not_any (a b : ByteArray) (w : World) (hT : TabW w) :
    Calls Tryz.prog 93 #[.agg #[.string a, .string b]] w (PartPost (notS a b) w) := by
  obtain ⟨hA1, hR1, hW1⟩ := two_new w #[.string a, .string b] #[.string ⟨#[]⟩, .string ⟨#[]⟩] 46 46
  have TD := Lib.hid (fun W hW => sub_any ⟨#[49]⟩ ⟨#[49]⟩ a b W hW)
  rw [show subS ⟨#[49]⟩ ⟨#[49]⟩ a b = notS a b from rfl] at TD
  have HT := Lib.hid hT
  have HW1 := Lib.hid hW1
  generalize notS a b = p at TD ⊢
  obtain ⟨p1, p2, p3⟩ := p
  obtain ⟨⟨x0, x1⟩, _, _⟩ := hA1.two
  clear hW1 hT
  go_enter Tryz.func93, Tryz.ntmps93
  go_wp2_with fail
  refine (TD.out _ (HT.out.below HW1.out (Nat.le_refl _))).mono ?_; rintro e w2 ⟨he, hb2⟩; simp only [pv] at he; subst he
  have hR2 := hR1.pass hb2
  have HB2 := Lib.hid (HW1.out.trans (hb2.mono HW1.out.size))
  clear hb2 hA1 hR1 x0 x1
  obtain ⟨⟨r0, r1⟩, f0, f1⟩ := hR2.two
  go_wp2_with fail
  refine bodyPost_ret (results_ct (g := w.heap.size + 1) rfl rfl ((hR2.set 0 _).set 1 _) Tryz.underlying46 rfl (by kernel_rfl)) rfl ?_
  exact ⟨by simp [pv], (HB2.out.setCell (by simp) _).setCell (by simp) _⟩
end Go.Proofs.Cr
namespace Go.Proofs.Cr
open Go Go.RowKit Go.Shelf
section
variable {F : Fence} {n : Nat} {P : Program} {ops : Array Oper} {Q : Exit → Act → World → Prop} {md : Region.Mode} {C : World → Prop} {T : List Nat}
/-- A region that draws, cut behind it: 'I' says what it leaves. -/
theorem wp_region_I (I : Act → Act → World → Prop) (S : World → Prop) (C : World → Prop) (T : List Nat) {id : Nat} {a : Act} {w : World} (hm : P.follows .mixedOrders = true) (hC : C w.drew) (hS : S w.drew)
    (h : ∀ W, C W → S W → wpAnyJ Fence.wide 0 P .any ops (NoPan (fun e a' w' => e = .normal ∧ I a a' w')) C T ops.size (Array.replicate ops.size false) a W)
    (hI : ∀ a' w', I a a' w' → Q .normal a' w') : (Code.region id ops true).wp P Q a w := by
  refine Code.wp_mono ?_ (wp_region_J C T hm hC (fun _ => h _ hC hS))
  rintro e a' w' ⟨rfl, h⟩
  exact hI _ _ h
theorem wpIn_region_I (I : Act → Act → World → Prop) (S : World → Prop) (C : World → Prop) (T : List Nat) {id : Nat} {a : Act} {w : World} (hm : P.follows .mixedOrders = true) (hC : C w.drew) (hS : S w.drew)
    (h : ∀ W, C W → S W → wpAnyJ F n P .any ops (NoPan (fun e a' w' => e = .normal ∧ I a a' w')) C T ops.size (Array.replicate ops.size false) a W)
    (hI : ∀ a' w', I a a' w' → Q .normal a' w') : (Code.region id ops true).wpIn F n P Q a w := by
  refine wpIn_mono (wpIn_region_J C T hm hC (fun _ => h _ hC hS)) ?_
  rintro e a' w' ⟨rfl, h⟩
  exact hI _ _ h
theorem consJ (i : Nat) {o : Oper} {rest : List Oper} {rs : List Nat} {fuel : Nat} {listed : Array Bool} {a : Act} {w : World} (ho : ops.toList.drop i = o :: rest)
    (h : ∀ K : Act → World → Prop, RowKit.Hid (∀ a' w', ((T.contains i = false → C w') ∧ wpAnyJ F n P md ops Q C T fuel (listed.setIfInBounds i true) a' w') → K a' w') →
      if Region.wanted o (yielded ops a.tmps) = true then Oper.wpIn F n P o a w K Q else (∀ f, o.about P w a.eval = some f → F.fn f) ∧ K (a.put o.dst undef) w)
    (hr : AllJ F n P md ops Q C T fuel listed a w rs) : AllJ F n P md ops Q C T fuel listed a w (i :: rs) := AllJ.cons (drop_at ho) h hr
end
/-- A fraction of numbers in memory. -/
def FracN (W : World) (v : Value) (n d : Nat) : Prop := ∃ v1 v2, v = .agg #[v1, v2] ∧ NumV W v1 n ∧ NumV W v2 d
theorem NumV.pass {W W' : World} {v : Value} {n : Nat} (h : NumV W v n) (hb : Below W.heap.size W W') : NumV W' v n := h.below hb (Nat.le_refl _)
theorem below_alloc (W : World) (o : Obj) : Below W.heap.size W (W.alloc o) := (Below.refl _ W).alloc (Nat.le_refl _) o
theorem FracN.pass {W W' : World} {v : Value} {n d : Nat} (h : FracN W v n d) (hb : Below W.heap.size W W') : FracN W' v n d := by
  obtain ⟨v1, v2, e, h1, h2⟩ := h
  exact ⟨v1, v2, e, h1.pass hb, h2.pass hb⟩
theorem FracN.alloc {W : World} {v : Value} {n d : Nat} (h : FracN W v n d) (o : Obj) : FracN (W.alloc o) v n d := h.pass (below_alloc W o)
/-- Nothing of 'w' below 'n' was touched; what is new lies at 'm' and above. -/
def Kept (n m : Nat) (w W : World) : Prop := n ≤ m ∧ m ≤ W.heap.size ∧ Below n w W
theorem Kept.pass {n m : Nat} {w W W' : World} (h : Kept n m w W) (hb : Below W.heap.size W W') : Kept n m w W' := ⟨h.1, Nat.le_trans h.2.1 hb.size, h.2.2.trans (hb.mono (Nat.le_trans h.1 h.2.1))⟩
theorem Kept.alloc {n m : Nat} {w W : World} (h : Kept n m w W) (o : Obj) : Kept n m w (W.alloc o) := h.pass (below_alloc W o)
theorem Kept.drew {n m : Nat} {w W : World} (h : Kept n m w W) : Kept n m w W.drew := ⟨h.1, h.2.1, h.2.2.drew⟩
theorem Kept.set {n m : Nat} {w W : World} (h : Kept n m w W) {p : Addr} (hp : m ≤ p.block) (v : Value) : Kept n m w (W.setCell p v) := ⟨h.1, by simpa using h.2.1, h.2.2.setCell (Nat.le_trans h.1 hp) v⟩
theorem Kept.of {n m : Nat} {w W : World} (hn : n ≤ m) (hm : m ≤ W.heap.size) (h : Below n w W) : Kept n m w W := ⟨hn, hm, h⟩
end Go.Proofs.Cr
