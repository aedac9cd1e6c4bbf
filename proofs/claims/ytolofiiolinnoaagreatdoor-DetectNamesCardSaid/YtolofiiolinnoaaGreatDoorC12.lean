/- Contracts of functions that the laws reach, and plain lemmas. Part 12. -/
import Derived.Test.YtolofiiolinnoaaGreatDoorC08
import Derived.Test.YtolofiiolinnoaaGreatDoorC09
import Derived.Test.YtolofiiolinnoaaGreatDoorC11
set_option linter.all false
namespace Go.Proofs.Cr
open Go.RowKit Go.Shelf
attribute [local go_sem] Oper.semAt_some

set_option maxRecDepth 100000 in
set_option maxHeartbeats 4000000 in
theorem curve_len (A : Option Addr) (c : Nat) (L : List Bd) (w : World) (hb : L.length ≤ 1000000000) (hl : ¬ (2 ≤ L.length ∧ L.length ≤ 64)) :
    Calls Tryz.prog 22 #[.slice A L.length c] w fun e w' => e = .returned (.int .i64 2) ∧ Below w.heap.size w w' := by
  have hX1 := Blk.new w #[.int .i64 0] 24
  have HW1 := Lib.hid (below_alloc w (.cells #[.int .i64 0] 24))
  have TW := Lib.hid (fun W => within_any (L.length : Int) 2 64 W)
  have e1 : (decide ((2 : Int) ≤ (L.length : Int)) && decide ((L.length : Int) ≤ 64)) = false := by
    rw [← Bool.not_eq_true]; simp only [Bool.and_eq_true, decide_eq_true_eq]; omega
  rw [e1] at TW
  generalize L.length = N at *
  clear hl e1
  go_enter Tryz.func22, Tryz.ntmps22
  go_wp2_with fail
  have hm : Tryz.prog.follows .mixedOrders = true := by kernel_rfl
  have hfnR : ∀ f, Fence.wide.fn f := fun _ => trivial
  refine wp_region_J (fun _ => True) [] hm ?hCells0 (fun hCells => ?_)
  case hCells0 => exact trivial
  refine takeB hfnR (by kernel_rfl) 0 (v := ?_) rfl (by kernel_rfl) (fun _ _ _ h => h) (by kernel_rfl) hCells (Or.inl ⟨by rfl, ?_⟩) ?_
  rotate_left 1
  · intro w hSw; (try dsimp only at hSw); go_simp; (try with_reducible rfl)
  try simp only [Act.put, List.setIfInBounds_toArray, List.set_cons_zero, List.set_cons_succ]
  refine takeB hfnR (by kernel_rfl) 1 (v := ?_) rfl (by kernel_rfl) (fun _ _ _ h => h) (by kernel_rfl) hCells (Or.inl ⟨by rfl, ?_⟩) ?_
  rotate_left 1
  · intro w hSw; (try dsimp only at hSw); go_simp; (try with_reducible rfl)
  try simp only [Act.put, List.setIfInBounds_toArray, List.set_cons_zero, List.set_cons_succ]
  refine oneJ 2 (by kernel_rfl) rfl (fun K hK => ?_)
  go_simp
  refine ⟨rfl, ?_⟩
  (refine (callsIn_wide.2 (TW.out _)).mono ?_; rintro e w2 ⟨rfl, rfl⟩)
  refine hK.out _ _ (holdJ ?_ (fun hCells => ?_))
  · clear hK; (try dsimp only); (all_goals trivial)
  clear hK K
  try simp only [Act.put, List.setIfInBounds_toArray, List.set_cons_zero, List.set_cons_succ]
  refine takeB hfnR (by kernel_rfl) 3 (v := ?_) rfl (by kernel_rfl) (fun _ _ _ h => h) (by kernel_rfl) hCells (Or.inl ⟨by rfl, ?_⟩) ?_
  rotate_left 1
  · intro w hSw; (try dsimp only at hSw); go_simp; (try with_reducible rfl)
  try simp only [Act.put, List.setIfInBounds_toArray, List.set_cons_zero, List.set_cons_succ]
  refine takeB hfnR (by kernel_rfl) 4 (v := ?_) rfl (by kernel_rfl) (fun _ _ _ h => h) (by kernel_rfl) hCells (Or.inl ⟨by rfl, ?_⟩) ?_
  rotate_left 1
  · intro w hSw; (try dsimp only at hSw); go_simp; (try with_reducible rfl)
  try simp only [Act.put, List.setIfInBounds_toArray, List.set_cons_zero, List.set_cons_succ]
  refine takeB hfnR (by kernel_rfl) 5 (v := undef) rfl (by kernel_rfl) (fun _ _ _ h => h) (by kernel_rfl) hCells (Or.inr ⟨by rfl, rfl⟩) ?_
  try simp only [Act.put, List.setIfInBounds_toArray, List.set_cons_zero, List.set_cons_succ]
  refine takeB hfnR (by kernel_rfl) 6 (v := undef) rfl (by kernel_rfl) (fun _ _ _ h => h) (by kernel_rfl) hCells (Or.inr ⟨by rfl, rfl⟩) ?_
  try simp only [Act.put, List.setIfInBounds_toArray, List.set_cons_zero, List.set_cons_succ]
  refine takeB hfnR (by kernel_rfl) 7 (v := undef) rfl (by kernel_rfl) (fun _ _ _ h => h) (by kernel_rfl) hCells (Or.inr ⟨by rfl, rfl⟩) ?_
  try simp only [Act.put, List.setIfInBounds_toArray, List.set_cons_zero, List.set_cons_succ]
  refine takeB hfnR (by kernel_rfl) 8 (v := undef) rfl (by kernel_rfl) (fun _ _ _ h => h) (by kernel_rfl) hCells (Or.inr ⟨by rfl, rfl⟩) ?_
  try simp only [Act.put, List.setIfInBounds_toArray, List.set_cons_zero, List.set_cons_succ]
  refine takeB hfnR (by kernel_rfl) 9 (v := undef) rfl (by kernel_rfl) (fun _ _ _ h => h) (by kernel_rfl) hCells (Or.inr ⟨by rfl, rfl⟩) ?_
  try simp only [Act.put, List.setIfInBounds_toArray, List.set_cons_zero, List.set_cons_succ]
  refine takeB hfnR (by kernel_rfl) 10 (v := undef) rfl (by kernel_rfl) (fun _ _ _ h => h) (by kernel_rfl) hCells (Or.inr ⟨by rfl, rfl⟩) ?_
  try simp only [Act.put, List.setIfInBounds_toArray, List.set_cons_zero, List.set_cons_succ]
  refine takeB hfnR (by kernel_rfl) 11 (v := undef) rfl (by kernel_rfl) (fun _ _ _ h => h) (by kernel_rfl) hCells (Or.inr ⟨by rfl, rfl⟩) ?_
  try simp only [Act.put, List.setIfInBounds_toArray, List.set_cons_zero, List.set_cons_succ]
  refine takeB hfnR (by kernel_rfl) 12 (v := ?_) rfl (by kernel_rfl) (fun _ _ _ h => h) (by kernel_rfl) hCells (Or.inl ⟨by rfl, ?_⟩) ?_
  rotate_left 1
  · intro w hSw; (try dsimp only at hSw); go_simp; (try with_reducible rfl)
  try simp only [Act.put, List.setIfInBounds_toArray, List.set_cons_zero, List.set_cons_succ]
  refine wpAnyJ_done (by kernel_rfl) (NoPan.normal ?_) _
  have c0 : (w.alloc (.cells #[.int .i64 0] 24)).drew.cell? ⟨w.heap.size, 0, none⟩ = some (.int .i64 0) := hX1.drew.cell 0
  have c1 := hX1.drew.free 0
  go_wp2_with fail
  refine bodyPost_ret (results_s24 rfl rfl (Blk.new w #[.int .i64 2] 24).drew) rfl ?_
  exact ⟨rfl, (below_alloc w _).drew⟩
set_option maxRecDepth 100000 in
set_option maxHeartbeats 4000000 in
theorem curve_zero (A : Option Addr) (c : Nat) (L : List Bd) (w : World) (hr : RdB w A L) (hl : 2 ≤ L.length ∧ L.length ≤ 64) (hz : L.getD 0 .zero ≠ zeroBd) (hZ : ZO w) :
    Calls Tryz.prog 22 #[.slice A L.length c] w fun e w' => e = .returned (.int .i64 2) ∧ Below w.heap.size w w' := by
  have hX1 := Blk.new w #[.int .i64 0] 24
  have HW1 := Lib.hid (below_alloc w (.cells #[.int .i64 0] 24))
  have TW := Lib.hid (fun W => within_any (L.length : Int) 2 64 W)
  have e1 : (decide ((2 : Int) ≤ (L.length : Int)) && decide ((L.length : Int) ≤ 64)) = true := by simp only [Bool.and_eq_true, decide_eq_true_eq]; omega
  rw [e1] at TW
  obtain ⟨b, off, rfl, hb, hcs⟩ := hr.2 (by omega)
  have h0 := hcs 0 (by omega)
  rw [Nat.zero_mul, Nat.add_zero] at h0
  generalize L.getD 0 .zero = x at h0 hz
  obtain ⟨x1, x2, x3, x4⟩ := x
  have HNZ : Hid (¬ (x1.toList = [48] ∧ x2.toList = [49] ∧ x3.toList = [48] ∧ x4.toList = [49])) := Lib.hid (by
    rintro ⟨h1, h2, h3, h4⟩
    apply hz
    have f : ∀ {s : ByteArray} {l : List UInt8}, s.toList = l → s = ⟨l.toArray⟩ := fun {s l} h => by
      rw [toList_data] at h; rw [← h]
    rw [f h1, f h2, f h3, f h4]
    rfl)
  obtain ⟨N, hN⟩ : ∃ N, N = L.length := ⟨_, rfl⟩
  rw [← hN] at TW ⊢
  have hpos : 0 < N := by omega
  have hZ1 := hZ.pass HW1.out.drew
  have k : ∀ {p v}, w.cell? p = some v → (w.alloc (.cells #[.int .i64 0] 24)).drew.cell? p = some v := fun h => pc HW1.out.drew h
  have q := (And.intro (And.intro (k h0.1.1) (k h0.1.2)) (And.intro (k h0.2.1) (k h0.2.2)))
  clear hN hl e1 hcs h0 hr hz k hZ
  go_enter Tryz.func22, Tryz.ntmps22
  go_wp2_with fail
  have hm : Tryz.prog.follows .mixedOrders = true := by kernel_rfl
  have hfnR : ∀ f, Fence.wide.fn f := fun _ => trivial
  refine wp_region_J (fun W => ((W.cell? ⟨b, off, none⟩ = some (.string x1) ∧ W.cell? ⟨b, off + 1, none⟩ = some (.string x2)) ∧ (W.cell? ⟨b, off + 2, none⟩ = some (.string x3) ∧ W.cell? ⟨b, off + 3, none⟩ = some (.string x4))) ∧ W.cell? ⟨0, 0, none⟩ = some (.string ⟨#[48]⟩) ∧ W.cell? ⟨0, 1, none⟩ = some (.string ⟨#[49]⟩)) [] hm ?hCells0 (fun hCells => ?_)
  case hCells0 => exact ⟨q, hZ1.1⟩
  clear q hZ1
  refine takeB hfnR (by kernel_rfl) 0 (v := ?_) rfl (by kernel_rfl) (fun _ _ _ h => h) (by kernel_rfl) hCells (Or.inl ⟨by rfl, ?_⟩) ?_
  rotate_left 1
  · intro w hSw; (try dsimp only at hSw); go_simp; (try with_reducible rfl)
  try simp only [Act.put, List.setIfInBounds_toArray, List.set_cons_zero, List.set_cons_succ]
  refine takeB hfnR (by kernel_rfl) 1 (v := ?_) rfl (by kernel_rfl) (fun _ _ _ h => h) (by kernel_rfl) hCells (Or.inl ⟨by rfl, ?_⟩) ?_
  rotate_left 1
  · intro w hSw; (try dsimp only at hSw); go_simp; (try with_reducible rfl)
  try simp only [Act.put, List.setIfInBounds_toArray, List.set_cons_zero, List.set_cons_succ]
  refine oneJ 2 (by kernel_rfl) rfl (fun K hK => ?_)
  go_simp
  refine ⟨rfl, ?_⟩
  (refine (callsIn_wide.2 (TW.out _)).mono ?_; rintro e w2 ⟨rfl, rfl⟩)
  refine hK.out _ _ (holdJ ?_ (fun hCells => ?_))
  · clear hK; (try dsimp only); (exact hCells)
  clear hK K
  try simp only [Act.put, List.setIfInBounds_toArray, List.set_cons_zero, List.set_cons_succ]
  refine takeB hfnR (by kernel_rfl) 3 (v := ?_) rfl (by kernel_rfl) (fun _ _ _ h => h) (by kernel_rfl) hCells (Or.inl ⟨by rfl, ?_⟩) ?_
  rotate_left 1
  · intro w hSw; (try dsimp only at hSw); go_simp; (try with_reducible rfl)
  try simp only [Act.put, List.setIfInBounds_toArray, List.set_cons_zero, List.set_cons_succ]
  refine takeB hfnR (by kernel_rfl) 4 (v := ?_) rfl (by kernel_rfl) (fun _ _ _ h => h) (by kernel_rfl) hCells (Or.inl ⟨by rfl, ?_⟩) ?_
  rotate_left 1
  · intro w hSw; (try dsimp only at hSw); go_simp; (try with_reducible rfl)
  try simp only [Act.put, List.setIfInBounds_toArray, List.set_cons_zero, List.set_cons_succ]
  refine takeB hfnR (by kernel_rfl) 5 (v := ?_) rfl (by kernel_rfl) (fun _ _ _ h => h) (by kernel_rfl) hCells (Or.inl ⟨by rfl, ?_⟩) ?_
  rotate_left 1
  · intro w hSw; (try dsimp only at hSw); go_simp; (try with_reducible rfl)
  try simp only [Act.put, List.setIfInBounds_toArray, List.set_cons_zero, List.set_cons_succ]
  refine takeB hfnR (by kernel_rfl) 6 (v := ?_) rfl (by kernel_rfl) (fun _ _ _ h => h) (by kernel_rfl) hCells (Or.inl ⟨by rfl, ?_⟩) ?_
  rotate_left 1
  · intro w hSw; (try dsimp only at hSw); go_simp; (try with_reducible rfl)
  try simp only [Act.put, List.setIfInBounds_toArray, List.set_cons_zero, List.set_cons_succ]
  refine takeB hfnR (by kernel_rfl) 7 (v := ?_) rfl (by kernel_rfl) (fun _ _ _ h => h) (by kernel_rfl) hCells (Or.inl ⟨by rfl, ?_⟩) ?_
  rotate_left 1
  · intro w hSw; (try dsimp only at hSw); go_simp; (try with_reducible rfl)
  try simp only [Act.put, List.setIfInBounds_toArray, List.set_cons_zero, List.set_cons_succ]
  refine takeB hfnR (by kernel_rfl) 8 (v := ?_) rfl (by kernel_rfl) (fun _ _ _ h => h) (by kernel_rfl) hCells (Or.inl ⟨by rfl, ?_⟩) ?_
  rotate_left 1
  · intro w hSw; (try dsimp only at hSw); go_simp; (try with_reducible rfl)
  try simp only [Act.put, List.setIfInBounds_toArray, List.set_cons_zero, List.set_cons_succ]
  refine takeB hfnR (by kernel_rfl) 9 (v := ?_) rfl (by kernel_rfl) (fun _ _ _ h => h) (by kernel_rfl) hCells (Or.inl ⟨by rfl, ?_⟩) ?_
  rotate_left 1
  · intro w hSw; (try dsimp only at hSw); go_simp; (try with_reducible rfl)
  try simp only [Act.put, List.setIfInBounds_toArray, List.set_cons_zero, List.set_cons_succ]
  refine takeB hfnR (by kernel_rfl) 10 (v := ?_) rfl (by kernel_rfl) (fun _ _ _ h => h) (by kernel_rfl) hCells (Or.inl ⟨by rfl, ?_⟩) ?_
  rotate_left 1
  · intro w hSw; (try dsimp only at hSw); go_simp; (try with_reducible rfl)
  try simp only [Act.put, List.setIfInBounds_toArray, List.set_cons_zero, List.set_cons_succ]
  refine takeB hfnR (by kernel_rfl) 11 (v := .bool true) rfl (by kernel_rfl) (fun _ _ _ h => h) (by kernel_rfl) hCells (Or.inl ⟨by rfl, ?_⟩) ?_
  · intro w hSw
    go_simp
    intro a1 a2 a3 a4
    exact HNZ.out ⟨a1, a2, a3, a4⟩
  try simp only [Act.put, List.setIfInBounds_toArray, List.set_cons_zero, List.set_cons_succ]
  refine takeB hfnR (by kernel_rfl) 12 (v := ?_) rfl (by kernel_rfl) (fun _ _ _ h => h) (by kernel_rfl) hCells (Or.inl ⟨by rfl, ?_⟩) ?_
  rotate_left 1
  · intro w hSw; (try dsimp only at hSw); go_simp; (try with_reducible rfl)
  try simp only [Act.put, List.setIfInBounds_toArray, List.set_cons_zero, List.set_cons_succ]
  refine wpAnyJ_done (by kernel_rfl) (NoPan.normal ?_) _
  have c0 : (w.alloc (.cells #[.int .i64 0] 24)).drew.cell? ⟨w.heap.size, 0, none⟩ = some (.int .i64 0) := hX1.drew.cell 0
  have c1 := hX1.drew.free 0
  clear hCells
  go_wp2_with fail
  refine bodyPost_ret (results_s24 rfl rfl (Blk.new w #[.int .i64 2] 24).drew) rfl ?_
  exact ⟨rfl, (below_alloc w _).drew⟩
end Go.Proofs.Cr
namespace Go.Proofs.Cr
open Go.RowKit Go.Shelf
attribute [local go_sem] Oper.semAt_some

set_option maxRecDepth 100000 in
set_option maxHeartbeats 4000000 in
theorem curve_short (A : Option Addr) (c N : Nat) (L : List Bd) (w : World) (hr : RdB w A L) (hN : L.length = N + 1) (h1 : 1 ≤ N) (h63 : N ≤ 63) (hz : L.getD 0 .zero = zeroBd) (hZ : ZO w)
    (hany : anyN (fun k => !shortB (L.getD k .zero)) L.length = true) :
    Calls Tryz.prog 22 #[.slice A (N + 1 : Nat) c] w fun e w' => e = .returned (.int .i64 2) ∧ Below w.heap.size w w' := by
  have hX1 := Blk.new w #[.int .i64 0] 24
  have HW1 := Lib.hid (below_alloc w (.cells #[.int .i64 0] 24))
  have HR := Lib.hid hr
  have HL := Lib.hid hN
  have TW := Lib.hid (fun W => within_any ((N : Int) + 1) 2 64 W)
  have e1 : (decide ((2 : Int) ≤ (N : Int) + 1) && decide ((N : Int) + 1 ≤ 64)) = true := by simp; omega
  rw [e1] at TW
  obtain ⟨b, off, rfl, hb, hcs⟩ := hr.2 (by omega)
  have hz0 := hcs 0 (by omega)
  have hzN := hcs N (by omega)
  rw [hz, Nat.zero_mul, Nat.add_zero] at hz0
  have g00 := hZ.1.1; have g01 := hZ.1.2; have g10 := hZ.2.1; have g11 := hZ.2.2
  obtain ⟨y, hy⟩ : ∃ y, y = L.getD N .zero := ⟨_, rfl⟩
  rw [← hy] at hzN
  have HY := Lib.hid hy
  obtain ⟨y1, y2, y3, y4⟩ := y
  have HX2 := Lib.hid (show Blk (w.alloc (.cells #[.int .i64 0] 24)).drew.drew w.heap.size #[.int .i64 0] 24 from hX1)
  have HB2 := Lib.hid (show Below w.heap.size w (w.alloc (.cells #[.int .i64 0] 24)).drew.drew from HW1.out.drew.drew)
  have TC := Lib.hid (contains_bend 54 #[] (some ⟨b, off, none⟩) c L (fun k => !shortB (L.getD k .zero)) _ (HR.out.below HB2.out (Nat.le_refl _)) (fun _ _ => rfl) (fun k W _ _ => curve1_any _ _ _ _ W))
  rw [hany, HL.out] at TC
  clear g10 g11 hzN HY hcs hN hr hZ hz e1 hy hany
  go_enter Tryz.func22, Tryz.ntmps22
  go_wp2_with fail
  have hm : Tryz.prog.follows .mixedOrders = true := by kernel_rfl
  have hfnR : ∀ f, Fence.wide.fn f := fun _ => trivial
  have kc : ∀ {p v}, w.cell? p = some v → (w.alloc (.cells #[.int .i64 0] 24)).drew.cell? p = some v := fun h => pc HW1.out.drew h
  refine wp_region_J (fun W => ((W.cell? ⟨b, off, none⟩ = some (.string ⟨#[48]⟩) ∧ W.cell? ⟨b, off + 1, none⟩ = some (.string ⟨#[49]⟩)) ∧ (W.cell? ⟨b, off + 2, none⟩ = some (.string ⟨#[48]⟩) ∧ W.cell? ⟨b, off + 3, none⟩ = some (.string ⟨#[49]⟩))) ∧ W.cell? ⟨0, 0, none⟩ = some (.string ⟨#[48]⟩) ∧ W.cell? ⟨0, 1, none⟩ = some (.string ⟨#[49]⟩)) [] hm ?hCells0 (fun hCells => ?_)
  case hCells0 => exact ⟨⟨⟨kc hz0.1.1, kc hz0.1.2⟩, kc hz0.2.1, kc hz0.2.2⟩, kc g00, kc g01⟩
  clear hz0 g00 g01 kc
  refine takeB hfnR (by kernel_rfl) 0 (v := ?_) rfl (by kernel_rfl) (fun _ _ _ h => h) (by kernel_rfl) hCells (Or.inl ⟨by rfl, ?_⟩) ?_
  rotate_left 1
  · intro w hSw; (try dsimp only at hSw); go_simp; (try with_reducible rfl)
  try simp only [Act.put, List.setIfInBounds_toArray, List.set_cons_zero, List.set_cons_succ]
  refine takeB hfnR (by kernel_rfl) 1 (v := ?_) rfl (by kernel_rfl) (fun _ _ _ h => h) (by kernel_rfl) hCells (Or.inl ⟨by rfl, ?_⟩) ?_
  rotate_left 1
  · intro w hSw; (try dsimp only at hSw); go_simp; (try with_reducible rfl)
  try simp only [Act.put, List.setIfInBounds_toArray, List.set_cons_zero, List.set_cons_succ]
  refine oneJ 2 (by kernel_rfl) rfl (fun K hK => ?_)
  go_simp
  refine ⟨rfl, ?_⟩
  (refine (callsIn_wide.2 (TW.out _)).mono ?_; rintro e w2 ⟨rfl, rfl⟩)
  refine hK.out _ _ (holdJ ?_ (fun hCells => ?_))
  · clear hK; (try dsimp only); (exact hCells)
  clear hK K
  try simp only [Act.put, List.setIfInBounds_toArray, List.set_cons_zero, List.set_cons_succ]
  refine takeB hfnR (by kernel_rfl) 3 (v := ?_) rfl (by kernel_rfl) (fun _ _ _ h => h) (by kernel_rfl) hCells (Or.inl ⟨by rfl, ?_⟩) ?_
  rotate_left 1
  · intro w hSw; (try dsimp only at hSw); go_simp; (try with_reducible rfl)
  try simp only [Act.put, List.setIfInBounds_toArray, List.set_cons_zero, List.set_cons_succ]
  refine takeB hfnR (by kernel_rfl) 4 (v := ?_) rfl (by kernel_rfl) (fun _ _ _ h => h) (by kernel_rfl) hCells (Or.inl ⟨by rfl, ?_⟩) ?_
  rotate_left 1
  · intro w hSw; (try dsimp only at hSw); go_simp; (try with_reducible rfl)
  try simp only [Act.put, List.setIfInBounds_toArray, List.set_cons_zero, List.set_cons_succ]
  refine takeB hfnR (by kernel_rfl) 5 (v := ?_) rfl (by kernel_rfl) (fun _ _ _ h => h) (by kernel_rfl) hCells (Or.inl ⟨by rfl, ?_⟩) ?_
  rotate_left 1
  · intro w hSw; (try dsimp only at hSw); go_simp; (try with_reducible rfl)
  try simp only [Act.put, List.setIfInBounds_toArray, List.set_cons_zero, List.set_cons_succ]
  refine takeB hfnR (by kernel_rfl) 6 (v := ?_) rfl (by kernel_rfl) (fun _ _ _ h => h) (by kernel_rfl) hCells (Or.inl ⟨by rfl, ?_⟩) ?_
  rotate_left 1
  · intro w hSw; (try dsimp only at hSw); go_simp; (try with_reducible rfl)
  try simp only [Act.put, List.setIfInBounds_toArray, List.set_cons_zero, List.set_cons_succ]
  refine takeB hfnR (by kernel_rfl) 7 (v := ?_) rfl (by kernel_rfl) (fun _ _ _ h => h) (by kernel_rfl) hCells (Or.inl ⟨by rfl, ?_⟩) ?_
  rotate_left 1
  · intro w hSw; (try dsimp only at hSw); go_simp; (try with_reducible rfl)
  try simp only [Act.put, List.setIfInBounds_toArray, List.set_cons_zero, List.set_cons_succ]
  refine takeB hfnR (by kernel_rfl) 8 (v := ?_) rfl (by kernel_rfl) (fun _ _ _ h => h) (by kernel_rfl) hCells (Or.inl ⟨by rfl, ?_⟩) ?_
  rotate_left 1
  · intro w hSw; (try dsimp only at hSw); go_simp; (try with_reducible rfl)
  try simp only [Act.put, List.setIfInBounds_toArray, List.set_cons_zero, List.set_cons_succ]
  refine takeB hfnR (by kernel_rfl) 9 (v := ?_) rfl (by kernel_rfl) (fun _ _ _ h => h) (by kernel_rfl) hCells (Or.inl ⟨by rfl, ?_⟩) ?_
  rotate_left 1
  · intro w hSw; (try dsimp only at hSw); go_simp; (try with_reducible rfl)
  try simp only [Act.put, List.setIfInBounds_toArray, List.set_cons_zero, List.set_cons_succ]
  refine takeB hfnR (by kernel_rfl) 10 (v := ?_) rfl (by kernel_rfl) (fun _ _ _ h => h) (by kernel_rfl) hCells (Or.inl ⟨by rfl, ?_⟩) ?_
  rotate_left 1
  · intro w hSw; (try dsimp only at hSw); go_simp; (try with_reducible rfl)
  try simp only [Act.put, List.setIfInBounds_toArray, List.set_cons_zero, List.set_cons_succ]
  refine takeB hfnR (by kernel_rfl) 11 (v := ?_) rfl (by kernel_rfl) (fun _ _ _ h => h) (by kernel_rfl) hCells (Or.inl ⟨by rfl, ?_⟩) ?_
  rotate_left 1
  · intro w hSw; (try dsimp only at hSw); go_simp; (try with_reducible rfl)
  try simp only [Act.put, List.setIfInBounds_toArray, List.set_cons_zero, List.set_cons_succ]
  refine takeB hfnR (by kernel_rfl) 12 (v := ?_) rfl (by kernel_rfl) (fun _ _ _ h => h) (by kernel_rfl) hCells (Or.inl ⟨by rfl, ?_⟩) ?_
  rotate_left 1
  · intro w hSw; (try dsimp only at hSw); go_simp; (try with_reducible rfl)
  try simp only [Act.put, List.setIfInBounds_toArray, List.set_cons_zero, List.set_cons_succ]
  refine wpAnyJ_done (by kernel_rfl) (NoPan.normal ?_) _
  clear hCells
  go_wp2_with fail
  have hX2 := HX2.out
  refine wp_region_J (fun _ => True) [] hm ?hCells0 (fun hCells => ?_)
  case hCells0 => exact trivial
  clear hX1 HX2
  generalize (w.alloc (.cells #[.int .i64 0] 24)).drew.drew = W2 at *
  refine takeB hfnR (by kernel_rfl) 0 (v := ?_) rfl (by kernel_rfl) (fun _ _ _ h => h) (by kernel_rfl) hCells (Or.inl ⟨by rfl, ?_⟩) ?_
  rotate_left 1
  · intro w hSw; (try dsimp only at hSw); go_simp; (try with_reducible rfl)
  try simp only [Act.put, List.setIfInBounds_toArray, List.set_cons_zero, List.set_cons_succ]
  refine oneJ 1 (by kernel_rfl) rfl (fun K hK => ?_)
  go_simp
  refine ⟨rfl, ?_⟩
  (refine (callsIn_wide.2 TC.out).mono ?_; rintro e w3 ⟨rfl, hb3⟩)
  refine hK.out _ _ (holdJ ?_ (fun hCells => ?_))
  · clear hK; (try dsimp only); (all_goals trivial)
  clear hK K
  try simp only [Act.put, List.setIfInBounds_toArray, List.set_cons_zero, List.set_cons_succ]
  refine takeB hfnR (by kernel_rfl) 2 (v := ?_) rfl (by kernel_rfl) (fun _ _ _ h => h) (by kernel_rfl) hCells (Or.inl ⟨by rfl, ?_⟩) ?_
  rotate_left 1
  · intro w hSw; (try dsimp only at hSw); go_simp; (try with_reducible rfl)
  try simp only [Act.put, List.setIfInBounds_toArray, List.set_cons_zero, List.set_cons_succ]
  refine takeB hfnR (by kernel_rfl) 3 (v := undef) rfl (by kernel_rfl) (fun _ _ _ h => h) (by kernel_rfl) hCells (Or.inr ⟨by rfl, rfl⟩) ?_
  try simp only [Act.put, List.setIfInBounds_toArray, List.set_cons_zero, List.set_cons_succ]
  refine takeB hfnR (by kernel_rfl) 4 (v := undef) rfl (by kernel_rfl) (fun _ _ _ h => h) (by kernel_rfl) hCells (Or.inr ⟨by rfl, rfl⟩) ?_
  try simp only [Act.put, List.setIfInBounds_toArray, List.set_cons_zero, List.set_cons_succ]
  refine takeB hfnR (by kernel_rfl) 5 (v := undef) rfl (by kernel_rfl) (fun _ _ _ h => h) (by kernel_rfl) hCells (Or.inr ⟨by rfl, rfl⟩) ?_
  try simp only [Act.put, List.setIfInBounds_toArray, List.set_cons_zero, List.set_cons_succ]
  refine takeB hfnR (by kernel_rfl) 6 (v := undef) rfl (by kernel_rfl) (fun _ _ _ h => h) (by kernel_rfl) hCells (Or.inr ⟨by rfl, rfl⟩) ?_
  try simp only [Act.put, List.setIfInBounds_toArray, List.set_cons_zero, List.set_cons_succ]
  refine takeB hfnR (by kernel_rfl) 7 (v := undef) rfl (by kernel_rfl) (fun _ _ _ h => h) (by kernel_rfl) hCells (Or.inr ⟨by rfl, rfl⟩) ?_
  try simp only [Act.put, List.setIfInBounds_toArray, List.set_cons_zero, List.set_cons_succ]
  refine takeB hfnR (by kernel_rfl) 8 (v := undef) rfl (by kernel_rfl) (fun _ _ _ h => h) (by kernel_rfl) hCells (Or.inr ⟨by rfl, rfl⟩) ?_
  try simp only [Act.put, List.setIfInBounds_toArray, List.set_cons_zero, List.set_cons_succ]
  refine takeB hfnR (by kernel_rfl) 9 (v := undef) rfl (by kernel_rfl) (fun _ _ _ h => h) (by kernel_rfl) hCells (Or.inr ⟨by rfl, rfl⟩) ?_
  try simp only [Act.put, List.setIfInBounds_toArray, List.set_cons_zero, List.set_cons_succ]
  refine takeB hfnR (by kernel_rfl) 10 (v := undef) rfl (by kernel_rfl) (fun _ _ _ h => h) (by kernel_rfl) hCells (Or.inr ⟨by rfl, rfl⟩) ?_
  try simp only [Act.put, List.setIfInBounds_toArray, List.set_cons_zero, List.set_cons_succ]
  refine takeB hfnR (by kernel_rfl) 11 (v := undef) rfl (by kernel_rfl) (fun _ _ _ h => h) (by kernel_rfl) hCells (Or.inr ⟨by rfl, rfl⟩) ?_
  try simp only [Act.put, List.setIfInBounds_toArray, List.set_cons_zero, List.set_cons_succ]
  refine takeB hfnR (by kernel_rfl) 12 (v := undef) rfl (by kernel_rfl) (fun _ _ _ h => h) (by kernel_rfl) hCells (Or.inr ⟨by rfl, rfl⟩) ?_
  try simp only [Act.put, List.setIfInBounds_toArray, List.set_cons_zero, List.set_cons_succ]
  refine takeB hfnR (by kernel_rfl) 13 (v := ?_) rfl (by kernel_rfl) (fun _ _ _ h => h) (by kernel_rfl) hCells (Or.inl ⟨by rfl, ?_⟩) ?_
  rotate_left 1
  · intro w hSw; (try dsimp only at hSw); go_simp; (try with_reducible rfl)
  try simp only [Act.put, List.setIfInBounds_toArray, List.set_cons_zero, List.set_cons_succ]
  refine wpAnyJ_done (by kernel_rfl) (NoPan.normal ?_) _
  have hX3 := hX2.pass hb3
  have HB3 := Lib.hid (HB2.out.trans (hb3.mono HB2.out.size))
  clear hb3 hX2
  have c0 : w3.cell? ⟨w.heap.size, 0, none⟩ = some (.int .i64 0) := hX3.cell 0
  have c1 := hX3.free 0
  go_wp2_with fail
  refine bodyPost_ret (results_s24 rfl rfl (hX3.set 0 (.int .i64 2))) rfl ?_
  exact ⟨rfl, HB3.out.setCell (by simp) _⟩
set_option maxRecDepth 100000 in
set_option maxHeartbeats 4000000 in
theorem curve_top (A : Option Addr) (c N : Nat) (L : List Bd) (w : World) (hr : RdB w A L) (hN : L.length = N + 1) (h1 : 1 ≤ N) (h63 : N ≤ 63) (hz : L.getD 0 .zero = zeroBd) (hZ : ZO w)
    (hany : anyN (fun k => !shortB (L.getD k .zero)) L.length = false) (htop : ¬ qy L N ≤ 1) :
    Calls Tryz.prog 22 #[.slice A (N + 1 : Nat) c] w fun e w' => e = .returned (.int .i64 2) ∧ Below w.heap.size w w' := by
  have hX1 := Blk.new w #[.int .i64 0] 24
  have HW1 := Lib.hid (below_alloc w (.cells #[.int .i64 0] 24))
  have HR := Lib.hid hr
  have HL := Lib.hid hN
  have TW := Lib.hid (fun W => within_any ((N : Int) + 1) 2 64 W)
  have e1 : (decide ((2 : Int) ≤ (N : Int) + 1) && decide ((N : Int) + 1 ≤ 64)) = true := by simp; omega
  rw [e1] at TW
  obtain ⟨b, off, rfl, hb, hcs⟩ := hr.2 (by omega)
  have hz0 := hcs 0 (by omega)
  have hzN := hcs N (by omega)
  rw [hz, Nat.zero_mul, Nat.add_zero] at hz0
  have g00 := hZ.1.1; have g01 := hZ.1.2; have g10 := hZ.2.1; have g11 := hZ.2.2
  obtain ⟨y, hy⟩ : ∃ y, y = L.getD N .zero := ⟨_, rfl⟩
  rw [← hy] at hzN
  have HY := Lib.hid hy
  obtain ⟨y1, y2, y3, y4⟩ := y
  have HX2 := Lib.hid (show Blk (w.alloc (.cells #[.int .i64 0] 24)).drew.drew w.heap.size #[.int .i64 0] 24 from hX1)
  have HB2 := Lib.hid (show Below w.heap.size w (w.alloc (.cells #[.int .i64 0] 24)).drew.drew from HW1.out.drew.drew)
  have TC := Lib.hid (contains_bend 54 #[] (some ⟨b, off, none⟩) c L (fun k => !shortB (L.getD k .zero)) _ (HR.out.below HB2.out (Nat.le_refl _)) (fun _ _ => rfl) (fun k W _ _ => curve1_any _ _ _ _ W))
  rw [hany, HL.out] at TC
  have TP := Lib.hid (fun W => compare_any y3 y4 ⟨#[49]⟩ ⟨#[49]⟩ W)
  have hrle : cmpS y3 y4 ⟨#[49]⟩ ⟨#[49]⟩ = 1 := by
    have hs : shortB (L.getD N .zero) = true := by
      have := anyN_false hany N (by rw [HL.out]; omega)
      simpa using this
    have hf := (shortB_fr hs).2.1
    rw [← HY.out] at hf
    have h1 : okQ 1 := ⟨by decide, Nat.lt_trans (by decide : (1 : Rat).num.natAbs < 9223372036854775808) pow19_lt, Nat.lt_trans (by decide : (1 : Rat).den < 9223372036854775808) pow19_lt⟩
    have e1 : (⟨#[49]⟩ : ByteArray) = qN 1 := by kernel_rfl
    have e2 : (⟨#[49]⟩ : ByteArray) = qD 1 := by kernel_rfl
    have h1f := h1.fr
    rw [← e1, ← e2] at h1f
    unfold qy at htop
    rw [← HY.out] at htop
    rw [cmpS_q hf h1f]
    exact cmpQ_gt (Rat.not_le.1 htop)
  rw [hrle] at TP
  have hNb : N ≤ 1000000000 := by omega
  have hwN : wrap64 (N : Int) = (N : Int) := by unfold wrap64; omega
  have hNN : (N : Int) < (N : Int) + 1 := by omega
  have hwI : IntKind.i64.wrap (N : Int) = (N : Int) := by simp [IntKind.wrap_i64]; omega
  clear htop hrle hcs hN hr hZ hz e1 hy hany
  go_enter Tryz.func22, Tryz.ntmps22
  go_wp2_with fail
  have hm : Tryz.prog.follows .mixedOrders = true := by kernel_rfl
  have hfnR : ∀ f, Fence.wide.fn f := fun _ => trivial
  have kc : ∀ {p v}, w.cell? p = some v → (w.alloc (.cells #[.int .i64 0] 24)).drew.cell? p = some v := fun h => pc HW1.out.drew h
  refine wp_region_J (fun W => ((W.cell? ⟨b, off, none⟩ = some (.string ⟨#[48]⟩) ∧ W.cell? ⟨b, off + 1, none⟩ = some (.string ⟨#[49]⟩)) ∧ (W.cell? ⟨b, off + 2, none⟩ = some (.string ⟨#[48]⟩) ∧ W.cell? ⟨b, off + 3, none⟩ = some (.string ⟨#[49]⟩))) ∧ W.cell? ⟨0, 0, none⟩ = some (.string ⟨#[48]⟩) ∧ W.cell? ⟨0, 1, none⟩ = some (.string ⟨#[49]⟩)) [] hm ?hCells0 (fun hCells => ?_)
  case hCells0 => exact ⟨⟨⟨kc hz0.1.1, kc hz0.1.2⟩, kc hz0.2.1, kc hz0.2.2⟩, kc g00, kc g01⟩
  clear hz0 g00 g01 kc
  refine takeB hfnR (by kernel_rfl) 0 (v := ?_) rfl (by kernel_rfl) (fun _ _ _ h => h) (by kernel_rfl) hCells (Or.inl ⟨by rfl, ?_⟩) ?_
  rotate_left 1
  · intro w hSw; (try dsimp only at hSw); go_simp; (try with_reducible rfl)
  try simp only [Act.put, List.setIfInBounds_toArray, List.set_cons_zero, List.set_cons_succ]
  refine takeB hfnR (by kernel_rfl) 1 (v := ?_) rfl (by kernel_rfl) (fun _ _ _ h => h) (by kernel_rfl) hCells (Or.inl ⟨by rfl, ?_⟩) ?_
  rotate_left 1
  · intro w hSw; (try dsimp only at hSw); go_simp; (try with_reducible rfl)
  try simp only [Act.put, List.setIfInBounds_toArray, List.set_cons_zero, List.set_cons_succ]
  refine oneJ 2 (by kernel_rfl) rfl (fun K hK => ?_)
  go_simp
  refine ⟨rfl, ?_⟩
  (refine (callsIn_wide.2 (TW.out _)).mono ?_; rintro e w2 ⟨rfl, rfl⟩)
  refine hK.out _ _ (holdJ ?_ (fun hCells => ?_))
  · clear hK; (try dsimp only); (exact hCells)
  clear hK K
  try simp only [Act.put, List.setIfInBounds_toArray, List.set_cons_zero, List.set_cons_succ]
  refine takeB hfnR (by kernel_rfl) 3 (v := ?_) rfl (by kernel_rfl) (fun _ _ _ h => h) (by kernel_rfl) hCells (Or.inl ⟨by rfl, ?_⟩) ?_
  rotate_left 1
  · intro w hSw; (try dsimp only at hSw); go_simp; (try with_reducible rfl)
  try simp only [Act.put, List.setIfInBounds_toArray, List.set_cons_zero, List.set_cons_succ]
  refine takeB hfnR (by kernel_rfl) 4 (v := ?_) rfl (by kernel_rfl) (fun _ _ _ h => h) (by kernel_rfl) hCells (Or.inl ⟨by rfl, ?_⟩) ?_
  rotate_left 1
  · intro w hSw; (try dsimp only at hSw); go_simp; (try with_reducible rfl)
  try simp only [Act.put, List.setIfInBounds_toArray, List.set_cons_zero, List.set_cons_succ]
  refine takeB hfnR (by kernel_rfl) 5 (v := ?_) rfl (by kernel_rfl) (fun _ _ _ h => h) (by kernel_rfl) hCells (Or.inl ⟨by rfl, ?_⟩) ?_
  rotate_left 1
  · intro w hSw; (try dsimp only at hSw); go_simp; (try with_reducible rfl)
  try simp only [Act.put, List.setIfInBounds_toArray, List.set_cons_zero, List.set_cons_succ]
  refine takeB hfnR (by kernel_rfl) 6 (v := ?_) rfl (by kernel_rfl) (fun _ _ _ h => h) (by kernel_rfl) hCells (Or.inl ⟨by rfl, ?_⟩) ?_
  rotate_left 1
  · intro w hSw; (try dsimp only at hSw); go_simp; (try with_reducible rfl)
  try simp only [Act.put, List.setIfInBounds_toArray, List.set_cons_zero, List.set_cons_succ]
  refine takeB hfnR (by kernel_rfl) 7 (v := ?_) rfl (by kernel_rfl) (fun _ _ _ h => h) (by kernel_rfl) hCells (Or.inl ⟨by rfl, ?_⟩) ?_
  rotate_left 1
  · intro w hSw; (try dsimp only at hSw); go_simp; (try with_reducible rfl)
  try simp only [Act.put, List.setIfInBounds_toArray, List.set_cons_zero, List.set_cons_succ]
  refine takeB hfnR (by kernel_rfl) 8 (v := ?_) rfl (by kernel_rfl) (fun _ _ _ h => h) (by kernel_rfl) hCells (Or.inl ⟨by rfl, ?_⟩) ?_
  rotate_left 1
  · intro w hSw; (try dsimp only at hSw); go_simp; (try with_reducible rfl)
  try simp only [Act.put, List.setIfInBounds_toArray, List.set_cons_zero, List.set_cons_succ]
  refine takeB hfnR (by kernel_rfl) 9 (v := ?_) rfl (by kernel_rfl) (fun _ _ _ h => h) (by kernel_rfl) hCells (Or.inl ⟨by rfl, ?_⟩) ?_
  rotate_left 1
  · intro w hSw; (try dsimp only at hSw); go_simp; (try with_reducible rfl)
  try simp only [Act.put, List.setIfInBounds_toArray, List.set_cons_zero, List.set_cons_succ]
  refine takeB hfnR (by kernel_rfl) 10 (v := ?_) rfl (by kernel_rfl) (fun _ _ _ h => h) (by kernel_rfl) hCells (Or.inl ⟨by rfl, ?_⟩) ?_
  rotate_left 1
  · intro w hSw; (try dsimp only at hSw); go_simp; (try with_reducible rfl)
  try simp only [Act.put, List.setIfInBounds_toArray, List.set_cons_zero, List.set_cons_succ]
  refine takeB hfnR (by kernel_rfl) 11 (v := ?_) rfl (by kernel_rfl) (fun _ _ _ h => h) (by kernel_rfl) hCells (Or.inl ⟨by rfl, ?_⟩) ?_
  rotate_left 1
  · intro w hSw; (try dsimp only at hSw); go_simp; (try with_reducible rfl)
  try simp only [Act.put, List.setIfInBounds_toArray, List.set_cons_zero, List.set_cons_succ]
  refine takeB hfnR (by kernel_rfl) 12 (v := ?_) rfl (by kernel_rfl) (fun _ _ _ h => h) (by kernel_rfl) hCells (Or.inl ⟨by rfl, ?_⟩) ?_
  rotate_left 1
  · intro w hSw; (try dsimp only at hSw); go_simp; (try with_reducible rfl)
  try simp only [Act.put, List.setIfInBounds_toArray, List.set_cons_zero, List.set_cons_succ]
  refine wpAnyJ_done (by kernel_rfl) (NoPan.normal ?_) _
  clear hCells
  go_wp2_with fail
  have hX2 := HX2.out
  have kc : ∀ {p v}, w.cell? p = some v → (w.alloc (.cells #[.int .i64 0] 24)).drew.drew.cell? p = some v := fun h => pc HB2.out h
  refine wp_region_J (fun W => (W.cell? ⟨b, off + N * 4 + 2, none⟩ = some (.string y3) ∧ W.cell? ⟨b, off + N * 4 + 3, none⟩ = some (.string y4)) ∧ W.cell? ⟨1, 0, none⟩ = some (.string ⟨#[49]⟩) ∧ W.cell? ⟨1, 1, none⟩ = some (.string ⟨#[49]⟩)) [] hm ?hCells0 (fun hCells => ?_)
  case hCells0 => exact ⟨⟨kc hzN.2.1, kc hzN.2.2⟩, kc g10, kc g11⟩
  clear hX1 HX2 kc hzN g10 g11
  generalize (w.alloc (.cells #[.int .i64 0] 24)).drew.drew = W2 at *
  refine takeB hfnR (by kernel_rfl) 0 (v := ?_) rfl (by kernel_rfl) (fun _ _ _ h => h) (by kernel_rfl) hCells (Or.inl ⟨by rfl, ?_⟩) ?_
  rotate_left 1
  · intro w hSw; (try dsimp only at hSw); go_simp; (try with_reducible rfl)
  try simp only [Act.put, List.setIfInBounds_toArray, List.set_cons_zero, List.set_cons_succ]
  refine oneJ 1 (by kernel_rfl) rfl (fun K hK => ?_)
  go_simp
  refine ⟨rfl, ?_⟩
  (refine (callsIn_wide.2 TC.out).mono ?_; rintro e w3 ⟨rfl, hb3⟩)
  refine hK.out _ _ (holdJ ?_ (fun hCells => ?_))
  · clear hK; (try dsimp only); (exact ⟨⟨pc hb3 hCells.1.1, pc hb3 hCells.1.2⟩, pc hb3 hCells.2.1, pc hb3 hCells.2.2⟩)
  clear hK K
  try simp only [Act.put, List.setIfInBounds_toArray, List.set_cons_zero, List.set_cons_succ]
  refine takeB hfnR (by kernel_rfl) 2 (v := ?_) rfl (by kernel_rfl) (fun _ _ _ h => h) (by kernel_rfl) hCells (Or.inl ⟨by rfl, ?_⟩) ?_
  rotate_left 1
  · intro w hSw; (try dsimp only at hSw); go_simp; (try with_reducible rfl)
  try simp only [Act.put, List.setIfInBounds_toArray, List.set_cons_zero, List.set_cons_succ]
  refine takeB hfnR (by kernel_rfl) 3 (v := ?_) rfl (by kernel_rfl) (fun _ _ _ h => h) (by kernel_rfl) hCells (Or.inl ⟨by rfl, ?_⟩) ?_
  rotate_left 1
  · intro w hSw; (try dsimp only at hSw); go_simp; (try with_reducible rfl)
  try simp only [Act.put, List.setIfInBounds_toArray, List.set_cons_zero, List.set_cons_succ]
  refine takeB hfnR (by kernel_rfl) 4 (v := ?_) rfl (by kernel_rfl) (fun _ _ _ h => h) (by kernel_rfl) hCells (Or.inl ⟨by rfl, ?_⟩) ?_
  rotate_left 1
  · intro w hSw; (try dsimp only at hSw); go_simp; (try with_reducible rfl)
  try simp only [Act.put, List.setIfInBounds_toArray, List.set_cons_zero, List.set_cons_succ]
  refine takeB hfnR (by kernel_rfl) 5 (v := ?_) rfl (by kernel_rfl) (fun _ _ _ h => h) (by kernel_rfl) hCells (Or.inl ⟨by rfl, ?_⟩) ?_
  rotate_left 1
  · intro w hSw; (try dsimp only at hSw); go_simp; (try with_reducible rfl)
  try simp only [Act.put, List.setIfInBounds_toArray, List.set_cons_zero, List.set_cons_succ]
  refine takeB hfnR (by kernel_rfl) 6 (v := ?_) rfl (by kernel_rfl) (fun _ _ _ h => h) (by kernel_rfl) hCells (Or.inl ⟨by rfl, ?_⟩) ?_
  rotate_left 1
  · intro w hSw; (try dsimp only at hSw); go_simp; (try with_reducible rfl)
  try simp only [Act.put, List.setIfInBounds_toArray, List.set_cons_zero, List.set_cons_succ]
  refine takeB hfnR (by kernel_rfl) 7 (v := ?_) rfl (by kernel_rfl) (fun _ _ _ h => h) (by kernel_rfl) hCells (Or.inl ⟨by rfl, ?_⟩) ?_
  rotate_left 1
  · intro w hSw; (try dsimp only at hSw); go_simp; (try with_reducible rfl)
  try simp only [Act.put, List.setIfInBounds_toArray, List.set_cons_zero, List.set_cons_succ]
  refine takeB hfnR (by kernel_rfl) 8 (v := ?_) rfl (by kernel_rfl) (fun _ _ _ h => h) (by kernel_rfl) hCells (Or.inl ⟨by rfl, ?_⟩) ?_
  rotate_left 1
  · intro w hSw; (try dsimp only at hSw); go_simp; (try with_reducible rfl)
  try simp only [Act.put, List.setIfInBounds_toArray, List.set_cons_zero, List.set_cons_succ]
  refine takeB hfnR (by kernel_rfl) 9 (v := ?_) rfl (by kernel_rfl) (fun _ _ _ h => h) (by kernel_rfl) hCells (Or.inl ⟨by rfl, ?_⟩) ?_
  rotate_left 1
  · intro w hSw; (try dsimp only at hSw); go_simp; (try with_reducible rfl)
  try simp only [Act.put, List.setIfInBounds_toArray, List.set_cons_zero, List.set_cons_succ]
  refine takeB hfnR (by kernel_rfl) 10 (v := ?_) rfl (by kernel_rfl) (fun _ _ _ h => h) (by kernel_rfl) hCells (Or.inl ⟨by rfl, ?_⟩) ?_
  rotate_left 1
  · intro w hSw; (try dsimp only at hSw); go_simp; (try with_reducible rfl)
  try simp only [Act.put, List.setIfInBounds_toArray, List.set_cons_zero, List.set_cons_succ]
  refine oneJ 11 (by kernel_rfl) rfl (fun K hK => ?_)
  go_simp
  refine ⟨rfl, ?_⟩
  (refine (callsIn_wide.2 (TP.out _)).mono ?_; rintro e w4 ⟨rfl, hb4⟩)
  refine hK.out _ _ (holdJ ?_ (fun hCells => ?_))
  · clear hK; (try dsimp only); (exact ⟨⟨pc hb4 hCells.1.1, pc hb4 hCells.1.2⟩, pc hb4 hCells.2.1, pc hb4 hCells.2.2⟩)
  clear hK K
  try simp only [Act.put, List.setIfInBounds_toArray, List.set_cons_zero, List.set_cons_succ]
  refine takeB hfnR (by kernel_rfl) 12 (v := ?_) rfl (by kernel_rfl) (fun _ _ _ h => h) (by kernel_rfl) hCells (Or.inl ⟨by rfl, ?_⟩) ?_
  rotate_left 1
  · intro w hSw; (try dsimp only at hSw); go_simp; (try with_reducible rfl)
  try simp only [Act.put, List.setIfInBounds_toArray, List.set_cons_zero, List.set_cons_succ]
  refine takeB hfnR (by kernel_rfl) 13 (v := ?_) rfl (by kernel_rfl) (fun _ _ _ h => h) (by kernel_rfl) hCells (Or.inl ⟨by rfl, ?_⟩) ?_
  rotate_left 1
  · intro w hSw; (try dsimp only at hSw); go_simp; (try with_reducible rfl)
  try simp only [Act.put, List.setIfInBounds_toArray, List.set_cons_zero, List.set_cons_succ]
  refine wpAnyJ_done (by kernel_rfl) (NoPan.normal ?_) _
  have hX4 := (hX2.pass hb3).pass hb4
  have HB4 := Lib.hid ((HB2.out.trans (hb3.mono HB2.out.size)).trans (hb4.mono (Nat.le_trans HB2.out.size hb3.size)))
  clear hCells hb3 hb4 hX2
  have c0 : w4.cell? ⟨w.heap.size, 0, none⟩ = some (.int .i64 0) := hX4.cell 0
  have c1 := hX4.free 0
  go_wp2_with fail
  refine bodyPost_ret (results_s24 rfl rfl (hX4.set 0 (.int .i64 2))) rfl ?_
  exact ⟨rfl, HB4.out.setCell (by simp) _⟩
/-- 'detect.CheckCurve'. -/
theorem checkCurve_any (A : Option Addr) (c : Nat) (L : List Bd) (w : World) (hr : RdB w A L) (hc : L.length ≤ c) (hT : TabW w) (hZ : ZO w) :
    Calls Tryz.prog 22 #[.slice A L.length c] w fun e w' => ((e = .returned (.int .i64 0) ∧ ∃ N, CurveP L N) ∨ (e = .returned (.int .i64 2) ∧ ∀ N, ¬ CurveP L N)) ∧ Below w.heap.size w w' := by
  have bad : (∀ N, ¬ CurveP L N) → (Calls Tryz.prog 22 #[.slice A L.length c] w fun e w' => e = .returned (.int .i64 2) ∧ Below w.heap.size w w') →
      Calls Tryz.prog 22 #[.slice A L.length c] w fun e w' => ((e = .returned (.int .i64 0) ∧ ∃ N, CurveP L N) ∨ (e = .returned (.int .i64 2) ∧ ∀ N, ¬ CurveP L N)) ∧ Below w.heap.size w w' :=
    fun h k => k.mono fun e w' ⟨h1, h2⟩ => ⟨.inr ⟨h1, h⟩, h2⟩
  by_cases hl : 2 ≤ L.length ∧ L.length ≤ 64
  · obtain ⟨N, hN⟩ : ∃ N, L.length = N + 1 := ⟨L.length - 1, by omega⟩
    have hun : ∀ M, CurveP L M → M = N := fun M h => by have := h.len; omega
    by_cases hz : L.getD 0 .zero = zeroBd
    · cases hany : anyN (fun k => !shortB (L.getD k .zero)) L.length with
      | true =>
        refine bad (fun M h => ?_) (by rw [hN]; exact curve_short A c N L w hr hN (by omega) (by omega) hz hZ hany)
        obtain ⟨k, hk, hk2⟩ := List.any_eq_true.1 hany
        rw [List.mem_range, h.len] at hk
        rw [h.sh k (by omega)] at hk2
        cases hk2
      | false =>
        by_cases ht : qy L N ≤ 1
        · rw [hN]
          refine (callsIn_wide (n := 5)).1 ((curve_good 5 (Nat.le_refl _) A c N L w hr hN (by omega) (by omega) (by omega) hz (fun k hk => by have := anyN_false hany k (by omega); simpa using this) ht hT hZ).mono ?_)
          rintro e w' ⟨⟨h1, h2⟩ | ⟨h1, h2⟩, h3⟩
          · exact ⟨.inl ⟨h1, N, h2⟩, h3⟩
          · exact ⟨.inr ⟨h1, fun M h => by have := hun M h; subst this; exact h2 h⟩, h3⟩
        · exact bad (fun M h => by have := hun M h; subst this; exact ht h.top) (by rw [hN]; exact curve_top A c N L w hr hN (by omega) (by omega) hz hZ hany ht)
    · exact bad (fun M h => hz h.zero) (curve_zero A c L w hr hl hz hZ)
  · exact bad (fun M h => hl (by have := h.len; have := h.pos; have := h.most; omega)) (curve_len A c L w hr.1 hl)
end Go.Proofs.Cr
namespace Go.Proofs.Cr
theorem along_ok {L : List Bd} {N i : Nat} {q : Rat} (h : CurveP L N) (hi : i < N) (hq : okQ q) (hs : sm 300 q) (hx : qx L i ≤ q) : AlongOK (qx L i) (qx L (i + 1)) (qy L i) (qy L (i + 1)) q := by
  have hr := rise_ok (h.sh i (by omega)) (h.sh (i + 1) (by omega)) (h.up i hi).1 (h.up i hi).2
  obtain ⟨⟨f1, s1⟩, f2, s2⟩ := shortB_fr (h.sh i (by omega))
  obtain ⟨⟨f3, s3⟩, f4, s4⟩ := shortB_fr (h.sh (i + 1) (by omega))
  have m1 : sm 36 (qy L (i + 1) - qy L i) := sm.sub s4 s2 f4.1 f2.1
  have m2 : sm 36 (qx L (i + 1) - qx L i) := sm.sub s3 s1 f3.1 f1.1
  have m3 : sm 72 ((qy L (i + 1) - qy L i) / (qx L (i + 1) - qx L i)) := sm.div m1 m2 hr.s2.1 hr.n2
  have m4 : sm 318 (q - qx L i) := sm.sub hs s1 hq.1 f1.1
  have d4 : 0 ≤ q - qx L i := by grind
  have m5 : sm 390 ((qy L (i + 1) - qy L i) / (qx L (i + 1) - qx L i) * (q - qx L i)) := sm.mul m3 m4
  have d5 : 0 ≤ (qy L (i + 1) - qy L i) / (qx L (i + 1) - qx L i) * (q - qx L i) := Rat.mul_nonneg hr.s3.1 d4
  have m6 : sm 409 (qy L i + (qy L (i + 1) - qy L i) / (qx L (i + 1) - qx L i) * (q - qx L i)) := sm.add s2 m5 f2.1 d5
  exact ⟨hr.hx, hr.hy, hr.hu, hr.hv, hq, hr.s1, hr.s2, hr.n2, hr.s3, m4.ok (by decide) d4, m5.ok (by decide) d5, m6.ok (by decide) (by have := f2.1; unfold qy at *; grind)⟩
/-- The line through a piece. -/
def lineQ (L : List Bd) (i : Nat) (q : Rat) : Rat := qy L i + (qy L (i + 1) - qy L i) / (qx L (i + 1) - qx L i) * (q - qx L i)
/-- The chance of a coverage. -/
def ChanceR (L : List Bd) (N : Nat) (q r : Rat) : Prop := (∃ i, i < N ∧ qx L i ≤ q ∧ q < qx L (i + 1) ∧ r = lineQ L i q) ∨ (qx L N ≤ q ∧ r = qy L N)
theorem qx_zero {L : List Bd} {N : Nat} (h : CurveP L N) : qx L 0 = 0 ∧ qy L 0 = 0 := by
  unfold qx qy
  rw [h.zero]
  have e1 : (⟨#[48]⟩ : ByteArray) = numB (0 : Rat).num.natAbs := by kernel_rfl
  have e2 : (⟨#[49]⟩ : ByteArray) = numB (0 : Rat).den := by kernel_rfl
  have hf : Fr ⟨#[48]⟩ ⟨#[49]⟩ 0 := ⟨by decide, Nat.lt_trans (by decide : (0 : Rat).num.natAbs < 9223372036854775808) pow19_lt, Nat.lt_trans (by decide : (0 : Rat).den < 9223372036854775808) pow19_lt, e1, e2⟩
  exact ⟨hf.qv, hf.qv⟩
end Go.Proofs.Cr
namespace Go.Proofs.Cr
open Go.RowKit Go.Shelf
attribute [local go_sem] Oper.semAt_some

set_option maxRecDepth 100000 in
set_option maxHeartbeats 1000000 in
/-- 'detect.right'. -/
theorem right2_any (A A2 : Option Addr) (c c2 : Nat) (L : List Bd) (P : List (ByteArray × ByteArray)) (w : World) (hr : RdB w A L) (hc : L.length ≤ c) (hp : RdP w A2 P) (hT : TabW w) (hZ : ZO w) :
    Calls Tryz.prog 67 #[.slice A L.length c, .slice A2 P.length c2] w fun e w' => ((e = .returned (.int .i64 0) ∧ (∃ N, CurveP L N) ∧ shortL 300 P = true) ∨ (e = .returned (.int .i64 2) ∧ ¬ ((∃ N, CurveP L N) ∧ shortL 300 P = true))) ∧ Below w.heap.size w w' := by
  have TC := Lib.hid (checkCurve_any A c L w hr hc hT hZ)
  have HP := Lib.hid hp
  clear hr hT hZ hp
  generalize L.length = N at *
  go_enter Tryz.func67, Tryz.ntmps67
  go_wp2_with fail
  refine TC.out.mono ?_
  rintro e w2 ⟨⟨rfl, h1⟩ | ⟨rfl, h1⟩, hb2⟩
  · have H1 := Lib.hid h1
    have TS := Lib.hid (shortL_any 300 A2 c2 P w2 (HP.out.below hb2 (Nat.le_refl _)))
    have HB2 := Lib.hid hb2
    obtain ⟨t, ht⟩ : ∃ t, t = shortL 300 P := ⟨_, rfl⟩
    rw [← ht] at TS
    have HT := Lib.hid ht
    clear h1 hb2 ht
    go_wp2_with fail
    refine TS.out.mono ?_
    rintro e w3 ⟨rfl, hb3⟩
    have HB3 := Lib.hid (HB2.out.trans (hb3.mono HB2.out.size))
    clear hb3
    cases t with
    | true =>
      go_wp2_with fail
      go_ret
      exact ⟨.inl ⟨rfl, H1.out, HT.out.symm⟩, HB3.out⟩
    | false =>
      go_wp2_with fail
      go_ret
      exact ⟨.inr ⟨rfl, fun h => by rw [← HT.out] at h; cases h.2⟩, HB3.out⟩
  · have H1 := Lib.hid h1
    clear h1
    go_wp2_with fail
    go_ret
    exact ⟨.inr ⟨rfl, fun h => by obtain ⟨⟨N, hN⟩, _⟩ := h; exact H1.out N hN⟩, hb2⟩
theorem bval_q {L : List Bd} {N i : Nat} (h : CurveP L N) (hi : i ≤ N) : bval (L.getD i .zero) = .agg #[.string (qN (qx L i)), .string (qD (qx L i)), .string (qN (qy L i)), .string (qD (qy L i))] := by
  obtain ⟨⟨f1, _⟩, f2, _⟩ := shortB_fr (h.sh i hi)
  have o1 := f1.ok; have o2 := f2.ok
  unfold bval
  have e1 : (L.getD i .zero).cn = qN (qx L i) := o1.2.1
  have e2 : (L.getD i .zero).cd = qD (qx L i) := o1.2.2
  have e3 : (L.getD i .zero).hn = qN (qy L i) := o2.2.1
  have e4 : (L.getD i .zero).hd = qD (qy L i) := o2.2.2
  rw [e1, e2, e3, e4]
theorem t_q {L : List Bd} {N k : Nat} (h : CurveP L N) (hk : k < N) {q : Rat} (hq : okQ q) : decide (cmpS (qN q) (qD q) (L.getD (k + 1) .zero).cn (L.getD (k + 1) .zero).cd < 0) = decide (q < qx L (k + 1)) := by
  obtain ⟨⟨f1, _⟩, _⟩ := shortB_fr (h.sh (k + 1) (by omega))
  rw [cmpS_q hq.fr f1]
  show decide ((if q < qx L (k + 1) then (-1 : Int) else if qx L (k + 1) < q then 1 else 0) < 0) = _
  by_cases hl : q < qx L (k + 1)
  · rw [if_pos hl]; simp [hl]
  · rw [if_neg hl]
    split <;> simp [hl]
/-- What 'piece' answers, in values. -/
def PieceQ (L : List Bd) (N : Nat) (q : Rat) (i j : Nat) (f : Bool) : Prop := (f = true ∧ i < N ∧ j = i + 1 ∧ qx L i ≤ q ∧ q < qx L (i + 1)) ∨ (f = false ∧ i = N ∧ j = N ∧ qx L N ≤ q)
theorem pieceQ_of {L : List Bd} {N i j : Nat} {f : Bool} {q : Rat} (h : CurveP L N) (hq : okQ q)
    (ht : firstT (fun k => decide (cmpS (qN q) (qD q) (L.getD (k + 1) .zero).cn (L.getD (k + 1) .zero).cd < 0)) N i j f) : PieceQ L N q i j f := by
  have low : ∀ m, m ≤ N → (∀ k, k < m → decide (cmpS (qN q) (qD q) (L.getD (k + 1) .zero).cn (L.getD (k + 1) .zero).cd < 0) = false) → qx L m ≤ q := fun m hm hk => by
    cases m with
    | zero => rw [(qx_zero h).1]; exact hq.1
    | succ m =>
      have := hk m (by omega)
      rw [t_q h (by omega) hq] at this
      exact Rat.not_lt.1 (of_decide_eq_false this)
  rcases ht with ⟨h1, h2, h3, h4, h5⟩ | ⟨h1, h2, h3, h4⟩
  · refine .inl ⟨h1, h2, h3, low i (by omega) h5, ?_⟩
    have h4 : decide (cmpS (qN q) (qD q) (L.getD (i + 1) .zero).cn (L.getD (i + 1) .zero).cd < 0) = true := h4
    rw [t_q h h2 hq] at h4
    exact of_decide_eq_true h4
  · exact .inr ⟨h1, h2, h3, low N (Nat.le_refl _) h4⟩
theorem piece_q (A : Option Addr) (c N : Nat) (L : List Bd) (q : Rat) (w : World) (hr : RdB w A L) (h : CurveP L N) (hc : N + 1 ≤ c) (hq : okQ q) :
    Calls Tryz.prog 85 #[.slice A (N + 1 : Nat) c, .agg #[.string (qN q), .string (qD q)]] w fun e w' => ∃ i j f, e = .returned (.tuple #[.agg #[.string (qN (qx L i)), .string (qD (qx L i)), .string (qN (qy L i)), .string (qD (qy L i))], .agg #[.string (qN (qx L j)), .string (qD (qx L j)), .string (qN (qy L j)), .string (qD (qy L j))], .bool f]) ∧ PieceQ L N q i j f ∧ Below w.heap.size w w' := by
  refine (callsIn_wide (n := 5)).1 ((piece_in wide_wide 5 (Nat.le_refl _) A c N L (qN q) (qD q) w hr h.len h.pos hc).mono ?_)
  rintro e w' ⟨i, j, f, rfl, ht, hb⟩
  have hi : i ≤ N ∧ j ≤ N := by rcases ht with ⟨_, _, _, _⟩ | ⟨_, _, _, _⟩ <;> omega
  exact ⟨i, j, f, by rw [bval_q h hi.1, bval_q h hi.2], pieceQ_of h hq ht, hb⟩
set_option maxRecDepth 100000 in
set_option maxHeartbeats 2000000 in
/-- 'detect.chance'. -/
theorem chance_any (A : Option Addr) (c N : Nat) (L : List Bd) (q : Rat) (w : World) (hr : RdB w A L) (h : CurveP L N) (hc : N + 1 ≤ c) (hq : okQ q) (hs : sm 300 q) (hT : TabW w) :
    Calls Tryz.prog 70 #[.slice A (N + 1 : Nat) c, .agg #[.string (qN q), .string (qD q)]] w fun e w' => ∃ r, e = .returned (.agg #[.string (qN r), .string (qD r)]) ∧ ChanceR L N q r ∧ okQ r ∧ Below w.heap.size w w' := by
  obtain ⟨hA1, hR1, hW1⟩ := two_new w #[.string (qN q), .string (qD q)] #[.string ⟨#[]⟩, .string ⟨#[]⟩] 46 46
  have HW1 := Lib.hid hW1
  have TP := Lib.hid (piece_q A c N L q _ (hr.below hW1 (Nat.le_refl _)) h hc hq)
  have H := Lib.hid (And.intro h (And.intro hq (And.intro hs hT)))
  obtain ⟨⟨x0, x1⟩, _, _⟩ := hA1.two
  clear hW1 hr h hq hs hT
  go_enter Tryz.func70, Tryz.ntmps70
  go_wp2_with fail
  refine TP.out.mono ?_
  rintro e w2 ⟨i, j, f, rfl, hp, hb2⟩
  have HP := Lib.hid hp
  have hA2 := hA1.pass hb2
  have hR2 := hR1.pass hb2
  have HB2 := Lib.hid (HW1.out.trans (hb2.mono HW1.out.size))
  clear hp hb2 hA1 hR1 x0 x1
  have hA3 := (hA2.alloc (.cells #[.string (qN (qx L i)), .string (qD (qx L i)), .string (qN (qy L i)), .string (qD (qy L i))] 56)).alloc (.cells #[.string (qN (qx L j)), .string (qD (qx L j)), .string (qN (qy L j)), .string (qD (qy L j))] 56)
  have hR3 := (hR2.alloc (.cells #[.string (qN (qx L i)), .string (qD (qx L i)), .string (qN (qy L i)), .string (qD (qy L i))] 56)).alloc (.cells #[.string (qN (qx L j)), .string (qD (qx L j)), .string (qN (qy L j)), .string (qD (qy L j))] 56)
  have hB3 : Below w2.heap.size w2 ((w2.alloc (.cells #[.string (qN (qx L i)), .string (qD (qx L i)), .string (qN (qy L i)), .string (qD (qy L i))] 56)).alloc (.cells #[.string (qN (qx L j)), .string (qD (qx L j)), .string (qN (qy L j)), .string (qD (qy L j))] 56)) := ((Below.refl _ w2).alloc (Nat.le_refl _) _).alloc (by simp) _
  have HB3 := Lib.hid (HB2.out.trans (hB3.mono HB2.out.size))
  have hI3 : Blk ((w2.alloc (.cells #[.string (qN (qx L i)), .string (qD (qx L i)), .string (qN (qy L i)), .string (qD (qy L i))] 56)).alloc (.cells #[.string (qN (qx L j)), .string (qD (qx L j)), .string (qN (qy L j)), .string (qD (qy L j))] 56)) w2.heap.size #[.string (qN (qx L i)), .string (qD (qx L i)), .string (qN (qy L i)), .string (qD (qy L i))] 56 := (Blk.new w2 _ 56).alloc _
  have hJ3 : Blk ((w2.alloc (.cells #[.string (qN (qx L i)), .string (qD (qx L i)), .string (qN (qy L i)), .string (qD (qy L i))] 56)).alloc (.cells #[.string (qN (qx L j)), .string (qD (qx L j)), .string (qN (qy L j)), .string (qD (qy L j))] 56)) (w2.heap.size + 1) #[.string (qN (qx L j)), .string (qD (qx L j)), .string (qN (qy L j)), .string (qD (qy L j))] 56 := by
    have := Blk.new (w2.alloc (.cells #[.string (qN (qx L i)), .string (qD (qx L i)), .string (qN (qy L i)), .string (qD (qy L i))] 56)) #[.string (qN (qx L j)), .string (qD (qx L j)), .string (qN (qy L j)), .string (qD (qy L j))] 56
    rwa [World.size_alloc] at this
  clear hB3 hA2 hR2
  obtain ⟨⟨x0, x1⟩, _, _⟩ := hA3.two
  obtain ⟨⟨r0, r1⟩, f0, f1⟩ := hR3.two
  obtain ⟨⟨i0, i1⟩, i2, i3⟩ := hI3.four
  obtain ⟨⟨j0, j1⟩, j2, j3⟩ := hJ3.four
  cases f with
  | true =>
    have HI := Lib.hid (show i < N ∧ j = i + 1 ∧ qx L i ≤ q ∧ q < qx L (i + 1) by rcases HP.out with ⟨_, h⟩ | ⟨h, _⟩; exact h; cases h)
    have TG := Lib.hid (along_q (qx L i) (qx L (i + 1)) (qy L i) (qy L (i + 1)) q (along_ok H.out.1 HI.out.1 H.out.2.1 H.out.2.2.1 HI.out.2.2.1) _ (H.out.2.2.2.below HB3.out (Nat.le_refl _)))
    rw [← HI.out.2.1] at TG
    go_wp2_with fail
    refine TG.out.mono ?_
    rintro e w4 ⟨rfl, hb4⟩
    have hR4 := hR3.pass hb4
    have HB4 := Lib.hid (HB3.out.trans (hb4.mono HB3.out.size))
    clear hb4 hR3 hA3 x0 x1 r0 r1 f0 f1 i0 i1 i2 i3 j0 j1 j2 j3 hI3 hJ3
    obtain ⟨⟨r0, r1⟩, f0, f1⟩ := hR4.two
    go_wp2_with fail
    refine bodyPost_ret (results_c1 (g := w.heap.size + 1) rfl rfl ((hR4.set 0 _).set 1 _) Tryz.underlying46 rfl (by kernel_rfl)) rfl ?_
    refine ⟨qy L i + (qy L j - qy L i) / (qx L j - qx L i) * (q - qx L i), by simp, .inl ⟨i, HI.out.1, HI.out.2.2.1, HI.out.2.2.2, by unfold lineQ; rw [← HI.out.2.1]⟩, ?_, (HB4.out.setCell (by simp) _).setCell (by simp) _⟩
    have := (along_ok H.out.1 HI.out.1 H.out.2.1 H.out.2.2.1 HI.out.2.2.1).s6
    rw [← HI.out.2.1] at this
    exact this
  | false =>
    have HI := Lib.hid (show i = N ∧ qx L N ≤ q by rcases HP.out with ⟨h, _⟩ | ⟨_, h1, _, h2⟩; cases h; exact ⟨h1, h2⟩)
    go_wp2_with fail
    refine bodyPost_ret (results_c1 (g := w.heap.size + 1) rfl rfl ((hR3.set 0 (.string (qN (qy L i)))).set 1 (.string (qD (qy L i)))) Tryz.underlying46 rfl (by kernel_rfl)) rfl ?_
    refine ⟨qy L i, by simp, .inr ⟨HI.out.2, by rw [HI.out.1]⟩, ?_, (HB3.out.setCell (by simp) _).setCell (by simp) _⟩
    obtain ⟨_, f2, _⟩ := shortB_fr (H.out.1.sh i (by rw [HI.out.1]; exact Nat.le_refl _))
    exact f2.ok.1
end Go.Proofs.Cr
namespace Go.Proofs.Cr
open Go.RowKit Go.Shelf
attribute [local go_sem] Oper.semAt_some

set_option maxRecDepth 100000 in
set_option maxHeartbeats 1000000 in
theorem tried_ex (K : Nat) (caps : Array Value) (S : ByteArray × ByteArray × Int → Prop) (w : World) (eK : ∀ args w, (callFunc K args).run Tryz.prog w = .ok (.enter K args) w)
    (hC : ∀ W, Below w.heap.size w W → Calls Tryz.prog K caps W (fun e w' => ∃ p, S p ∧ TryPost p W e w')) :
    Calls Tryz.prog 68 #[.func (.func K) #[] caps] w (fun e w' => ∃ p, S p ∧ PartPost p w e w') := by
  obtain ⟨hA1, hB1, hW1⟩ := two_new w #[.string ⟨#[]⟩, .string ⟨#[]⟩] #[.int .i64 0] 46 24
  have hmf : ∀ (fn : Fn) (first cap : Array Value) (w : World), (Instr.makeFunc fn first cap).run Tryz.prog w = .ok (.func fn first cap) w := fun _ _ _ _ => rfl
  have HC := Lib.hid (hC _ hW1)
  have HW1 := Lib.hid hW1
  clear hC hW1
  go_enter_defers Tryz.func68, Tryz.ntmps68
  go_wp2_with fail
  refine HC.out.mono ?_
  rintro e w2 ⟨⟨p1, p2, p3⟩, hS, ⟨rfl, h0⟩ | ⟨rfl, h1, h2⟩, hb2⟩
  · have hA2 := hA1.pass hb2
    have hB2 := hB1.pass hb2
    have HB2 := Lib.hid (HW1.out.trans (hb2.mono HW1.out.size))
    have h0 : p3 = 0 := h0
    subst h0
    clear hb2 hA1 hB1
    obtain ⟨⟨r0, r1⟩, f0, f1⟩ := hA2.two
    have r2 : w2.cell? ⟨w.heap.size + 1, 0, none⟩ = some (.int .i64 0) := hB2.cell 0
    have f2 := hB2.free 0
    go_wp2_with fail
    refine leaves_cons (f := 112) (args := #[.pointer (some ⟨w.heap.size, 0, none⟩), .pointer (some ⟨w.heap.size + 1, 0, none⟩)]) (by simp) (by simp [go_sem]) ?_
    refine (tried1_idle _ _ _).mono ?_
    rintro e u' w'' ⟨rfl, rfl, hb3⟩
    have hA3 := (((hA2.set 0 (.string p1)).set 1 (.string p2)).far (p := ⟨w.heap.size + 1, 0, none⟩) (by simp) (.int .i64 0)).pass hb3
    have hB3 := (((hB2.far (p := ⟨w.heap.size, 0, none⟩) (by simp) (.string p1)).far (p := ⟨w.heap.size, 1, none⟩) (by simp) (.string p2)).set 0 (.int .i64 0)).pass hb3
    have HB3 := (((HB2.out.setCell (p := ⟨w.heap.size, 0, none⟩) (by simp) (.string p1)).setCell (p := ⟨w.heap.size, 1, none⟩) (by simp) (.string p2)).setCell (p := ⟨w.heap.size + 1, 0, none⟩) (by simp) (.int .i64 0))
    refine ⟨_, results_cc (g := w.heap.size) (g2 := w.heap.size + 1) rfl rfl hA3 rfl Tryz.underlying46 rfl (by kernel_rfl) (load24 hB3), _, hS, rfl, HB3.trans (hb3.mono HB3.size)⟩
  · have h1 : p1 = ⟨#[]⟩ := h1
    have h2 : p2 = ⟨#[]⟩ := h2
    subst h1
    subst h2
    have hA2 := hA1.pass hb2
    have hB2 := hB1.pass hb2
    have HB2 := Lib.hid (HW1.out.trans (hb2.mono HW1.out.size))
    refine leaves_cons (f := 112) (args := #[.pointer (some ⟨w.heap.size, 0, none⟩), .pointer (some ⟨w.heap.size + 1, 0, none⟩)]) (by simp) (by simp [go_sem]) ?_
    refine (tried1_caught w.heap.size (w.heap.size + 1) w.heap.size _ _ _ p3 [] w2 hA2 hB2 (by omega) (by omega) (by omega)).mono ?_
    rintro e u' w'' ⟨rfl, rfl, hA3, hB3, hb3⟩
    refine ⟨_, results_cc (g := w.heap.size) (g2 := w.heap.size + 1) rfl rfl hA3 rfl Tryz.underlying46 rfl (by kernel_rfl) (load24 hB3), _, hS, rfl, HB2.out.trans hb3⟩

set_option maxRecDepth 100000 in
set_option maxHeartbeats 1000000 in
theorem chance1_any (A : Option Addr) (c N : Nat) (L : List Bd) (q : Rat) (w : World) (b0 b1 : Nat) (hb0 : Blk w b0 #[.slice A (N + 1 : Nat) c] 34) (hb1 : Blk w b1 #[.string (qN q), .string (qD q)] 46) (hr : RdB w A L) (h : CurveP L N) (hc : N + 1 ≤ c) (hq : okQ q) (hs : sm 300 q) (hT : TabW w) :
    Calls Tryz.prog 69 #[.pointer (some ⟨b0, 0, none⟩), .pointer (some ⟨b1, 0, none⟩)] w fun e w' => ∃ p : ByteArray × ByteArray × Int, (∃ r, p = (qN r, qD r, 0) ∧ ChanceR L N q r ∧ okQ r) ∧ TryPost p w e w' := by
  have hR1 := Blk.new w #[.string ⟨#[]⟩, .string ⟨#[]⟩] 46
  have hW1 := below_alloc w (.cells #[.string ⟨#[]⟩, .string ⟨#[]⟩] 46)
  have hb0 := hb0.pass hW1
  have hb1 := hb1.pass hW1
  have TC := Lib.hid (chance_any A c N L q _ (hr.below hW1 (Nat.le_refl _)) h hc hq hs (hT.below hW1 (Nat.le_refl _)))
  have HW1 := Lib.hid hW1
  have c0 : (w.alloc (.cells #[.string ⟨#[]⟩, .string ⟨#[]⟩] 46)).cell? ⟨b0, 0, none⟩ = some (.slice A (N + 1 : Nat) c) := hb0.cell 0
  obtain ⟨⟨x0, x1⟩, _, _⟩ := hb1.two
  clear hW1 hr h hq hs hT
  go_enter Tryz.func69, Tryz.ntmps69
  go_wp2_with fail
  refine TC.out.mono ?_
  rintro e w2 ⟨r, rfl, h1, h2, hb2⟩
  have hR2 := hR1.pass hb2
  have HB2 := Lib.hid (HW1.out.trans (hb2.mono HW1.out.size))
  have HH := Lib.hid (And.intro h1 h2)
  clear hb2 h1 h2 hR1 hb0 hb1 c0 x0 x1
  obtain ⟨⟨r0, r1⟩, f0, f1⟩ := hR2.two
  go_wp2_with fail
  refine bodyPost_ret (results_c1 (g := w.heap.size) rfl rfl ((hR2.set 0 (.string (qN r))).set 1 (.string (qD r))) Tryz.underlying46 rfl (by kernel_rfl)) rfl ?_
  exact ⟨(qN r, qD r, 0), ⟨r, rfl, HH.out.1, HH.out.2⟩, .inl ⟨by simp, rfl⟩, (HB2.out.setCell (by simp) _).setCell (by simp) _⟩
end Go.Proofs.Cr
namespace Go.Proofs.Cr
open Go.RowKit Go.Shelf
attribute [local go_sem] Oper.semAt_some

/-- The arguments of a question on a curve are valid. -/
def AskOK (L : List Bd) (a b : ByteArray) (N : Nat) (q : Rat) : Prop := CurveP L N ∧ (okQ q ∧ sm 300 q) ∧ a = qN q ∧ b = qD q
theorem ask_of {L : List Bd} {a b : ByteArray} (h : (∃ N, CurveP L N) ∧ shortL 300 [(a, b)] = true) : ∃ N q, AskOK L a b N q := by
  obtain ⟨⟨N, hN⟩, hs⟩ := h
  rw [shortL_one] at hs
  obtain ⟨f, s⟩ := short_fr hs
  exact ⟨N, _, hN, ⟨f.ok.1, s⟩, f.ok.2.1, f.ok.2.2⟩
theorem nask_of {L : List Bd} {a b : ByteArray} (h : ¬ ((∃ N, CurveP L N) ∧ shortL 300 [(a, b)] = true)) : ∀ N q, ¬ AskOK L a b N q := by
  rintro N q ⟨h1, ⟨h2, h3⟩, rfl, rfl⟩
  refine h ⟨⟨N, h1⟩, ?_⟩
  rw [shortL_one]
  have hf := h2.fr
  have n1 : nv (qN q) = q.num.natAbs := nv_numB _
  have n2 : nv (qD q) = q.den := nv_numB _
  have s1 : (qN q).size ≤ 300 := by
    unfold qN; rw [numB_size]; exact (decDigits_len_le (by decide)).2 h3.1
  have s2 : (qD q).size ≤ 300 := by
    unfold qD; rw [numB_size]; exact (decDigits_len_le (by decide)).2 h3.2
  simp [shortP, s1, s2, hf.chk]
def ChancePost (L : List Bd) (a b : ByteArray) (w : World) (e : Ending) (w' : World) : Prop :=
  ((e = .returned (pv (⟨#[]⟩, ⟨#[]⟩, 2)) ∧ ∀ N q, ¬ AskOK L a b N q) ∨ (∃ N q r, AskOK L a b N q ∧ e = .returned (pv (qN r, qD r, 0)) ∧ ChanceR L N q r ∧ okQ r)) ∧ Below w.heap.size w w'
set_option maxRecDepth 100000 in
set_option maxHeartbeats 2000000 in
/-- 'detect.Chance'. -/
theorem Chance_any (A : Option Addr) (c : Nat) (L : List Bd) (a b : ByteArray) (w : World) (hr : RdB w A L) (hc : L.length ≤ c) (hT : TabW w) (hZ : ZO w) :
    Calls Tryz.prog 28 #[.slice A L.length c, .agg #[.string a, .string b]] w (ChancePost L a b w) := by
  obtain ⟨M, hM⟩ : ∃ M, L.length = M := ⟨_, rfl⟩
  have HM := Lib.hid hM.symm
  rw [hM] at hc ⊢
  obtain ⟨hA1, hB1, hR1, hW1⟩ := three_new w #[.slice A M c] #[.string a, .string b] #[.string ⟨#[]⟩, .string ⟨#[]⟩] 34 46 46
  have hS4 := Blk.new (((w.alloc (.cells #[.slice A M c] 34)).alloc (.cells #[.string a, .string b] 46)).alloc (.cells #[.string ⟨#[]⟩, .string ⟨#[]⟩] 46)) #[.string a, .string b] 46
  simp only [World.size_alloc] at hS4
  have hW4 := hW1.alloc hW1.size (.cells #[.string a, .string b] 46)
  have TR := Lib.hid (right2_any A (some ⟨w.heap.size + 1 + 1 + 1, 0, none⟩) c 1 L [(a, b)] _ (hr.below hW4 (Nat.le_refl _)) (by rw [hM]; exact hc) (RdP.one hS4) (hT.below hW4 (Nat.le_refl _)) (hZ.below hW4 (Nat.le_refl _)))
  rw [hM, show [(a, b)].length = 1 from rfl] at TR
  have c0 : ((((w.alloc (.cells #[.slice A M c] 34)).alloc (.cells #[.string a, .string b] 46)).alloc (.cells #[.string ⟨#[]⟩, .string ⟨#[]⟩] 46))).cell? ⟨w.heap.size, 0, none⟩ = some (.slice A M c) := hA1.cell 0
  have hA4 := hA1.alloc (.cells #[.string a, .string b] 46)
  have hB4 := hB1.alloc (.cells #[.string a, .string b] 46)
  have hR4 := hR1.alloc (.cells #[.string a, .string b] 46)
  have HW4 := Lib.hid hW4
  have HR := Lib.hid hr
  have HTZ := Lib.hid (And.intro hT hZ)
  obtain ⟨⟨x0, x1⟩, _, _⟩ := hB1.two
  have HC := Lib.hid hc
  clear hW1 hW4 hr hT hZ hS4 hc
  clear hM
  go_enter Tryz.func28, Tryz.ntmps28
  go_wp2_with fail
  refine TR.out.mono ?_
  rintro e w2 ⟨⟨rfl, hk⟩ | ⟨rfl, hk⟩, hb2⟩
  · obtain ⟨N, q, hq⟩ := ask_of hk
    have hA2 := hA4.pass hb2
    have hB2 := hB4.pass hb2
    have hR2 := hR4.pass hb2
    have HB2 := Lib.hid (HW4.out.trans (hb2.mono HW4.out.size))
    have HQ := Lib.hid hq
    have eM : M = N + 1 := by rw [HM.out]; exact hq.1.len
    subst eM
    have hB2' : Blk w2 (w.heap.size + 1) #[.string (qN q), .string (qD q)] 46 := by rw [← hq.2.2.1, ← hq.2.2.2]; exact hB2
    have TT := Lib.hid (tried_ex 69 #[.pointer (some ⟨w.heap.size, 0, none⟩), .pointer (some ⟨w.heap.size + 1, 0, none⟩)] _ w2 (fun _ _ => rfl)
      (fun W hb => chance1_any A c N L q W w.heap.size (w.heap.size + 1) (hA2.pass hb) (hB2'.pass hb) (HR.out.below (HB2.out.trans (hb.mono HB2.out.size)) (Nat.le_refl _)) HQ.out.1 HC.out HQ.out.2.1.1 HQ.out.2.1.2 (HTZ.out.1.below (HB2.out.trans (hb.mono HB2.out.size)) (Nat.le_refl _))))
    have hmf : ∀ (fn : Fn) (first cap : Array Value) (w : World), (Instr.makeFunc fn first cap).run Tryz.prog w = .ok (.func fn first cap) w := fun _ _ _ _ => rfl
    clear hk hb2 hq hA1 hB1 hR1 hA4 hB4 hR4 c0 x0 x1 hB2 hB2' hA2
    go_wp2_with fail
    refine TT.out.mono ?_
    rintro e w3 ⟨p, ⟨r, rfl, h1, h2⟩, he, hb3⟩
    simp only [pv] at he
    subst he
    have hR3 := hR2.pass hb3
    have HB3 := Lib.hid (HB2.out.trans (hb3.mono HB2.out.size))
    have HH := Lib.hid (And.intro h1 h2)
    clear hb3 h1 h2 hR2
    obtain ⟨⟨r0, r1⟩, f0, f1⟩ := hR3.two
    go_wp2_with fail
    refine bodyPost_ret (results_ct (g := w.heap.size + 1 + 1) rfl rfl ((hR3.set 0 (.string (qN r))).set 1 (.string (qD r))) Tryz.underlying46 rfl (by kernel_rfl)) rfl ?_
    exact ⟨.inr ⟨N, q, r, HQ.out, by simp [pv], HH.out.1, HH.out.2⟩, (HB3.out.setCell (by simp; omega) _).setCell (by simp; omega) _⟩
  · have hR2 := hR4.pass hb2
    have HB2 := Lib.hid (HW4.out.trans (hb2.mono HW4.out.size))
    have HK := Lib.hid (nask_of hk)
    clear hk hb2 hA1 hB1 hR1 hA4 hB4 hR4 c0 x0 x1
    obtain ⟨⟨r0, r1⟩, f0, f1⟩ := hR2.two
    go_wp2_with fail
    refine bodyPost_ret (results_ct (g := w.heap.size + 1 + 1) rfl rfl ((hR2.set 0 _).set 1 _) Tryz.underlying46 rfl (by kernel_rfl)) rfl ?_
    exact ⟨.inl ⟨by simp [pv], HK.out⟩, (HB2.out.setCell (by simp; omega) _).setCell (by simp; omega) _⟩
end Go.Proofs.Cr
namespace Go.Proofs.Cr
open Go.RowKit Go.Shelf
attribute [local go_sem] Oper.semAt_some

set_option maxRecDepth 100000 in
set_option maxHeartbeats 1000000 in
theorem slope1_any (x u y v : Rat) (h : RiseOK x u y v) (w : World) (b0 b1 : Nat) (hb0 : Blk w b0 #[.string (qN x), .string (qD x), .string (qN u), .string (qD u)] 56) (hb1 : Blk w b1 #[.string (qN y), .string (qD y), .string (qN v), .string (qD v)] 56) (hT : TabW w) :
    Calls Tryz.prog 86 #[.pointer (some ⟨b0, 0, none⟩), .pointer (some ⟨b1, 0, none⟩)] w (TryPost (qN ((v - u) / (y - x)), qD ((v - u) / (y - x)), 0) w) := by
  have hR1 := Blk.new w #[.string ⟨#[]⟩, .string ⟨#[]⟩] 46
  have hW1 := below_alloc w (.cells #[.string ⟨#[]⟩, .string ⟨#[]⟩] 46)
  have hb0 := hb0.pass hW1
  have hb1 := hb1.pass hW1
  have TC := Lib.hid (rise_q x u y v h _ (hT.below hW1 (Nat.le_refl _)))
  have HW1 := Lib.hid hW1
  obtain ⟨⟨x0, x1⟩, x2, x3⟩ := hb0.four
  obtain ⟨⟨y0, y1⟩, y2, y3⟩ := hb1.four
  clear hW1 hT h
  go_enter Tryz.func86, Tryz.ntmps86
  go_wp2_with fail
  refine TC.out.mono ?_
  rintro e w2 ⟨rfl, hb2⟩
  have hR2 := hR1.pass hb2
  have HB2 := Lib.hid (HW1.out.trans (hb2.mono HW1.out.size))
  clear hb2 hR1 hb0 hb1 x0 x1 x2 x3 y0 y1 y2 y3
  obtain ⟨⟨r0, r1⟩, f0, f1⟩ := hR2.two
  go_wp2_with fail
  refine bodyPost_ret (results_c1 (g := w.heap.size) rfl rfl ((hR2.set 0 _).set 1 _) Tryz.underlying46 rfl (by kernel_rfl)) rfl ?_
  exact ⟨.inl ⟨by simp, rfl⟩, (HB2.out.setCell (by simp) _).setCell (by simp) _⟩
theorem zero_qN : (⟨#[48]⟩ : ByteArray) = qN 0 ∧ (⟨#[49]⟩ : ByteArray) = qD 0 := ⟨by kernel_rfl, by kernel_rfl⟩
theorem zero_ok : okQ 0 := ⟨by decide, Nat.lt_trans (by decide : (0 : Rat).num.natAbs < 9223372036854775808) pow19_lt, Nat.lt_trans (by decide : (0 : Rat).den < 9223372036854775808) pow19_lt⟩
/-- The slope at a coverage. -/
def SlopeR (L : List Bd) (N : Nat) (q r : Rat) : Prop := (∃ i, i < N ∧ qx L i ≤ q ∧ q < qx L (i + 1) ∧ r = slq L i) ∨ (qx L N ≤ q ∧ r = 0)
def SlopePost (L : List Bd) (a b : ByteArray) (w : World) (e : Ending) (w' : World) : Prop :=
  ((e = .returned (pv (⟨#[]⟩, ⟨#[]⟩, 2)) ∧ ∀ N q, ¬ AskOK L a b N q) ∨ (∃ N q r, AskOK L a b N q ∧ e = .returned (pv (qN r, qD r, 0)) ∧ SlopeR L N q r ∧ okQ r)) ∧ Below w.heap.size w w'
set_option maxRecDepth 100000 in
set_option maxHeartbeats 2000000 in
/-- 'detect.Slope'. -/
theorem Slope_any (A : Option Addr) (c : Nat) (L : List Bd) (a b : ByteArray) (w : World) (hr : RdB w A L) (hc : L.length ≤ c) (hT : TabW w) (hZ : ZO w) :
    Calls Tryz.prog 38 #[.slice A L.length c, .agg #[.string a, .string b]] w (SlopePost L a b w) := by
  obtain ⟨M, hM⟩ : ∃ M, L.length = M := ⟨_, rfl⟩
  have HM := Lib.hid hM.symm
  rw [hM] at hc ⊢
  obtain ⟨hB1, hR1, hW1⟩ := two_new w #[.string a, .string b] #[.string ⟨#[]⟩, .string ⟨#[]⟩] 46 46
  have hS4 := Blk.new ((w.alloc (.cells #[.string a, .string b] 46)).alloc (.cells #[.string ⟨#[]⟩, .string ⟨#[]⟩] 46)) #[.string a, .string b] 46
  simp only [World.size_alloc] at hS4
  have hW4 := hW1.alloc hW1.size (.cells #[.string a, .string b] 46)
  have TR := Lib.hid (right2_any A (some ⟨w.heap.size + 1 + 1, 0, none⟩) c 1 L [(a, b)] _ (hr.below hW4 (Nat.le_refl _)) (by rw [hM]; exact hc) (RdP.one hS4) (hT.below hW4 (Nat.le_refl _)) (hZ.below hW4 (Nat.le_refl _)))
  rw [hM, show [(a, b)].length = 1 from rfl] at TR
  have hB4 := hB1.alloc (.cells #[.string a, .string b] 46)
  have hR4 := hR1.alloc (.cells #[.string a, .string b] 46)
  have HW4 := Lib.hid hW4
  have HR := Lib.hid hr
  have HTZ := Lib.hid (And.intro hT hZ)
  obtain ⟨⟨x0, x1⟩, _, _⟩ := hB1.two
  have HC := Lib.hid hc
  clear hW1 hW4 hr hT hZ hS4 hc hM
  go_enter Tryz.func38, Tryz.ntmps38
  go_wp2_with fail
  refine TR.out.mono ?_
  rintro e w2 ⟨⟨rfl, hk⟩ | ⟨rfl, hk⟩, hb2⟩
  · obtain ⟨N, q, hq⟩ := ask_of hk
    have hB2 := hB4.pass hb2
    have hR2 := hR4.pass hb2
    have HB2 := Lib.hid (HW4.out.trans (hb2.mono HW4.out.size))
    have HQ := Lib.hid hq
    have eM : M = N + 1 := by rw [HM.out]; exact hq.1.len
    subst eM
    have hB2' : Blk w2 w.heap.size #[.string (qN q), .string (qD q)] 46 := by rw [← hq.2.2.1, ← hq.2.2.2]; exact hB2
    have TP := Lib.hid (piece_q A c N L q w2 (HR.out.below HB2.out (Nat.le_refl _)) HQ.out.1 HC.out HQ.out.2.1.1)
    obtain ⟨⟨x0, x1⟩, _, _⟩ := hB2'.two
    clear hk hb2 hq hB1 hR1 hB4 hR4 hB2 hB2'
    go_wp2_with fail
    refine TP.out.mono ?_
    rintro e w3 ⟨i, j, f, rfl, hp, hb3⟩
    have HP := Lib.hid hp
    have hR2 := hR2.pass hb3
    have HB2 := Lib.hid (HB2.out.trans (hb3.mono HB2.out.size))
    clear hp hb3 x0 x1
    have hR3 := (hR2.alloc (.cells #[.string (qN (qx L i)), .string (qD (qx L i)), .string (qN (qy L i)), .string (qD (qy L i))] 56)).alloc (.cells #[.string (qN (qx L j)), .string (qD (qx L j)), .string (qN (qy L j)), .string (qD (qy L j))] 56)
    have hB3 : Below w3.heap.size w3 ((w3.alloc (.cells #[.string (qN (qx L i)), .string (qD (qx L i)), .string (qN (qy L i)), .string (qD (qy L i))] 56)).alloc (.cells #[.string (qN (qx L j)), .string (qD (qx L j)), .string (qN (qy L j)), .string (qD (qy L j))] 56)) := ((Below.refl _ w3).alloc (Nat.le_refl _) _).alloc (by simp) _
    have HB3 := Lib.hid (HB2.out.trans (hB3.mono HB2.out.size))
    have hI3 : Blk ((w3.alloc (.cells #[.string (qN (qx L i)), .string (qD (qx L i)), .string (qN (qy L i)), .string (qD (qy L i))] 56)).alloc (.cells #[.string (qN (qx L j)), .string (qD (qx L j)), .string (qN (qy L j)), .string (qD (qy L j))] 56)) w3.heap.size #[.string (qN (qx L i)), .string (qD (qx L i)), .string (qN (qy L i)), .string (qD (qy L i))] 56 := (Blk.new w3 _ 56).alloc _
    have hJ3 : Blk ((w3.alloc (.cells #[.string (qN (qx L i)), .string (qD (qx L i)), .string (qN (qy L i)), .string (qD (qy L i))] 56)).alloc (.cells #[.string (qN (qx L j)), .string (qD (qx L j)), .string (qN (qy L j)), .string (qD (qy L j))] 56)) (w3.heap.size + 1) #[.string (qN (qx L j)), .string (qD (qx L j)), .string (qN (qy L j)), .string (qD (qy L j))] 56 := by
      have := Blk.new (w3.alloc (.cells #[.string (qN (qx L i)), .string (qD (qx L i)), .string (qN (qy L i)), .string (qD (qy L i))] 56)) #[.string (qN (qx L j)), .string (qD (qx L j)), .string (qN (qy L j)), .string (qD (qy L j))] 56
      rwa [World.size_alloc] at this
    have hZ3 := HTZ.out.2.below HB3.out (Nat.le_refl _)
    clear hB3 hR2
    obtain ⟨⟨r0, r1⟩, f0, f1⟩ := hR3.two
    obtain ⟨⟨z0, z1⟩, _, _⟩ := hZ3
    cases f with
    | true =>
      have HI := Lib.hid (show i < N ∧ j = i + 1 ∧ qx L i ≤ q ∧ q < qx L (i + 1) by rcases HP.out with ⟨_, h⟩ | ⟨h, _⟩; exact h; cases h)
      have HRO := Lib.hid (show RiseOK (qx L i) (qy L i) (qx L j) (qy L j) by rw [HI.out.2.1]; exact rise_ok (HQ.out.1.sh i (by have := HI.out.1; omega)) (HQ.out.1.sh (i + 1) (by have := HI.out.1; omega)) (HQ.out.1.up i HI.out.1).1 (HQ.out.1.up i HI.out.1).2)
      have hmf : ∀ (fn : Fn) (first cap : Array Value) (w : World), (Instr.makeFunc fn first cap).run Tryz.prog w = .ok (.func fn first cap) w := fun _ _ _ _ => rfl
      have TT := Lib.hid (tried_any 86 #[.pointer (some ⟨w3.heap.size, 0, none⟩), .pointer (some ⟨w3.heap.size + 1, 0, none⟩)] (qN ((qy L j - qy L i) / (qx L j - qx L i)), qD ((qy L j - qy L i) / (qx L j - qx L i)), 0) _ (fun _ _ => rfl)
        (fun W hb => slope1_any _ _ _ _ HRO.out W w3.heap.size (w3.heap.size + 1) (hI3.pass hb) (hJ3.pass hb) (HTZ.out.1.below (HB3.out.trans (hb.mono HB3.out.size)) (Nat.le_refl _))))
      go_wp2_with fail
      refine TT.out.mono ?_
      rintro e w4 ⟨he, hb4⟩
      simp only [pv] at he
      subst he
      have hR4 := hR3.pass hb4
      have HB4 := Lib.hid (HB3.out.trans (hb4.mono HB3.out.size))
      clear hb4 hR3 r0 r1 f0 f1 z0 z1 hI3 hJ3
      obtain ⟨⟨r0, r1⟩, f0, f1⟩ := hR4.two
      go_wp2_with fail
      refine bodyPost_ret (results_ct (g := w.heap.size + 1) rfl rfl ((hR4.set 0 _).set 1 _) Tryz.underlying46 rfl (by kernel_rfl)) rfl ?_
      exact ⟨.inr ⟨N, q, (qy L j - qy L i) / (qx L j - qx L i), HQ.out, by simp [pv], .inl ⟨i, HI.out.1, HI.out.2.2.1, HI.out.2.2.2, by rw [HI.out.2.1]; rfl⟩, HRO.out.s3⟩, (HB4.out.setCell (by simp) _).setCell (by simp) _⟩
    | false =>
      have HI := Lib.hid (show i = N ∧ qx L N ≤ q by rcases HP.out with ⟨h, _⟩ | ⟨_, h1, _, h2⟩; cases h; exact ⟨h1, h2⟩)
      go_wp2_with fail
      refine bodyPost_ret (results_ct (g := w.heap.size + 1) rfl rfl ((hR3.set 0 (.string ⟨#[48]⟩)).set 1 (.string ⟨#[49]⟩)) Tryz.underlying46 rfl (by kernel_rfl)) rfl ?_
      exact ⟨.inr ⟨N, q, 0, HQ.out, by rw [← zero_qN.1, ← zero_qN.2]; simp [pv], .inr ⟨HI.out.2, rfl⟩, zero_ok⟩, (HB3.out.setCell (by simp) _).setCell (by simp) _⟩
  · have hR2 := hR4.pass hb2
    have HB2 := Lib.hid (HW4.out.trans (hb2.mono HW4.out.size))
    have HK := Lib.hid (nask_of hk)
    clear hk hb2 hB1 hR1 hB4 hR4 x0 x1
    obtain ⟨⟨r0, r1⟩, f0, f1⟩ := hR2.two
    go_wp2_with fail
    refine bodyPost_ret (results_ct (g := w.heap.size + 1) rfl rfl ((hR2.set 0 _).set 1 _) Tryz.underlying46 rfl (by kernel_rfl)) rfl ?_
    exact ⟨.inl ⟨by simp [pv], HK.out⟩, (HB2.out.setCell (by simp) _).setCell (by simp) _⟩
end Go.Proofs.Cr
