/- Contracts of functions that the laws reach, and plain lemmas. Part 22. -/
import Derived.Test.YtolofiiolinnoaaGreatDoorC21
set_option linter.all false
namespace Go.Proofs.Cr
open Go.RowKit Go.Shelf
attribute [local go_sem] Oper.semAt_some

/-- The reference's 'CheckTable'. -/
theorem CheckTable06_any (A : Option Addr) (c : Nat) (L : List Sg) (w : World) (hr : RdS w A L) :
    Calls Tryz.prog 18 #[.slice A L.length c] w fun e w' => ((e = .returned (.int .i64 0) ∧ TableP L) ∨ (e = .returned (.int .i64 2) ∧ ¬ TableP L)) ∧ Below w.heap.size w w' := by
  have TC := Lib.hid (Table_any A c L w hr)
  clear hr
  obtain ⟨N, hN⟩ : ∃ N, N = L.length := ⟨_, rfl⟩
  rw [← hN] at TC ⊢
  clear hN
  go_enter Tryz.func18, Tryz.ntmps18
  go_wp2_with fail
  refine TC.out.mono ?_
  rintro e w2 ⟨⟨rfl, hT⟩ | ⟨rfl, hT⟩, hb2⟩
  · have HT := Lib.hid hT
    have HB2 := Lib.hid hb2
    clear hT hb2
    go_wp2_with fail
    go_ret
    exact ⟨by simp only [HT.out]; simp, HB2.out⟩
  · have HT := Lib.hid hT
    have HB2 := Lib.hid hb2
    clear hT hb2
    go_wp2_with fail
    go_ret
    exact ⟨by simp only [HT.out]; simp, HB2.out⟩
/-- The best row so far. -/
def BestI (L : List Sg) (κ : Int × Int × Int) (sea : Int) (k : Nat) (b : Int) : Prop :=
  (b = -1 ∧ ∀ j, j < k → candS κ sea (L.getD j .z) = false) ∨ ∃ j : Nat, b = j ∧ j < k ∧ candS κ sea (L.getD j .z) = true ∧ ∀ i, i < k → candS κ sea (L.getD i .z) = true → (L.getD j .z).sea ≤ (L.getD i .z).sea
theorem BestI.zero (L : List Sg) (κ : Int × Int × Int) (sea : Int) : BestI L κ sea 0 (-1) := .inl ⟨rfl, fun j hj => by omega⟩
theorem BestI.skip {L : List Sg} {κ : Int × Int × Int} {sea : Int} {k : Nat} {b : Int} (h : BestI L κ sea k b) (hc : candS κ sea (L.getD k .z) = false) : BestI L κ sea (k + 1) b := by
  rcases h with ⟨rfl, h⟩ | ⟨j, rfl, hj, hcj, h⟩
  · exact .inl ⟨rfl, fun i hi => (Nat.lt_or_eq_of_le (Nat.le_of_lt_succ hi)).elim (h i) (fun h2 => by rw [h2]; exact hc)⟩
  · refine .inr ⟨j, rfl, by omega, hcj, fun i hi hci => ?_⟩
    rcases Nat.lt_or_eq_of_le (Nat.le_of_lt_succ hi) with h2 | h2
    · exact h i h2 hci
    · rw [h2, hc] at hci; cases hci
theorem BestI.keep {L : List Sg} {κ : Int × Int × Int} {sea : Int} {k j : Nat} (h : BestI L κ sea k (j : Int)) (hj : (L.getD j .z).sea ≤ (L.getD k .z).sea) : BestI L κ sea (k + 1) (j : Int) := by
  rcases h with ⟨h0, h⟩ | ⟨i, e, hi, hci, h⟩
  · omega
  · obtain rfl : j = i := by omega
    refine .inr ⟨j, rfl, by omega, hci, fun r hr hcr => ?_⟩
    rcases Nat.lt_or_eq_of_le (Nat.le_of_lt_succ hr) with h2 | h2
    · exact h r h2 hcr
    · rw [h2]; exact hj
theorem BestI.take {L : List Sg} {κ : Int × Int × Int} {sea : Int} {k : Nat} {b : Int} (h : BestI L κ sea k b) (hc : candS κ sea (L.getD k .z) = true) (hb : b = -1 ∨ ∃ j : Nat, b = j ∧ (L.getD k .z).sea < (L.getD j .z).sea) : BestI L κ sea (k + 1) (k : Int) := by
  refine .inr ⟨k, rfl, by omega, hc, fun r hr hcr => ?_⟩
  rcases Nat.lt_or_eq_of_le (Nat.le_of_lt_succ hr) with h2 | h2
  · rcases h with ⟨rfl, h⟩ | ⟨i, rfl, hi, hci, h⟩
    · rw [h r h2] at hcr; cases hcr
    · rcases hb with hb | ⟨j, e, hj⟩
      · omega
      · obtain rfl : i = j := by omega
        have := h r h2 hcr
        omega
  · rw [h2]; exact Int.le_refl _
theorem BestI.none {L : List Sg} {κ : Int × Int × Int} {sea : Int} (h : BestI L κ sea L.length (-1)) : LeastR L κ sea (0, 7) := by
  rcases h with ⟨_, h⟩ | ⟨j, e, _⟩
  · refine .inl ⟨fun s hs => ?_, rfl⟩
    obtain ⟨j, hj, rfl⟩ := mem_at hs
    exact h j hj
  · omega
theorem BestI.some {L : List Sg} {κ : Int × Int × Int} {sea : Int} {j : Nat} (h : BestI L κ sea L.length (j : Int)) : LeastR L κ sea ((L.getD j .z).wi, 0) := by
  rcases h with ⟨e, _⟩ | ⟨i, e, hi, hc, h⟩
  · omega
  · obtain rfl : j = i := by omega
    refine .inr ⟨_, getD_mem hi, hc, fun t ht hct => ?_, rfl⟩
    obtain ⟨r, hr, rfl⟩ := mem_at ht
    exact h r hr hct
theorem BestI.cases {L : List Sg} {κ : Int × Int × Int} {sea : Int} {k : Nat} {b : Int} (h : BestI L κ sea k b) : b = -1 ∨ ∃ j : Nat, b = j ∧ j < k := by
  rcases h with ⟨e, _⟩ | ⟨i, e, hi, _⟩
  · exact .inl e
  · exact .inr ⟨i, e, hi⟩
set_option maxRecDepth 100000 in
set_option maxHeartbeats 4000000 in
/-- The reference's 'Width'. -/
theorem Width06_any (A : Option Addr) (c : Nat) (L : List Sg) (se ob li sea : Int) (w : World) (hr : RdS w A L) :
    Calls Tryz.prog 16 #[.slice A L.length c, .int .i64 se, .int .i64 ob, .int .i64 li, .int .i64 sea] w fun e w' => (∃ p : Int × Int, e = .returned (.tuple #[.int .i64 p.1, .int .i64 p.2]) ∧ WidthR L (se, ob, li) sea p) ∧ Below w.heap.size w w' := by
  have TC := Lib.hid (Table_any A c L w hr)
  have HRW := Lib.hid hr
  obtain ⟨N, hN⟩ : ∃ N, N = L.length := ⟨_, rfl⟩
  have hl9 := hr.1
  rw [← hN] at TC hl9 ⊢
  have HN := Lib.hid hN
  clear hr hN
  go_enter Tryz.func16, Tryz.ntmps16
  go_wp2_with fail
  refine TC.out.mono ?_
  rintro e w2 ⟨⟨rfl, hT⟩ | ⟨rfl, hT⟩, hb2⟩
  · have HT := Lib.hid hT
    have HB2 := Lib.hid hb2
    have HR := Lib.hid (HRW.out.below hb2 (Nat.le_refl _)).2
    rw [← HN.out] at HR
    clear hT hb2
    go_wp2_with fail
    go_loopw [13, 14] (fun bv i wr => ∃ k : Nat, ∃ b : Int, k ≤ N ∧ bv = .int .i64 b ∧ i = .int .i64 (k : Int) ∧ Below w2.heap.size w2 wr ∧ Hid (BestI L (se, ob, li) sea k b))
      (fun _ i _ => (N - intOf i).toNat)
    case atStart => exact ⟨0, -1, Nat.zero_le _, rfl, rfl, Below.refl _ _, Lib.hid (BestI.zero _ _ _)⟩
    case round =>
      obtain ⟨k, b, hk, rfl, rfl, hB, hI⟩ := hrel
      have HB := Lib.hid hB
      by_cases hlt : k < N
      · obtain ⟨gb, off, rfl, hb, hcs⟩ := HR.out (by omega)
        have hcx := ((hcs k hlt).below HB.out hb).cells
        obtain ⟨s, hs⟩ : ∃ s, s = L.getD k .z := ⟨_, rfl⟩
        rw [← hs] at hcx
        have HS := Lib.hid hs
        have hG1 := Blk.new wr (scs s) 30
        have HB1 := Lib.hid (HB.out.alloc hB.size (.cells (scs s) 30))
        have hkl : (k : Int) < N := by omega
        have hk0 : ¬ (k : Int) < 0 := by omega
        obtain ⟨⟨⟨h0, h1⟩, h2, h3⟩, h4⟩ := hcx
        obtain ⟨⟨⟨⟨z0, z1⟩, z2, z3⟩, z4⟩, _⟩ := hG1.sg
        simp only [scs] at z0 z1 z2 z3 z4
        have HCS := Lib.hid (And.intro hb hcs)
        clear hs hB hcs hb
        by_cases qse : (s.se == se) = true
        ·
          have HQse := Lib.hid qse
          by_cases qob : (s.ob == ob) = true
          ·
            have HQob := Lib.hid qob
            by_cases qli : (s.li == li) = true
            ·
              have HQli := Lib.hid qli
              by_cases g : sea ≤ s.sea
              ·
                have HG := Lib.hid g
                have HC : Hid (candS (se, ob, li) sea (L.getD k .z) = true) := Lib.hid (by have a := HQse.out; have b := HQob.out; have c := HQli.out; rw [← HS.out]; simp at a b c; simp [candS, key3, a, b, c, HG.out])
                have HK := Lib.hid ((Kept.of (Nat.le_refl _) HB1.out.size HB1.out).drew)
                simp only [scs] at HK
                have hfnR : ∀ f, Fence.wide.fn f := fun _ => trivial
                have hm : Tryz.prog.follows .mixedOrders = true := by kernel_rfl
                rcases hI.out.cases with rfl | ⟨j, rfl, hj⟩
                ·
                  go_wp2_with fail
                  refine wp_region_J (fun W => ((W.cell? ⟨wr.heap.size, 0, none⟩ = some (.int .i64 s.se) ∧ W.cell? ⟨wr.heap.size, 1, none⟩ = some (.int .i64 s.ob)) ∧ (W.cell? ⟨wr.heap.size, 2, none⟩ = some (.int .i64 s.li) ∧ W.cell? ⟨wr.heap.size, 3, none⟩ = some (.int .i64 s.sea)))) [] hm ?hCells0 (fun hCells => ?_)
                  case hCells0 => exact ⟨⟨z0, z1⟩, z2, z3⟩
                  generalize (wr.alloc (.cells #[.int .i64 s.se, .int .i64 s.ob, .int .i64 s.li, .int .i64 s.sea, .int .i64 s.wi] 30)).drew = W0 at *
                  refine takeB hfnR (by kernel_rfl) 0 (v := ?_) rfl (by kernel_rfl) (fun _ _ _ h => h) (by kernel_rfl) hCells (Or.inl ⟨by rfl, ?_⟩) ?_
                  rotate_left 1
                  · intro w hSw; (try dsimp only at hSw); go_simp; (try with_reducible rfl)
                  try simp only [Act.put, List.setIfInBounds_toArray, List.set_cons_zero, List.set_cons_succ]
                  refine takeB hfnR (by kernel_rfl) 1 (v := ?_) rfl (by kernel_rfl) (fun _ _ _ h => h) (by kernel_rfl) hCells (Or.inl ⟨by rfl, ?_⟩) ?_
                  rotate_left 1
                  · intro w hSw; (try dsimp only at hSw); go_simp; (try with_reducible rfl)
                  try simp only [Act.put, List.setIfInBounds_toArray, List.set_cons_zero, List.set_cons_succ]
                  refine takeB hfnR (by kernel_rfl) 2 (v := ?_) rfl (by kernel_rfl) (fun _ _ _ h => h) (by kernel_rfl) hCells (Or.inl ⟨by rfl, ?_⟩) ?_
                  rotate_left 1
                  · intro w hSw; (try dsimp only at hSw); go_simp; (try with_reducible rfl)
                  try simp only [Act.put, List.setIfInBounds_toArray, List.set_cons_zero, List.set_cons_succ]
                  refine takeB hfnR (by kernel_rfl) 3 (v := ?_) rfl (by kernel_rfl) (fun _ _ _ h => h) (by kernel_rfl) hCells (Or.inl ⟨by rfl, ?_⟩) ?_
                  rotate_left 1
                  · intro w hSw; (try dsimp only at hSw); go_simp; (try with_reducible rfl)
                  try simp only [Act.put, List.setIfInBounds_toArray, List.set_cons_zero, List.set_cons_succ]
                  refine takeB hfnR (by kernel_rfl) 4 (v := ?_) rfl (by kernel_rfl) (fun _ _ _ h => h) (by kernel_rfl) hCells (Or.inl ⟨by rfl, ?_⟩) ?_
                  rotate_left 1
                  · intro w hSw; (try dsimp only at hSw); go_simp; (try with_reducible rfl)
                  try simp only [Act.put, List.setIfInBounds_toArray, List.set_cons_zero, List.set_cons_succ]
                  refine takeB hfnR (by kernel_rfl) 5 (v := ?_) rfl (by kernel_rfl) (fun _ _ _ h => h) (by kernel_rfl) hCells (Or.inl ⟨by rfl, ?_⟩) ?_
                  rotate_left 1
                  · intro w hSw; (try dsimp only at hSw); go_simp; (try with_reducible rfl)
                  try simp only [Act.put, List.setIfInBounds_toArray, List.set_cons_zero, List.set_cons_succ]
                  refine takeB hfnR (by kernel_rfl) 6 (v := ?_) rfl (by kernel_rfl) (fun _ _ _ h => h) (by kernel_rfl) hCells (Or.inl ⟨by rfl, ?_⟩) ?_
                  rotate_left 1
                  · intro w hSw; (try dsimp only at hSw); go_simp; (try with_reducible rfl)
                  try simp only [Act.put, List.setIfInBounds_toArray, List.set_cons_zero, List.set_cons_succ]
                  refine takeB hfnR (by kernel_rfl) 7 (v := ?_) rfl (by kernel_rfl) (fun _ _ _ h => h) (by kernel_rfl) hCells (Or.inl ⟨by rfl, ?_⟩) ?_
                  rotate_left 1
                  · intro w hSw; (try dsimp only at hSw); go_simp; (try with_reducible rfl)
                  try simp only [Act.put, List.setIfInBounds_toArray, List.set_cons_zero, List.set_cons_succ]
                  refine takeB hfnR (by kernel_rfl) 8 (v := ?_) rfl (by kernel_rfl) (fun _ _ _ h => h) (by kernel_rfl) hCells (Or.inl ⟨by rfl, ?_⟩) ?_
                  rotate_left 1
                  · intro w hSw; (try dsimp only at hSw); go_simp; (try with_reducible rfl)
                  try simp only [Act.put, List.setIfInBounds_toArray, List.set_cons_zero, List.set_cons_succ]
                  refine takeB hfnR (by kernel_rfl) 9 (v := ?_) rfl (by kernel_rfl) (fun _ _ _ h => h) (by kernel_rfl) hCells (Or.inl ⟨by rfl, ?_⟩) ?_
                  rotate_left 1
                  · intro w hSw; (try dsimp only at hSw); go_simp; (try with_reducible rfl)
                  try simp only [Act.put, List.setIfInBounds_toArray, List.set_cons_zero, List.set_cons_succ]
                  refine takeB hfnR (by kernel_rfl) 10 (v := ?_) rfl (by kernel_rfl) (fun _ _ _ h => h) (by kernel_rfl) hCells (Or.inl ⟨by rfl, ?_⟩) ?_
                  rotate_left 1
                  · intro w hSw; (try dsimp only at hSw); go_simp; (try with_reducible rfl)
                  try simp only [Act.put, List.setIfInBounds_toArray, List.set_cons_zero, List.set_cons_succ]
                  refine takeB hfnR (by kernel_rfl) 11 (v := ?_) rfl (by kernel_rfl) (fun _ _ _ h => h) (by kernel_rfl) hCells (Or.inl ⟨by rfl, ?_⟩) ?_
                  rotate_left 1
                  · intro w hSw; (try dsimp only at hSw); go_simp; (try with_reducible rfl)
                  try simp only [Act.put, List.setIfInBounds_toArray, List.set_cons_zero, List.set_cons_succ]
                  refine takeB hfnR (by kernel_rfl) 12 (v := ?_) rfl (by kernel_rfl) (fun _ _ _ h => h) (by kernel_rfl) hCells (Or.inl ⟨by rfl, ?_⟩) ?_
                  rotate_left 1
                  · intro w hSw; (try dsimp only at hSw); go_simp; (try with_reducible rfl)
                  try simp only [Act.put, List.setIfInBounds_toArray, List.set_cons_zero, List.set_cons_succ]
                  refine takeB hfnR (by kernel_rfl) 13 (v := ?_) rfl (by kernel_rfl) (fun _ _ _ h => h) (by kernel_rfl) hCells (Or.inl ⟨by rfl, ?_⟩) ?_
                  rotate_left 1
                  · intro w hSw; (try dsimp only at hSw); go_simp; (try with_reducible rfl)
                  try simp only [Act.put, List.setIfInBounds_toArray, List.set_cons_zero, List.set_cons_succ]
                  refine takeB hfnR (by kernel_rfl) 14 (v := ?_) rfl (by kernel_rfl) (fun _ _ _ h => h) (by kernel_rfl) hCells (Or.inl ⟨by rfl, ?_⟩) ?_
                  rotate_left 1
                  · intro w hSw; (try dsimp only at hSw); go_simp; (try with_reducible rfl)
                  try simp only [Act.put, List.setIfInBounds_toArray, List.set_cons_zero, List.set_cons_succ]
                  refine takeB hfnR (by kernel_rfl) 15 (v := ?_) rfl (by kernel_rfl) (fun _ _ _ h => h) (by kernel_rfl) hCells (Or.inl ⟨by rfl, ?_⟩) ?_
                  rotate_left 1
                  · intro w hSw; (try dsimp only at hSw); go_simp; (try with_reducible rfl)
                  try simp only [Act.put, List.setIfInBounds_toArray, List.set_cons_zero, List.set_cons_succ]
                  refine takeB hfnR (by kernel_rfl) 16 (v := ?_) rfl (by kernel_rfl) (fun _ _ _ h => h) (by kernel_rfl) hCells (Or.inl ⟨by rfl, ?_⟩) ?_
                  rotate_left 1
                  · intro w hSw; (try dsimp only at hSw); go_simp; (try with_reducible rfl)
                  try simp only [Act.put, List.setIfInBounds_toArray, List.set_cons_zero, List.set_cons_succ]
                  refine takeB hfnR (by kernel_rfl) 17 (v := ?_) rfl (by kernel_rfl) (fun _ _ _ h => h) (by kernel_rfl) hCells (Or.inl ⟨by rfl, ?_⟩) ?_
                  rotate_left 1
                  · intro w hSw; (try dsimp only at hSw); go_simp; (try with_reducible rfl)
                  try simp only [Act.put, List.setIfInBounds_toArray, List.set_cons_zero, List.set_cons_succ]
                  refine takeB hfnR (by kernel_rfl) 18 (v := ?_) rfl (by kernel_rfl) (fun _ _ _ h => h) (by kernel_rfl) hCells (Or.inl ⟨by rfl, ?_⟩) ?_
                  rotate_left 1
                  · intro w hSw; (try dsimp only at hSw); go_simp; (try with_reducible rfl)
                  try simp only [Act.put, List.setIfInBounds_toArray, List.set_cons_zero, List.set_cons_succ]
                  refine takeB hfnR (by kernel_rfl) 19 (v := ?_) rfl (by kernel_rfl) (fun _ _ _ h => h) (by kernel_rfl) hCells (Or.inl ⟨by rfl, ?_⟩) ?_
                  rotate_left 1
                  · intro w hSw; (try dsimp only at hSw); go_simp; (try with_reducible rfl)
                  try simp only [Act.put, List.setIfInBounds_toArray, List.set_cons_zero, List.set_cons_succ]
                  refine takeB hfnR (by kernel_rfl) 20 (v := ?_) rfl (by kernel_rfl) (fun _ _ _ h => h) (by kernel_rfl) hCells (Or.inl ⟨by rfl, ?_⟩) ?_
                  rotate_left 1
                  · intro w hSw; (try dsimp only at hSw); go_simp; (try with_reducible rfl)
                  try simp only [Act.put, List.setIfInBounds_toArray, List.set_cons_zero, List.set_cons_succ]
                  refine takeB hfnR (by kernel_rfl) 21 (v := ?_) rfl (by kernel_rfl) (fun _ _ _ h => h) (by kernel_rfl) hCells (Or.inl ⟨by rfl, ?_⟩) ?_
                  rotate_left 1
                  · intro w hSw; (try dsimp only at hSw); go_simp; (try with_reducible rfl)
                  try simp only [Act.put, List.setIfInBounds_toArray, List.set_cons_zero, List.set_cons_succ]
                  refine takeB hfnR (by kernel_rfl) 22 (v := ?_) rfl (by kernel_rfl) (fun _ _ _ h => h) (by kernel_rfl) hCells (Or.inl ⟨by rfl, ?_⟩) ?_
                  rotate_left 1
                  · intro w hSw; (try dsimp only at hSw); go_simp; (try with_reducible rfl)
                  try simp only [Act.put, List.setIfInBounds_toArray, List.set_cons_zero, List.set_cons_succ]
                  refine takeB hfnR (by kernel_rfl) 23 (v := ?_) rfl (by kernel_rfl) (fun _ _ _ h => h) (by kernel_rfl) hCells (Or.inl ⟨by rfl, ?_⟩) ?_
                  rotate_left 1
                  · intro w hSw; (try dsimp only at hSw); go_simp; (try with_reducible rfl)
                  try simp only [Act.put, List.setIfInBounds_toArray, List.set_cons_zero, List.set_cons_succ]
                  refine takeB hfnR (by kernel_rfl) 24 (v := ?_) rfl (by kernel_rfl) (fun _ _ _ h => h) (by kernel_rfl) hCells (Or.inl ⟨by rfl, ?_⟩) ?_
                  rotate_left 1
                  · intro w hSw; (try dsimp only at hSw); go_simp; (try with_reducible rfl)
                  try simp only [Act.put, List.setIfInBounds_toArray, List.set_cons_zero, List.set_cons_succ]
                  refine takeB hfnR (by kernel_rfl) 25 (v := ?_) rfl (by kernel_rfl) (fun _ _ _ h => h) (by kernel_rfl) hCells (Or.inl ⟨by rfl, ?_⟩) ?_
                  rotate_left 1
                  · intro w hSw; (try dsimp only at hSw); go_simp; (try with_reducible rfl)
                  try simp only [Act.put, List.setIfInBounds_toArray, List.set_cons_zero, List.set_cons_succ]
                  refine takeB hfnR (by kernel_rfl) 26 (v := undef) rfl (by kernel_rfl) (fun _ _ _ h => h) (by kernel_rfl) hCells (Or.inr ⟨by rfl, rfl⟩) ?_
                  try simp only [Act.put, List.setIfInBounds_toArray, List.set_cons_zero, List.set_cons_succ]
                  refine takeB hfnR (by kernel_rfl) 27 (v := undef) rfl (by kernel_rfl) (fun _ _ _ h => h) (by kernel_rfl) hCells (Or.inr ⟨by rfl, rfl⟩) ?_
                  try simp only [Act.put, List.setIfInBounds_toArray, List.set_cons_zero, List.set_cons_succ]
                  refine takeB hfnR (by kernel_rfl) 28 (v := undef) rfl (by kernel_rfl) (fun _ _ _ h => h) (by kernel_rfl) hCells (Or.inr ⟨by rfl, rfl⟩) ?_
                  try simp only [Act.put, List.setIfInBounds_toArray, List.set_cons_zero, List.set_cons_succ]
                  refine takeB hfnR (by kernel_rfl) 29 (v := undef) rfl (by kernel_rfl) (fun _ _ _ h => h) (by kernel_rfl) hCells (Or.inr ⟨by rfl, rfl⟩) ?_
                  try simp only [Act.put, List.setIfInBounds_toArray, List.set_cons_zero, List.set_cons_succ]
                  refine takeB hfnR (by kernel_rfl) 30 (v := undef) rfl (by kernel_rfl) (fun _ _ _ h => h) (by kernel_rfl) hCells (Or.inr ⟨by rfl, rfl⟩) ?_
                  try simp only [Act.put, List.setIfInBounds_toArray, List.set_cons_zero, List.set_cons_succ]
                  refine takeB hfnR (by kernel_rfl) 31 (v := undef) rfl (by kernel_rfl) (fun _ _ _ h => h) (by kernel_rfl) hCells (Or.inr ⟨by rfl, rfl⟩) ?_
                  try simp only [Act.put, List.setIfInBounds_toArray, List.set_cons_zero, List.set_cons_succ]
                  refine takeB hfnR (by kernel_rfl) 32 (v := undef) rfl (by kernel_rfl) (fun _ _ _ h => h) (by kernel_rfl) hCells (Or.inr ⟨by rfl, rfl⟩) ?_
                  try simp only [Act.put, List.setIfInBounds_toArray, List.set_cons_zero, List.set_cons_succ]
                  refine takeB hfnR (by kernel_rfl) 33 (v := undef) rfl (by kernel_rfl) (fun _ _ _ h => h) (by kernel_rfl) hCells (Or.inr ⟨by rfl, rfl⟩) ?_
                  try simp only [Act.put, List.setIfInBounds_toArray, List.set_cons_zero, List.set_cons_succ]
                  refine takeB hfnR (by kernel_rfl) 34 (v := ?_) rfl (by kernel_rfl) (fun _ _ _ h => h) (by kernel_rfl) hCells (Or.inl ⟨by rfl, ?_⟩) ?_
                  rotate_left 1
                  · intro w hSw; (try dsimp only at hSw); go_simp; (try with_reducible rfl)
                  try simp only [Act.put, List.setIfInBounds_toArray, List.set_cons_zero, List.set_cons_succ]
                  refine takeB hfnR (by kernel_rfl) 35 (v := ?_) rfl (by kernel_rfl) (fun _ _ _ h => h) (by kernel_rfl) hCells (Or.inl ⟨by rfl, ?_⟩) ?_
                  rotate_left 1
                  · intro w hSw; (try dsimp only at hSw); go_simp; (try with_reducible rfl)
                  try simp only [Act.put, List.setIfInBounds_toArray, List.set_cons_zero, List.set_cons_succ]
                  refine wpAnyJ_done (by kernel_rfl) (NoPan.normal ?_) _
                  go_wp2_with fail
                  go_roundw
                  case rel => exact ⟨k + 1, _, by omega, rfl, by simp, HK.out.2.2, Lib.hid (hI.out.take HC.out (.inl rfl))⟩
                  case measure => simp [intOf]; omega
                ·
                  have hjn : j < N := by omega
                  have hcy := ((HCS.out.2 j hjn).below HB1.out HCS.out.1)
                  have HJ : Hid (∃ o, o = L.getD j .z) := Lib.hid ⟨_, rfl⟩
                  obtain ⟨o, ho⟩ := HJ.out
                  rw [← ho] at hcy
                  have HO := Lib.hid ho
                  have y3 := hcy.1.2.2
                  have hj0 : ¬ (j : Int) < 0 := by omega
                  have hjN : (j : Int) < (N : Int) := by omega
                  clear ho hcy
                  by_cases g2 : s.sea < o.sea
                  ·
                    have HG2 := Lib.hid g2
                    go_wp2_with fail
                    refine wp_region_J (fun W => ((W.cell? ⟨wr.heap.size, 0, none⟩ = some (.int .i64 s.se) ∧ W.cell? ⟨wr.heap.size, 1, none⟩ = some (.int .i64 s.ob)) ∧ (W.cell? ⟨wr.heap.size, 2, none⟩ = some (.int .i64 s.li) ∧ W.cell? ⟨wr.heap.size, 3, none⟩ = some (.int .i64 s.sea))) ∧ W.cell? ⟨gb, off + j * 5 + 3, none⟩ = some (.int .i64 o.sea)) [] hm ?hCells0 (fun hCells => ?_)
                    case hCells0 => exact ⟨⟨⟨z0, z1⟩, z2, z3⟩, y3⟩
                    generalize (wr.alloc (.cells #[.int .i64 s.se, .int .i64 s.ob, .int .i64 s.li, .int .i64 s.sea, .int .i64 s.wi] 30)).drew = W0 at *
                    refine takeB hfnR (by kernel_rfl) 0 (v := ?_) rfl (by kernel_rfl) (fun _ _ _ h => h) (by kernel_rfl) hCells (Or.inl ⟨by rfl, ?_⟩) ?_
                    rotate_left 1
                    · intro w hSw; (try dsimp only at hSw); go_simp; (try with_reducible rfl)
                    try simp only [Act.put, List.setIfInBounds_toArray, List.set_cons_zero, List.set_cons_succ]
                    refine takeB hfnR (by kernel_rfl) 1 (v := ?_) rfl (by kernel_rfl) (fun _ _ _ h => h) (by kernel_rfl) hCells (Or.inl ⟨by rfl, ?_⟩) ?_
                    rotate_left 1
                    · intro w hSw; (try dsimp only at hSw); go_simp; (try with_reducible rfl)
                    try simp only [Act.put, List.setIfInBounds_toArray, List.set_cons_zero, List.set_cons_succ]
                    refine takeB hfnR (by kernel_rfl) 2 (v := ?_) rfl (by kernel_rfl) (fun _ _ _ h => h) (by kernel_rfl) hCells (Or.inl ⟨by rfl, ?_⟩) ?_
                    rotate_left 1
                    · intro w hSw; (try dsimp only at hSw); go_simp; (try with_reducible rfl)
                    try simp only [Act.put, List.setIfInBounds_toArray, List.set_cons_zero, List.set_cons_succ]
                    refine takeB hfnR (by kernel_rfl) 3 (v := ?_) rfl (by kernel_rfl) (fun _ _ _ h => h) (by kernel_rfl) hCells (Or.inl ⟨by rfl, ?_⟩) ?_
                    rotate_left 1
                    · intro w hSw; (try dsimp only at hSw); go_simp; (try with_reducible rfl)
                    try simp only [Act.put, List.setIfInBounds_toArray, List.set_cons_zero, List.set_cons_succ]
                    refine takeB hfnR (by kernel_rfl) 4 (v := ?_) rfl (by kernel_rfl) (fun _ _ _ h => h) (by kernel_rfl) hCells (Or.inl ⟨by rfl, ?_⟩) ?_
                    rotate_left 1
                    · intro w hSw; (try dsimp only at hSw); go_simp; (try with_reducible rfl)
                    try simp only [Act.put, List.setIfInBounds_toArray, List.set_cons_zero, List.set_cons_succ]
                    refine takeB hfnR (by kernel_rfl) 5 (v := ?_) rfl (by kernel_rfl) (fun _ _ _ h => h) (by kernel_rfl) hCells (Or.inl ⟨by rfl, ?_⟩) ?_
                    rotate_left 1
                    · intro w hSw; (try dsimp only at hSw); go_simp; (try with_reducible rfl)
                    try simp only [Act.put, List.setIfInBounds_toArray, List.set_cons_zero, List.set_cons_succ]
                    refine takeB hfnR (by kernel_rfl) 6 (v := ?_) rfl (by kernel_rfl) (fun _ _ _ h => h) (by kernel_rfl) hCells (Or.inl ⟨by rfl, ?_⟩) ?_
                    rotate_left 1
                    · intro w hSw; (try dsimp only at hSw); go_simp; (try with_reducible rfl)
                    try simp only [Act.put, List.setIfInBounds_toArray, List.set_cons_zero, List.set_cons_succ]
                    refine takeB hfnR (by kernel_rfl) 7 (v := ?_) rfl (by kernel_rfl) (fun _ _ _ h => h) (by kernel_rfl) hCells (Or.inl ⟨by rfl, ?_⟩) ?_
                    rotate_left 1
                    · intro w hSw; (try dsimp only at hSw); go_simp; (try with_reducible rfl)
                    try simp only [Act.put, List.setIfInBounds_toArray, List.set_cons_zero, List.set_cons_succ]
                    refine takeB hfnR (by kernel_rfl) 8 (v := ?_) rfl (by kernel_rfl) (fun _ _ _ h => h) (by kernel_rfl) hCells (Or.inl ⟨by rfl, ?_⟩) ?_
                    rotate_left 1
                    · intro w hSw; (try dsimp only at hSw); go_simp; (try with_reducible rfl)
                    try simp only [Act.put, List.setIfInBounds_toArray, List.set_cons_zero, List.set_cons_succ]
                    refine takeB hfnR (by kernel_rfl) 9 (v := ?_) rfl (by kernel_rfl) (fun _ _ _ h => h) (by kernel_rfl) hCells (Or.inl ⟨by rfl, ?_⟩) ?_
                    rotate_left 1
                    · intro w hSw; (try dsimp only at hSw); go_simp; (try with_reducible rfl)
                    try simp only [Act.put, List.setIfInBounds_toArray, List.set_cons_zero, List.set_cons_succ]
                    refine takeB hfnR (by kernel_rfl) 10 (v := ?_) rfl (by kernel_rfl) (fun _ _ _ h => h) (by kernel_rfl) hCells (Or.inl ⟨by rfl, ?_⟩) ?_
                    rotate_left 1
                    · intro w hSw; (try dsimp only at hSw); go_simp; (try with_reducible rfl)
                    try simp only [Act.put, List.setIfInBounds_toArray, List.set_cons_zero, List.set_cons_succ]
                    refine takeB hfnR (by kernel_rfl) 11 (v := ?_) rfl (by kernel_rfl) (fun _ _ _ h => h) (by kernel_rfl) hCells (Or.inl ⟨by rfl, ?_⟩) ?_
                    rotate_left 1
                    · intro w hSw; (try dsimp only at hSw); go_simp; (try with_reducible rfl)
                    try simp only [Act.put, List.setIfInBounds_toArray, List.set_cons_zero, List.set_cons_succ]
                    refine takeB hfnR (by kernel_rfl) 12 (v := ?_) rfl (by kernel_rfl) (fun _ _ _ h => h) (by kernel_rfl) hCells (Or.inl ⟨by rfl, ?_⟩) ?_
                    rotate_left 1
                    · intro w hSw; (try dsimp only at hSw); go_simp; (try with_reducible rfl)
                    try simp only [Act.put, List.setIfInBounds_toArray, List.set_cons_zero, List.set_cons_succ]
                    refine takeB hfnR (by kernel_rfl) 13 (v := ?_) rfl (by kernel_rfl) (fun _ _ _ h => h) (by kernel_rfl) hCells (Or.inl ⟨by rfl, ?_⟩) ?_
                    rotate_left 1
                    · intro w hSw; (try dsimp only at hSw); go_simp; (try with_reducible rfl)
                    try simp only [Act.put, List.setIfInBounds_toArray, List.set_cons_zero, List.set_cons_succ]
                    refine takeB hfnR (by kernel_rfl) 14 (v := ?_) rfl (by kernel_rfl) (fun _ _ _ h => h) (by kernel_rfl) hCells (Or.inl ⟨by rfl, ?_⟩) ?_
                    rotate_left 1
                    · intro w hSw; (try dsimp only at hSw); go_simp; (try with_reducible rfl)
                    try simp only [Act.put, List.setIfInBounds_toArray, List.set_cons_zero, List.set_cons_succ]
                    refine takeB hfnR (by kernel_rfl) 15 (v := ?_) rfl (by kernel_rfl) (fun _ _ _ h => h) (by kernel_rfl) hCells (Or.inl ⟨by rfl, ?_⟩) ?_
                    rotate_left 1
                    · intro w hSw; (try dsimp only at hSw); go_simp; (try with_reducible rfl)
                    try simp only [Act.put, List.setIfInBounds_toArray, List.set_cons_zero, List.set_cons_succ]
                    refine takeB hfnR (by kernel_rfl) 16 (v := ?_) rfl (by kernel_rfl) (fun _ _ _ h => h) (by kernel_rfl) hCells (Or.inl ⟨by rfl, ?_⟩) ?_
                    rotate_left 1
                    · intro w hSw; (try dsimp only at hSw); go_simp; (try with_reducible rfl)
                    try simp only [Act.put, List.setIfInBounds_toArray, List.set_cons_zero, List.set_cons_succ]
                    refine takeB hfnR (by kernel_rfl) 17 (v := ?_) rfl (by kernel_rfl) (fun _ _ _ h => h) (by kernel_rfl) hCells (Or.inl ⟨by rfl, ?_⟩) ?_
                    rotate_left 1
                    · intro w hSw; (try dsimp only at hSw); go_simp; (try with_reducible rfl)
                    try simp only [Act.put, List.setIfInBounds_toArray, List.set_cons_zero, List.set_cons_succ]
                    refine takeB hfnR (by kernel_rfl) 18 (v := ?_) rfl (by kernel_rfl) (fun _ _ _ h => h) (by kernel_rfl) hCells (Or.inl ⟨by rfl, ?_⟩) ?_
                    rotate_left 1
                    · intro w hSw; (try dsimp only at hSw); go_simp; (try with_reducible rfl)
                    try simp only [Act.put, List.setIfInBounds_toArray, List.set_cons_zero, List.set_cons_succ]
                    refine takeB hfnR (by kernel_rfl) 19 (v := ?_) rfl (by kernel_rfl) (fun _ _ _ h => h) (by kernel_rfl) hCells (Or.inl ⟨by rfl, ?_⟩) ?_
                    rotate_left 1
                    · intro w hSw; (try dsimp only at hSw); go_simp; (try with_reducible rfl)
                    try simp only [Act.put, List.setIfInBounds_toArray, List.set_cons_zero, List.set_cons_succ]
                    refine takeB hfnR (by kernel_rfl) 20 (v := ?_) rfl (by kernel_rfl) (fun _ _ _ h => h) (by kernel_rfl) hCells (Or.inl ⟨by rfl, ?_⟩) ?_
                    rotate_left 1
                    · intro w hSw; (try dsimp only at hSw); go_simp; (try with_reducible rfl)
                    try simp only [Act.put, List.setIfInBounds_toArray, List.set_cons_zero, List.set_cons_succ]
                    refine takeB hfnR (by kernel_rfl) 21 (v := ?_) rfl (by kernel_rfl) (fun _ _ _ h => h) (by kernel_rfl) hCells (Or.inl ⟨by rfl, ?_⟩) ?_
                    rotate_left 1
                    · intro w hSw; (try dsimp only at hSw); go_simp; (try with_reducible rfl)
                    try simp only [Act.put, List.setIfInBounds_toArray, List.set_cons_zero, List.set_cons_succ]
                    refine takeB hfnR (by kernel_rfl) 22 (v := ?_) rfl (by kernel_rfl) (fun _ _ _ h => h) (by kernel_rfl) hCells (Or.inl ⟨by rfl, ?_⟩) ?_
                    rotate_left 1
                    · intro w hSw; (try dsimp only at hSw); go_simp; (try with_reducible rfl)
                    try simp only [Act.put, List.setIfInBounds_toArray, List.set_cons_zero, List.set_cons_succ]
                    refine takeB hfnR (by kernel_rfl) 23 (v := ?_) rfl (by kernel_rfl) (fun _ _ _ h => h) (by kernel_rfl) hCells (Or.inl ⟨by rfl, ?_⟩) ?_
                    rotate_left 1
                    · intro w hSw; (try dsimp only at hSw); go_simp; (try with_reducible rfl)
                    try simp only [Act.put, List.setIfInBounds_toArray, List.set_cons_zero, List.set_cons_succ]
                    refine takeB hfnR (by kernel_rfl) 24 (v := ?_) rfl (by kernel_rfl) (fun _ _ _ h => h) (by kernel_rfl) hCells (Or.inl ⟨by rfl, ?_⟩) ?_
                    rotate_left 1
                    · intro w hSw; (try dsimp only at hSw); go_simp; (try with_reducible rfl)
                    try simp only [Act.put, List.setIfInBounds_toArray, List.set_cons_zero, List.set_cons_succ]
                    refine takeB hfnR (by kernel_rfl) 25 (v := ?_) rfl (by kernel_rfl) (fun _ _ _ h => h) (by kernel_rfl) hCells (Or.inl ⟨by rfl, ?_⟩) ?_
                    rotate_left 1
                    · intro w hSw; (try dsimp only at hSw); go_simp; (try with_reducible rfl)
                    try simp only [Act.put, List.setIfInBounds_toArray, List.set_cons_zero, List.set_cons_succ]
                    refine takeB hfnR (by kernel_rfl) 26 (v := ?_) rfl (by kernel_rfl) (fun _ _ _ h => h) (by kernel_rfl) hCells (Or.inl ⟨by rfl, ?_⟩) ?_
                    rotate_left 1
                    · intro w hSw; (try dsimp only at hSw); go_simp; (try with_reducible rfl)
                    try simp only [Act.put, List.setIfInBounds_toArray, List.set_cons_zero, List.set_cons_succ]
                    refine takeB hfnR (by kernel_rfl) 27 (v := ?_) rfl (by kernel_rfl) (fun _ _ _ h => h) (by kernel_rfl) hCells (Or.inl ⟨by rfl, ?_⟩) ?_
                    rotate_left 1
                    · intro w hSw; (try dsimp only at hSw); go_simp; (try with_reducible rfl)
                    try simp only [Act.put, List.setIfInBounds_toArray, List.set_cons_zero, List.set_cons_succ]
                    refine takeB hfnR (by kernel_rfl) 28 (v := ?_) rfl (by kernel_rfl) (fun _ _ _ h => h) (by kernel_rfl) hCells (Or.inl ⟨by rfl, ?_⟩) ?_
                    rotate_left 1
                    · intro w hSw; (try dsimp only at hSw); go_simp; (try with_reducible rfl)
                    try simp only [Act.put, List.setIfInBounds_toArray, List.set_cons_zero, List.set_cons_succ]
                    refine takeB hfnR (by kernel_rfl) 29 (v := ?_) rfl (by kernel_rfl) (fun _ _ _ h => h) (by kernel_rfl) hCells (Or.inl ⟨by rfl, ?_⟩) ?_
                    rotate_left 1
                    · intro w hSw; (try dsimp only at hSw); go_simp; (try with_reducible rfl)
                    try simp only [Act.put, List.setIfInBounds_toArray, List.set_cons_zero, List.set_cons_succ]
                    refine takeB hfnR (by kernel_rfl) 30 (v := ?_) rfl (by kernel_rfl) (fun _ _ _ h => h) (by kernel_rfl) hCells (Or.inl ⟨by rfl, ?_⟩) ?_
                    rotate_left 1
                    · intro w hSw; (try dsimp only at hSw); go_simp; (try with_reducible rfl)
                    try simp only [Act.put, List.setIfInBounds_toArray, List.set_cons_zero, List.set_cons_succ]
                    refine takeB hfnR (by kernel_rfl) 31 (v := ?_) rfl (by kernel_rfl) (fun _ _ _ h => h) (by kernel_rfl) hCells (Or.inl ⟨by rfl, ?_⟩) ?_
                    rotate_left 1
                    · intro w hSw; (try dsimp only at hSw); go_simp; (try with_reducible rfl)
                    try simp only [Act.put, List.setIfInBounds_toArray, List.set_cons_zero, List.set_cons_succ]
                    refine takeB hfnR (by kernel_rfl) 32 (v := ?_) rfl (by kernel_rfl) (fun _ _ _ h => h) (by kernel_rfl) hCells (Or.inl ⟨by rfl, ?_⟩) ?_
                    rotate_left 1
                    · intro w hSw; (try dsimp only at hSw); go_simp; (try with_reducible rfl)
                    try simp only [Act.put, List.setIfInBounds_toArray, List.set_cons_zero, List.set_cons_succ]
                    refine takeB hfnR (by kernel_rfl) 33 (v := ?_) rfl (by kernel_rfl) (fun _ _ _ h => h) (by kernel_rfl) hCells (Or.inl ⟨by rfl, ?_⟩) ?_
                    rotate_left 1
                    · intro w hSw; (try dsimp only at hSw); go_simp; (try with_reducible rfl)
                    try simp only [Act.put, List.setIfInBounds_toArray, List.set_cons_zero, List.set_cons_succ]
                    refine takeB hfnR (by kernel_rfl) 34 (v := ?_) rfl (by kernel_rfl) (fun _ _ _ h => h) (by kernel_rfl) hCells (Or.inl ⟨by rfl, ?_⟩) ?_
                    rotate_left 1
                    · intro w hSw; (try dsimp only at hSw); go_simp; (try with_reducible rfl)
                    try simp only [Act.put, List.setIfInBounds_toArray, List.set_cons_zero, List.set_cons_succ]
                    refine takeB hfnR (by kernel_rfl) 35 (v := ?_) rfl (by kernel_rfl) (fun _ _ _ h => h) (by kernel_rfl) hCells (Or.inl ⟨by rfl, ?_⟩) ?_
                    rotate_left 1
                    · intro w hSw; (try dsimp only at hSw); go_simp; (try with_reducible rfl)
                    try simp only [Act.put, List.setIfInBounds_toArray, List.set_cons_zero, List.set_cons_succ]
                    refine wpAnyJ_done (by kernel_rfl) (NoPan.normal ?_) _
                    go_wp2_with fail
                    go_roundw
                    case rel => exact ⟨k + 1, _, by omega, rfl, by simp, HK.out.2.2, Lib.hid (hI.out.take HC.out (.inr ⟨j, rfl, by rw [← HS.out, ← HO.out]; exact HG2.out⟩))⟩
                    case measure => simp [intOf]; omega
                  ·
                    have HG2 := Lib.hid g2
                    go_wp2_with fail
                    refine wp_region_J (fun W => ((W.cell? ⟨wr.heap.size, 0, none⟩ = some (.int .i64 s.se) ∧ W.cell? ⟨wr.heap.size, 1, none⟩ = some (.int .i64 s.ob)) ∧ (W.cell? ⟨wr.heap.size, 2, none⟩ = some (.int .i64 s.li) ∧ W.cell? ⟨wr.heap.size, 3, none⟩ = some (.int .i64 s.sea))) ∧ W.cell? ⟨gb, off + j * 5 + 3, none⟩ = some (.int .i64 o.sea)) [] hm ?hCells0 (fun hCells => ?_)
                    case hCells0 => exact ⟨⟨⟨z0, z1⟩, z2, z3⟩, y3⟩
                    generalize (wr.alloc (.cells #[.int .i64 s.se, .int .i64 s.ob, .int .i64 s.li, .int .i64 s.sea, .int .i64 s.wi] 30)).drew = W0 at *
                    refine takeB hfnR (by kernel_rfl) 0 (v := ?_) rfl (by kernel_rfl) (fun _ _ _ h => h) (by kernel_rfl) hCells (Or.inl ⟨by rfl, ?_⟩) ?_
                    rotate_left 1
                    · intro w hSw; (try dsimp only at hSw); go_simp; (try with_reducible rfl)
                    try simp only [Act.put, List.setIfInBounds_toArray, List.set_cons_zero, List.set_cons_succ]
                    refine takeB hfnR (by kernel_rfl) 1 (v := ?_) rfl (by kernel_rfl) (fun _ _ _ h => h) (by kernel_rfl) hCells (Or.inl ⟨by rfl, ?_⟩) ?_
                    rotate_left 1
                    · intro w hSw; (try dsimp only at hSw); go_simp; (try with_reducible rfl)
                    try simp only [Act.put, List.setIfInBounds_toArray, List.set_cons_zero, List.set_cons_succ]
                    refine takeB hfnR (by kernel_rfl) 2 (v := ?_) rfl (by kernel_rfl) (fun _ _ _ h => h) (by kernel_rfl) hCells (Or.inl ⟨by rfl, ?_⟩) ?_
                    rotate_left 1
                    · intro w hSw; (try dsimp only at hSw); go_simp; (try with_reducible rfl)
                    try simp only [Act.put, List.setIfInBounds_toArray, List.set_cons_zero, List.set_cons_succ]
                    refine takeB hfnR (by kernel_rfl) 3 (v := ?_) rfl (by kernel_rfl) (fun _ _ _ h => h) (by kernel_rfl) hCells (Or.inl ⟨by rfl, ?_⟩) ?_
                    rotate_left 1
                    · intro w hSw; (try dsimp only at hSw); go_simp; (try with_reducible rfl)
                    try simp only [Act.put, List.setIfInBounds_toArray, List.set_cons_zero, List.set_cons_succ]
                    refine takeB hfnR (by kernel_rfl) 4 (v := ?_) rfl (by kernel_rfl) (fun _ _ _ h => h) (by kernel_rfl) hCells (Or.inl ⟨by rfl, ?_⟩) ?_
                    rotate_left 1
                    · intro w hSw; (try dsimp only at hSw); go_simp; (try with_reducible rfl)
                    try simp only [Act.put, List.setIfInBounds_toArray, List.set_cons_zero, List.set_cons_succ]
                    refine takeB hfnR (by kernel_rfl) 5 (v := ?_) rfl (by kernel_rfl) (fun _ _ _ h => h) (by kernel_rfl) hCells (Or.inl ⟨by rfl, ?_⟩) ?_
                    rotate_left 1
                    · intro w hSw; (try dsimp only at hSw); go_simp; (try with_reducible rfl)
                    try simp only [Act.put, List.setIfInBounds_toArray, List.set_cons_zero, List.set_cons_succ]
                    refine takeB hfnR (by kernel_rfl) 6 (v := ?_) rfl (by kernel_rfl) (fun _ _ _ h => h) (by kernel_rfl) hCells (Or.inl ⟨by rfl, ?_⟩) ?_
                    rotate_left 1
                    · intro w hSw; (try dsimp only at hSw); go_simp; (try with_reducible rfl)
                    try simp only [Act.put, List.setIfInBounds_toArray, List.set_cons_zero, List.set_cons_succ]
                    refine takeB hfnR (by kernel_rfl) 7 (v := ?_) rfl (by kernel_rfl) (fun _ _ _ h => h) (by kernel_rfl) hCells (Or.inl ⟨by rfl, ?_⟩) ?_
                    rotate_left 1
                    · intro w hSw; (try dsimp only at hSw); go_simp; (try with_reducible rfl)
                    try simp only [Act.put, List.setIfInBounds_toArray, List.set_cons_zero, List.set_cons_succ]
                    refine takeB hfnR (by kernel_rfl) 8 (v := ?_) rfl (by kernel_rfl) (fun _ _ _ h => h) (by kernel_rfl) hCells (Or.inl ⟨by rfl, ?_⟩) ?_
                    rotate_left 1
                    · intro w hSw; (try dsimp only at hSw); go_simp; (try with_reducible rfl)
                    try simp only [Act.put, List.setIfInBounds_toArray, List.set_cons_zero, List.set_cons_succ]
                    refine takeB hfnR (by kernel_rfl) 9 (v := ?_) rfl (by kernel_rfl) (fun _ _ _ h => h) (by kernel_rfl) hCells (Or.inl ⟨by rfl, ?_⟩) ?_
                    rotate_left 1
                    · intro w hSw; (try dsimp only at hSw); go_simp; (try with_reducible rfl)
                    try simp only [Act.put, List.setIfInBounds_toArray, List.set_cons_zero, List.set_cons_succ]
                    refine takeB hfnR (by kernel_rfl) 10 (v := ?_) rfl (by kernel_rfl) (fun _ _ _ h => h) (by kernel_rfl) hCells (Or.inl ⟨by rfl, ?_⟩) ?_
                    rotate_left 1
                    · intro w hSw; (try dsimp only at hSw); go_simp; (try with_reducible rfl)
                    try simp only [Act.put, List.setIfInBounds_toArray, List.set_cons_zero, List.set_cons_succ]
                    refine takeB hfnR (by kernel_rfl) 11 (v := ?_) rfl (by kernel_rfl) (fun _ _ _ h => h) (by kernel_rfl) hCells (Or.inl ⟨by rfl, ?_⟩) ?_
                    rotate_left 1
                    · intro w hSw; (try dsimp only at hSw); go_simp; (try with_reducible rfl)
                    try simp only [Act.put, List.setIfInBounds_toArray, List.set_cons_zero, List.set_cons_succ]
                    refine takeB hfnR (by kernel_rfl) 12 (v := ?_) rfl (by kernel_rfl) (fun _ _ _ h => h) (by kernel_rfl) hCells (Or.inl ⟨by rfl, ?_⟩) ?_
                    rotate_left 1
                    · intro w hSw; (try dsimp only at hSw); go_simp; (try with_reducible rfl)
                    try simp only [Act.put, List.setIfInBounds_toArray, List.set_cons_zero, List.set_cons_succ]
                    refine takeB hfnR (by kernel_rfl) 13 (v := ?_) rfl (by kernel_rfl) (fun _ _ _ h => h) (by kernel_rfl) hCells (Or.inl ⟨by rfl, ?_⟩) ?_
                    rotate_left 1
                    · intro w hSw; (try dsimp only at hSw); go_simp; (try with_reducible rfl)
                    try simp only [Act.put, List.setIfInBounds_toArray, List.set_cons_zero, List.set_cons_succ]
                    refine takeB hfnR (by kernel_rfl) 14 (v := ?_) rfl (by kernel_rfl) (fun _ _ _ h => h) (by kernel_rfl) hCells (Or.inl ⟨by rfl, ?_⟩) ?_
                    rotate_left 1
                    · intro w hSw; (try dsimp only at hSw); go_simp; (try with_reducible rfl)
                    try simp only [Act.put, List.setIfInBounds_toArray, List.set_cons_zero, List.set_cons_succ]
                    refine takeB hfnR (by kernel_rfl) 15 (v := ?_) rfl (by kernel_rfl) (fun _ _ _ h => h) (by kernel_rfl) hCells (Or.inl ⟨by rfl, ?_⟩) ?_
                    rotate_left 1
                    · intro w hSw; (try dsimp only at hSw); go_simp; (try with_reducible rfl)
                    try simp only [Act.put, List.setIfInBounds_toArray, List.set_cons_zero, List.set_cons_succ]
                    refine takeB hfnR (by kernel_rfl) 16 (v := ?_) rfl (by kernel_rfl) (fun _ _ _ h => h) (by kernel_rfl) hCells (Or.inl ⟨by rfl, ?_⟩) ?_
                    rotate_left 1
                    · intro w hSw; (try dsimp only at hSw); go_simp; (try with_reducible rfl)
                    try simp only [Act.put, List.setIfInBounds_toArray, List.set_cons_zero, List.set_cons_succ]
                    refine takeB hfnR (by kernel_rfl) 17 (v := ?_) rfl (by kernel_rfl) (fun _ _ _ h => h) (by kernel_rfl) hCells (Or.inl ⟨by rfl, ?_⟩) ?_
                    rotate_left 1
                    · intro w hSw; (try dsimp only at hSw); go_simp; (try with_reducible rfl)
                    try simp only [Act.put, List.setIfInBounds_toArray, List.set_cons_zero, List.set_cons_succ]
                    refine takeB hfnR (by kernel_rfl) 18 (v := ?_) rfl (by kernel_rfl) (fun _ _ _ h => h) (by kernel_rfl) hCells (Or.inl ⟨by rfl, ?_⟩) ?_
                    rotate_left 1
                    · intro w hSw; (try dsimp only at hSw); go_simp; (try with_reducible rfl)
                    try simp only [Act.put, List.setIfInBounds_toArray, List.set_cons_zero, List.set_cons_succ]
                    refine takeB hfnR (by kernel_rfl) 19 (v := ?_) rfl (by kernel_rfl) (fun _ _ _ h => h) (by kernel_rfl) hCells (Or.inl ⟨by rfl, ?_⟩) ?_
                    rotate_left 1
                    · intro w hSw; (try dsimp only at hSw); go_simp; (try with_reducible rfl)
                    try simp only [Act.put, List.setIfInBounds_toArray, List.set_cons_zero, List.set_cons_succ]
                    refine takeB hfnR (by kernel_rfl) 20 (v := ?_) rfl (by kernel_rfl) (fun _ _ _ h => h) (by kernel_rfl) hCells (Or.inl ⟨by rfl, ?_⟩) ?_
                    rotate_left 1
                    · intro w hSw; (try dsimp only at hSw); go_simp; (try with_reducible rfl)
                    try simp only [Act.put, List.setIfInBounds_toArray, List.set_cons_zero, List.set_cons_succ]
                    refine takeB hfnR (by kernel_rfl) 21 (v := ?_) rfl (by kernel_rfl) (fun _ _ _ h => h) (by kernel_rfl) hCells (Or.inl ⟨by rfl, ?_⟩) ?_
                    rotate_left 1
                    · intro w hSw; (try dsimp only at hSw); go_simp; (try with_reducible rfl)
                    try simp only [Act.put, List.setIfInBounds_toArray, List.set_cons_zero, List.set_cons_succ]
                    refine takeB hfnR (by kernel_rfl) 22 (v := ?_) rfl (by kernel_rfl) (fun _ _ _ h => h) (by kernel_rfl) hCells (Or.inl ⟨by rfl, ?_⟩) ?_
                    rotate_left 1
                    · intro w hSw; (try dsimp only at hSw); go_simp; (try with_reducible rfl)
                    try simp only [Act.put, List.setIfInBounds_toArray, List.set_cons_zero, List.set_cons_succ]
                    refine takeB hfnR (by kernel_rfl) 23 (v := ?_) rfl (by kernel_rfl) (fun _ _ _ h => h) (by kernel_rfl) hCells (Or.inl ⟨by rfl, ?_⟩) ?_
                    rotate_left 1
                    · intro w hSw; (try dsimp only at hSw); go_simp; (try with_reducible rfl)
                    try simp only [Act.put, List.setIfInBounds_toArray, List.set_cons_zero, List.set_cons_succ]
                    refine takeB hfnR (by kernel_rfl) 24 (v := ?_) rfl (by kernel_rfl) (fun _ _ _ h => h) (by kernel_rfl) hCells (Or.inl ⟨by rfl, ?_⟩) ?_
                    rotate_left 1
                    · intro w hSw; (try dsimp only at hSw); go_simp; (try with_reducible rfl)
                    try simp only [Act.put, List.setIfInBounds_toArray, List.set_cons_zero, List.set_cons_succ]
                    refine takeB hfnR (by kernel_rfl) 25 (v := ?_) rfl (by kernel_rfl) (fun _ _ _ h => h) (by kernel_rfl) hCells (Or.inl ⟨by rfl, ?_⟩) ?_
                    rotate_left 1
                    · intro w hSw; (try dsimp only at hSw); go_simp; (try with_reducible rfl)
                    try simp only [Act.put, List.setIfInBounds_toArray, List.set_cons_zero, List.set_cons_succ]
                    refine takeB hfnR (by kernel_rfl) 26 (v := ?_) rfl (by kernel_rfl) (fun _ _ _ h => h) (by kernel_rfl) hCells (Or.inl ⟨by rfl, ?_⟩) ?_
                    rotate_left 1
                    · intro w hSw; (try dsimp only at hSw); go_simp; (try with_reducible rfl)
                    try simp only [Act.put, List.setIfInBounds_toArray, List.set_cons_zero, List.set_cons_succ]
                    refine takeB hfnR (by kernel_rfl) 27 (v := ?_) rfl (by kernel_rfl) (fun _ _ _ h => h) (by kernel_rfl) hCells (Or.inl ⟨by rfl, ?_⟩) ?_
                    rotate_left 1
                    · intro w hSw; (try dsimp only at hSw); go_simp; (try with_reducible rfl)
                    try simp only [Act.put, List.setIfInBounds_toArray, List.set_cons_zero, List.set_cons_succ]
                    refine takeB hfnR (by kernel_rfl) 28 (v := ?_) rfl (by kernel_rfl) (fun _ _ _ h => h) (by kernel_rfl) hCells (Or.inl ⟨by rfl, ?_⟩) ?_
                    rotate_left 1
                    · intro w hSw; (try dsimp only at hSw); go_simp; (try with_reducible rfl)
                    try simp only [Act.put, List.setIfInBounds_toArray, List.set_cons_zero, List.set_cons_succ]
                    refine takeB hfnR (by kernel_rfl) 29 (v := ?_) rfl (by kernel_rfl) (fun _ _ _ h => h) (by kernel_rfl) hCells (Or.inl ⟨by rfl, ?_⟩) ?_
                    rotate_left 1
                    · intro w hSw; (try dsimp only at hSw); go_simp; (try with_reducible rfl)
                    try simp only [Act.put, List.setIfInBounds_toArray, List.set_cons_zero, List.set_cons_succ]
                    refine takeB hfnR (by kernel_rfl) 30 (v := ?_) rfl (by kernel_rfl) (fun _ _ _ h => h) (by kernel_rfl) hCells (Or.inl ⟨by rfl, ?_⟩) ?_
                    rotate_left 1
                    · intro w hSw; (try dsimp only at hSw); go_simp; (try with_reducible rfl)
                    try simp only [Act.put, List.setIfInBounds_toArray, List.set_cons_zero, List.set_cons_succ]
                    refine takeB hfnR (by kernel_rfl) 31 (v := ?_) rfl (by kernel_rfl) (fun _ _ _ h => h) (by kernel_rfl) hCells (Or.inl ⟨by rfl, ?_⟩) ?_
                    rotate_left 1
                    · intro w hSw; (try dsimp only at hSw); go_simp; (try with_reducible rfl)
                    try simp only [Act.put, List.setIfInBounds_toArray, List.set_cons_zero, List.set_cons_succ]
                    refine takeB hfnR (by kernel_rfl) 32 (v := ?_) rfl (by kernel_rfl) (fun _ _ _ h => h) (by kernel_rfl) hCells (Or.inl ⟨by rfl, ?_⟩) ?_
                    rotate_left 1
                    · intro w hSw; (try dsimp only at hSw); go_simp; (try with_reducible rfl)
                    try simp only [Act.put, List.setIfInBounds_toArray, List.set_cons_zero, List.set_cons_succ]
                    refine takeB hfnR (by kernel_rfl) 33 (v := ?_) rfl (by kernel_rfl) (fun _ _ _ h => h) (by kernel_rfl) hCells (Or.inl ⟨by rfl, ?_⟩) ?_
                    rotate_left 1
                    · intro w hSw; (try dsimp only at hSw); go_simp; (try with_reducible rfl)
                    try simp only [Act.put, List.setIfInBounds_toArray, List.set_cons_zero, List.set_cons_succ]
                    refine takeB hfnR (by kernel_rfl) 34 (v := ?_) rfl (by kernel_rfl) (fun _ _ _ h => h) (by kernel_rfl) hCells (Or.inl ⟨by rfl, ?_⟩) ?_
                    rotate_left 1
                    · intro w hSw; (try dsimp only at hSw); go_simp; (try with_reducible rfl)
                    try simp only [Act.put, List.setIfInBounds_toArray, List.set_cons_zero, List.set_cons_succ]
                    refine takeB hfnR (by kernel_rfl) 35 (v := ?_) rfl (by kernel_rfl) (fun _ _ _ h => h) (by kernel_rfl) hCells (Or.inl ⟨by rfl, ?_⟩) ?_
                    rotate_left 1
                    · intro w hSw; (try dsimp only at hSw); go_simp; (try with_reducible rfl)
                    try simp only [Act.put, List.setIfInBounds_toArray, List.set_cons_zero, List.set_cons_succ]
                    refine wpAnyJ_done (by kernel_rfl) (NoPan.normal ?_) _
                    go_wp2_with fail
                    go_roundw
                    case rel => exact ⟨k + 1, _, by omega, rfl, by simp, HK.out.2.2, Lib.hid (hI.out.keep (by rw [← HS.out, ← HO.out]; have := HG2.out; omega))⟩
                    case measure => simp [intOf]; omega
              ·
                have HG := Lib.hid g
                have g3 : s.sea < sea := by omega
                have g4 : (sea ≤ s.sea) = False := eq_false g
                have g5 : decide (sea ≤ s.sea) = false := decide_eq_false g
                have HK := Lib.hid ((Kept.of (Nat.le_refl _) HB1.out.size HB1.out).drew)
                simp only [scs] at HK
                have hfnR : ∀ f, Fence.wide.fn f := fun _ => trivial
                have hm : Tryz.prog.follows .mixedOrders = true := by kernel_rfl
                go_wp2_with fail
                refine wp_region_J (fun W => ((W.cell? ⟨wr.heap.size, 0, none⟩ = some (.int .i64 s.se) ∧ W.cell? ⟨wr.heap.size, 1, none⟩ = some (.int .i64 s.ob)) ∧ (W.cell? ⟨wr.heap.size, 2, none⟩ = some (.int .i64 s.li) ∧ W.cell? ⟨wr.heap.size, 3, none⟩ = some (.int .i64 s.sea)))) [] hm ?hCells0 (fun hCells => ?_)
                case hCells0 => exact ⟨⟨z0, z1⟩, z2, z3⟩
                generalize (wr.alloc (.cells #[.int .i64 s.se, .int .i64 s.ob, .int .i64 s.li, .int .i64 s.sea, .int .i64 s.wi] 30)).drew = W0 at *
                refine takeB hfnR (by kernel_rfl) 0 (v := ?_) rfl (by kernel_rfl) (fun _ _ _ h => h) (by kernel_rfl) hCells (Or.inl ⟨by rfl, ?_⟩) ?_
                rotate_left 1
                · intro w hSw; (try dsimp only at hSw); go_simp; (try with_reducible rfl)
                try simp only [Act.put, List.setIfInBounds_toArray, List.set_cons_zero, List.set_cons_succ]
                refine takeB hfnR (by kernel_rfl) 1 (v := ?_) rfl (by kernel_rfl) (fun _ _ _ h => h) (by kernel_rfl) hCells (Or.inl ⟨by rfl, ?_⟩) ?_
                rotate_left 1
                · intro w hSw; (try dsimp only at hSw); go_simp; (try with_reducible rfl)
                try simp only [Act.put, List.setIfInBounds_toArray, List.set_cons_zero, List.set_cons_succ]
                refine takeB hfnR (by kernel_rfl) 2 (v := ?_) rfl (by kernel_rfl) (fun _ _ _ h => h) (by kernel_rfl) hCells (Or.inl ⟨by rfl, ?_⟩) ?_
                rotate_left 1
                · intro w hSw; (try dsimp only at hSw); go_simp; (try with_reducible rfl)
                try simp only [Act.put, List.setIfInBounds_toArray, List.set_cons_zero, List.set_cons_succ]
                refine takeB hfnR (by kernel_rfl) 3 (v := ?_) rfl (by kernel_rfl) (fun _ _ _ h => h) (by kernel_rfl) hCells (Or.inl ⟨by rfl, ?_⟩) ?_
                rotate_left 1
                · intro w hSw; (try dsimp only at hSw); go_simp; (try with_reducible rfl)
                try simp only [Act.put, List.setIfInBounds_toArray, List.set_cons_zero, List.set_cons_succ]
                refine takeB hfnR (by kernel_rfl) 4 (v := ?_) rfl (by kernel_rfl) (fun _ _ _ h => h) (by kernel_rfl) hCells (Or.inl ⟨by rfl, ?_⟩) ?_
                rotate_left 1
                · intro w hSw; (try dsimp only at hSw); go_simp; (try with_reducible rfl)
                try simp only [Act.put, List.setIfInBounds_toArray, List.set_cons_zero, List.set_cons_succ]
                refine takeB hfnR (by kernel_rfl) 5 (v := ?_) rfl (by kernel_rfl) (fun _ _ _ h => h) (by kernel_rfl) hCells (Or.inl ⟨by rfl, ?_⟩) ?_
                rotate_left 1
                · intro w hSw; (try dsimp only at hSw); go_simp; (try with_reducible rfl)
                try simp only [Act.put, List.setIfInBounds_toArray, List.set_cons_zero, List.set_cons_succ]
                refine takeB hfnR (by kernel_rfl) 6 (v := ?_) rfl (by kernel_rfl) (fun _ _ _ h => h) (by kernel_rfl) hCells (Or.inl ⟨by rfl, ?_⟩) ?_
                rotate_left 1
                · intro w hSw; (try dsimp only at hSw); go_simp; (try with_reducible rfl)
                try simp only [Act.put, List.setIfInBounds_toArray, List.set_cons_zero, List.set_cons_succ]
                refine takeB hfnR (by kernel_rfl) 7 (v := ?_) rfl (by kernel_rfl) (fun _ _ _ h => h) (by kernel_rfl) hCells (Or.inl ⟨by rfl, ?_⟩) ?_
                rotate_left 1
                · intro w hSw; (try dsimp only at hSw); go_simp; (try with_reducible rfl)
                try simp only [Act.put, List.setIfInBounds_toArray, List.set_cons_zero, List.set_cons_succ]
                refine takeB hfnR (by kernel_rfl) 8 (v := ?_) rfl (by kernel_rfl) (fun _ _ _ h => h) (by kernel_rfl) hCells (Or.inl ⟨by rfl, ?_⟩) ?_
                rotate_left 1
                · intro w hSw; (try dsimp only at hSw); go_simp; (try with_reducible rfl)
                try simp only [Act.put, List.setIfInBounds_toArray, List.set_cons_zero, List.set_cons_succ]
                refine takeB hfnR (by kernel_rfl) 9 (v := ?_) rfl (by kernel_rfl) (fun _ _ _ h => h) (by kernel_rfl) hCells (Or.inl ⟨by rfl, ?_⟩) ?_
                rotate_left 1
                · intro w hSw; (try dsimp only at hSw); go_simp; (try with_reducible rfl)
                try simp only [Act.put, List.setIfInBounds_toArray, List.set_cons_zero, List.set_cons_succ]
                refine takeB hfnR (by kernel_rfl) 10 (v := ?_) rfl (by kernel_rfl) (fun _ _ _ h => h) (by kernel_rfl) hCells (Or.inl ⟨by rfl, ?_⟩) ?_
                rotate_left 1
                · intro w hSw; (try dsimp only at hSw); go_simp; (try with_reducible rfl)
                try simp only [Act.put, List.setIfInBounds_toArray, List.set_cons_zero, List.set_cons_succ]
                refine takeB hfnR (by kernel_rfl) 11 (v := ?_) rfl (by kernel_rfl) (fun _ _ _ h => h) (by kernel_rfl) hCells (Or.inl ⟨by rfl, ?_⟩) ?_
                rotate_left 1
                · intro w hSw; (try dsimp only at hSw); go_simp; (try with_reducible rfl)
                try simp only [Act.put, List.setIfInBounds_toArray, List.set_cons_zero, List.set_cons_succ]
                refine takeB hfnR (by kernel_rfl) 12 (v := ?_) rfl (by kernel_rfl) (fun _ _ _ h => h) (by kernel_rfl) hCells (Or.inl ⟨by rfl, ?_⟩) ?_
                rotate_left 1
                · intro w hSw; (try dsimp only at hSw); go_simp; (try with_reducible rfl)
                try simp only [Act.put, List.setIfInBounds_toArray, List.set_cons_zero, List.set_cons_succ]
                refine takeB hfnR (by kernel_rfl) 13 (v := ?_) rfl (by kernel_rfl) (fun _ _ _ h => h) (by kernel_rfl) hCells (Or.inl ⟨by rfl, ?_⟩) ?_
                rotate_left 1
                · intro w hSw; (try dsimp only at hSw); go_simp; (try with_reducible rfl)
                try simp only [Act.put, List.setIfInBounds_toArray, List.set_cons_zero, List.set_cons_succ]
                refine takeB hfnR (by kernel_rfl) 14 (v := ?_) rfl (by kernel_rfl) (fun _ _ _ h => h) (by kernel_rfl) hCells (Or.inl ⟨by rfl, ?_⟩) ?_
                rotate_left 1
                · intro w hSw; (try dsimp only at hSw); go_simp; (try with_reducible rfl)
                try simp only [Act.put, List.setIfInBounds_toArray, List.set_cons_zero, List.set_cons_succ]
                refine takeB hfnR (by kernel_rfl) 15 (v := ?_) rfl (by kernel_rfl) (fun _ _ _ h => h) (by kernel_rfl) hCells (Or.inl ⟨by rfl, ?_⟩) ?_
                rotate_left 1
                · intro w hSw; (try dsimp only at hSw); go_simp; (try with_reducible rfl)
                try simp only [Act.put, List.setIfInBounds_toArray, List.set_cons_zero, List.set_cons_succ]
                refine takeB hfnR (by kernel_rfl) 16 (v := ?_) rfl (by kernel_rfl) (fun _ _ _ h => h) (by kernel_rfl) hCells (Or.inl ⟨by rfl, ?_⟩) ?_
                rotate_left 1
                · intro w hSw; (try dsimp only at hSw); go_simp; (try with_reducible rfl)
                try simp only [Act.put, List.setIfInBounds_toArray, List.set_cons_zero, List.set_cons_succ]
                refine takeB hfnR (by kernel_rfl) 17 (v := ?_) rfl (by kernel_rfl) (fun _ _ _ h => h) (by kernel_rfl) hCells (Or.inl ⟨by rfl, ?_⟩) ?_
                rotate_left 1
                · intro w hSw; (try dsimp only at hSw); go_simp; (try with_reducible rfl)
                try simp only [Act.put, List.setIfInBounds_toArray, List.set_cons_zero, List.set_cons_succ]
                refine takeB hfnR (by kernel_rfl) 18 (v := ?_) rfl (by kernel_rfl) (fun _ _ _ h => h) (by kernel_rfl) hCells (Or.inl ⟨by rfl, ?_⟩) ?_
                rotate_left 1
                · intro w hSw; (try dsimp only at hSw); go_simp; (try with_reducible rfl)
                try simp only [Act.put, List.setIfInBounds_toArray, List.set_cons_zero, List.set_cons_succ]
                refine takeB hfnR (by kernel_rfl) 19 (v := ?_) rfl (by kernel_rfl) (fun _ _ _ h => h) (by kernel_rfl) hCells (Or.inl ⟨by rfl, ?_⟩) ?_
                rotate_left 1
                · intro w hSw; (try dsimp only at hSw); go_simp; (try with_reducible rfl)
                try simp only [Act.put, List.setIfInBounds_toArray, List.set_cons_zero, List.set_cons_succ]
                refine takeB hfnR (by kernel_rfl) 20 (v := ?_) rfl (by kernel_rfl) (fun _ _ _ h => h) (by kernel_rfl) hCells (Or.inl ⟨by rfl, ?_⟩) ?_
                rotate_left 1
                · intro w hSw; (try dsimp only at hSw); go_simp; (try with_reducible rfl)
                try simp only [Act.put, List.setIfInBounds_toArray, List.set_cons_zero, List.set_cons_succ]
                refine takeB hfnR (by kernel_rfl) 21 (v := ?_) rfl (by kernel_rfl) (fun _ _ _ h => h) (by kernel_rfl) hCells (Or.inl ⟨by rfl, ?_⟩) ?_
                rotate_left 1
                · intro w hSw; (try dsimp only at hSw); go_simp; (try with_reducible rfl)
                try simp only [Act.put, List.setIfInBounds_toArray, List.set_cons_zero, List.set_cons_succ]
                refine takeB hfnR (by kernel_rfl) 22 (v := ?_) rfl (by kernel_rfl) (fun _ _ _ h => h) (by kernel_rfl) hCells (Or.inl ⟨by rfl, ?_⟩) ?_
                rotate_left 1
                · intro w hSw; (try dsimp only at hSw); go_simp; (try with_reducible rfl)
                try simp only [Act.put, List.setIfInBounds_toArray, List.set_cons_zero, List.set_cons_succ]
                refine takeB hfnR (by kernel_rfl) 23 (v := undef) rfl (by kernel_rfl) (fun _ _ _ h => h) (by kernel_rfl) hCells (Or.inr ⟨by rfl, rfl⟩) ?_
                try simp only [Act.put, List.setIfInBounds_toArray, List.set_cons_zero, List.set_cons_succ]
                refine takeB hfnR (by kernel_rfl) 24 (v := undef) rfl (by kernel_rfl) (fun _ _ _ h => h) (by kernel_rfl) hCells (Or.inr ⟨by rfl, rfl⟩) ?_
                try simp only [Act.put, List.setIfInBounds_toArray, List.set_cons_zero, List.set_cons_succ]
                refine takeB hfnR (by kernel_rfl) 25 (v := undef) rfl (by kernel_rfl) (fun _ _ _ h => h) (by kernel_rfl) hCells (Or.inr ⟨by rfl, rfl⟩) ?_
                try simp only [Act.put, List.setIfInBounds_toArray, List.set_cons_zero, List.set_cons_succ]
                refine takeB hfnR (by kernel_rfl) 26 (v := undef) rfl (by kernel_rfl) (fun _ _ _ h => h) (by kernel_rfl) hCells (Or.inr ⟨by rfl, rfl⟩) ?_
                try simp only [Act.put, List.setIfInBounds_toArray, List.set_cons_zero, List.set_cons_succ]
                refine takeB hfnR (by kernel_rfl) 27 (v := undef) rfl (by kernel_rfl) (fun _ _ _ h => h) (by kernel_rfl) hCells (Or.inr ⟨by rfl, rfl⟩) ?_
                try simp only [Act.put, List.setIfInBounds_toArray, List.set_cons_zero, List.set_cons_succ]
                refine takeB hfnR (by kernel_rfl) 28 (v := undef) rfl (by kernel_rfl) (fun _ _ _ h => h) (by kernel_rfl) hCells (Or.inr ⟨by rfl, rfl⟩) ?_
                try simp only [Act.put, List.setIfInBounds_toArray, List.set_cons_zero, List.set_cons_succ]
                refine takeB hfnR (by kernel_rfl) 29 (v := undef) rfl (by kernel_rfl) (fun _ _ _ h => h) (by kernel_rfl) hCells (Or.inr ⟨by rfl, rfl⟩) ?_
                try simp only [Act.put, List.setIfInBounds_toArray, List.set_cons_zero, List.set_cons_succ]
                refine takeB hfnR (by kernel_rfl) 30 (v := undef) rfl (by kernel_rfl) (fun _ _ _ h => h) (by kernel_rfl) hCells (Or.inr ⟨by rfl, rfl⟩) ?_
                try simp only [Act.put, List.setIfInBounds_toArray, List.set_cons_zero, List.set_cons_succ]
                refine takeB hfnR (by kernel_rfl) 31 (v := undef) rfl (by kernel_rfl) (fun _ _ _ h => h) (by kernel_rfl) hCells (Or.inr ⟨by rfl, rfl⟩) ?_
                try simp only [Act.put, List.setIfInBounds_toArray, List.set_cons_zero, List.set_cons_succ]
                refine takeB hfnR (by kernel_rfl) 32 (v := undef) rfl (by kernel_rfl) (fun _ _ _ h => h) (by kernel_rfl) hCells (Or.inr ⟨by rfl, rfl⟩) ?_
                try simp only [Act.put, List.setIfInBounds_toArray, List.set_cons_zero, List.set_cons_succ]
                refine takeB hfnR (by kernel_rfl) 33 (v := undef) rfl (by kernel_rfl) (fun _ _ _ h => h) (by kernel_rfl) hCells (Or.inr ⟨by rfl, rfl⟩) ?_
                try simp only [Act.put, List.setIfInBounds_toArray, List.set_cons_zero, List.set_cons_succ]
                refine takeB hfnR (by kernel_rfl) 34 (v := undef) rfl (by kernel_rfl) (fun _ _ _ h => h) (by kernel_rfl) hCells (Or.inr ⟨by rfl, rfl⟩) ?_
                try simp only [Act.put, List.setIfInBounds_toArray, List.set_cons_zero, List.set_cons_succ]
                refine takeB hfnR (by kernel_rfl) 35 (v := ?_) rfl (by kernel_rfl) (fun _ _ _ h => h) (by kernel_rfl) hCells (Or.inl ⟨by rfl, ?_⟩) ?_
                rotate_left 1
                · intro w hSw; (try dsimp only at hSw); go_simp; (try with_reducible rfl)
                try simp only [Act.put, List.setIfInBounds_toArray, List.set_cons_zero, List.set_cons_succ]
                refine wpAnyJ_done (by kernel_rfl) (NoPan.normal ?_) _
                go_wp2_with fail
                go_roundw
                case rel => exact ⟨k + 1, _, by omega, rfl, by simp, HK.out.2.2, Lib.hid (hI.out.skip (by rw [← HS.out]; simp [candS, HG.out]))⟩
                case measure => simp [intOf]; omega
            ·
              have qli : (s.li == li) = false := by simpa using qli
              have HQli := Lib.hid qli
              have HK := Lib.hid ((Kept.of (Nat.le_refl _) HB1.out.size HB1.out).drew)
              simp only [scs] at HK
              have hfnR : ∀ f, Fence.wide.fn f := fun _ => trivial
              have hm : Tryz.prog.follows .mixedOrders = true := by kernel_rfl
              go_wp2_with fail
              refine wp_region_J (fun W => ((W.cell? ⟨wr.heap.size, 0, none⟩ = some (.int .i64 s.se) ∧ W.cell? ⟨wr.heap.size, 1, none⟩ = some (.int .i64 s.ob)) ∧ (W.cell? ⟨wr.heap.size, 2, none⟩ = some (.int .i64 s.li) ∧ W.cell? ⟨wr.heap.size, 3, none⟩ = some (.int .i64 s.sea)))) [] hm ?hCells0 (fun hCells => ?_)
              case hCells0 => exact ⟨⟨z0, z1⟩, z2, z3⟩
              generalize (wr.alloc (.cells #[.int .i64 s.se, .int .i64 s.ob, .int .i64 s.li, .int .i64 s.sea, .int .i64 s.wi] 30)).drew = W0 at *
              refine takeB hfnR (by kernel_rfl) 0 (v := ?_) rfl (by kernel_rfl) (fun _ _ _ h => h) (by kernel_rfl) hCells (Or.inl ⟨by rfl, ?_⟩) ?_
              rotate_left 1
              · intro w hSw; (try dsimp only at hSw); go_simp; (try with_reducible rfl)
              try simp only [Act.put, List.setIfInBounds_toArray, List.set_cons_zero, List.set_cons_succ]
              refine takeB hfnR (by kernel_rfl) 1 (v := ?_) rfl (by kernel_rfl) (fun _ _ _ h => h) (by kernel_rfl) hCells (Or.inl ⟨by rfl, ?_⟩) ?_
              rotate_left 1
              · intro w hSw; (try dsimp only at hSw); go_simp; (try with_reducible rfl)
              try simp only [Act.put, List.setIfInBounds_toArray, List.set_cons_zero, List.set_cons_succ]
              refine takeB hfnR (by kernel_rfl) 2 (v := ?_) rfl (by kernel_rfl) (fun _ _ _ h => h) (by kernel_rfl) hCells (Or.inl ⟨by rfl, ?_⟩) ?_
              rotate_left 1
              · intro w hSw; (try dsimp only at hSw); go_simp; (try with_reducible rfl)
              try simp only [Act.put, List.setIfInBounds_toArray, List.set_cons_zero, List.set_cons_succ]
              refine takeB hfnR (by kernel_rfl) 3 (v := ?_) rfl (by kernel_rfl) (fun _ _ _ h => h) (by kernel_rfl) hCells (Or.inl ⟨by rfl, ?_⟩) ?_
              rotate_left 1
              · intro w hSw; (try dsimp only at hSw); go_simp; (try with_reducible rfl)
              try simp only [Act.put, List.setIfInBounds_toArray, List.set_cons_zero, List.set_cons_succ]
              refine takeB hfnR (by kernel_rfl) 4 (v := ?_) rfl (by kernel_rfl) (fun _ _ _ h => h) (by kernel_rfl) hCells (Or.inl ⟨by rfl, ?_⟩) ?_
              rotate_left 1
              · intro w hSw; (try dsimp only at hSw); go_simp; (try with_reducible rfl)
              try simp only [Act.put, List.setIfInBounds_toArray, List.set_cons_zero, List.set_cons_succ]
              refine takeB hfnR (by kernel_rfl) 5 (v := ?_) rfl (by kernel_rfl) (fun _ _ _ h => h) (by kernel_rfl) hCells (Or.inl ⟨by rfl, ?_⟩) ?_
              rotate_left 1
              · intro w hSw; (try dsimp only at hSw); go_simp; (try with_reducible rfl)
              try simp only [Act.put, List.setIfInBounds_toArray, List.set_cons_zero, List.set_cons_succ]
              refine takeB hfnR (by kernel_rfl) 6 (v := ?_) rfl (by kernel_rfl) (fun _ _ _ h => h) (by kernel_rfl) hCells (Or.inl ⟨by rfl, ?_⟩) ?_
              rotate_left 1
              · intro w hSw; (try dsimp only at hSw); go_simp; (try with_reducible rfl)
              try simp only [Act.put, List.setIfInBounds_toArray, List.set_cons_zero, List.set_cons_succ]
              refine takeB hfnR (by kernel_rfl) 7 (v := ?_) rfl (by kernel_rfl) (fun _ _ _ h => h) (by kernel_rfl) hCells (Or.inl ⟨by rfl, ?_⟩) ?_
              rotate_left 1
              · intro w hSw; (try dsimp only at hSw); go_simp; (try with_reducible rfl)
              try simp only [Act.put, List.setIfInBounds_toArray, List.set_cons_zero, List.set_cons_succ]
              refine takeB hfnR (by kernel_rfl) 8 (v := ?_) rfl (by kernel_rfl) (fun _ _ _ h => h) (by kernel_rfl) hCells (Or.inl ⟨by rfl, ?_⟩) ?_
              rotate_left 1
              · intro w hSw; (try dsimp only at hSw); go_simp; (try with_reducible rfl)
              try simp only [Act.put, List.setIfInBounds_toArray, List.set_cons_zero, List.set_cons_succ]
              refine takeB hfnR (by kernel_rfl) 9 (v := ?_) rfl (by kernel_rfl) (fun _ _ _ h => h) (by kernel_rfl) hCells (Or.inl ⟨by rfl, ?_⟩) ?_
              rotate_left 1
              · intro w hSw; (try dsimp only at hSw); go_simp; (try with_reducible rfl)
              try simp only [Act.put, List.setIfInBounds_toArray, List.set_cons_zero, List.set_cons_succ]
              refine takeB hfnR (by kernel_rfl) 10 (v := ?_) rfl (by kernel_rfl) (fun _ _ _ h => h) (by kernel_rfl) hCells (Or.inl ⟨by rfl, ?_⟩) ?_
              rotate_left 1
              · intro w hSw; (try dsimp only at hSw); go_simp; (try with_reducible rfl)
              try simp only [Act.put, List.setIfInBounds_toArray, List.set_cons_zero, List.set_cons_succ]
              refine takeB hfnR (by kernel_rfl) 11 (v := ?_) rfl (by kernel_rfl) (fun _ _ _ h => h) (by kernel_rfl) hCells (Or.inl ⟨by rfl, ?_⟩) ?_
              rotate_left 1
              · intro w hSw; (try dsimp only at hSw); go_simp; (try with_reducible rfl)
              try simp only [Act.put, List.setIfInBounds_toArray, List.set_cons_zero, List.set_cons_succ]
              refine takeB hfnR (by kernel_rfl) 12 (v := ?_) rfl (by kernel_rfl) (fun _ _ _ h => h) (by kernel_rfl) hCells (Or.inl ⟨by rfl, ?_⟩) ?_
              rotate_left 1
              · intro w hSw; (try dsimp only at hSw); go_simp; (try with_reducible rfl)
              try simp only [Act.put, List.setIfInBounds_toArray, List.set_cons_zero, List.set_cons_succ]
              refine takeB hfnR (by kernel_rfl) 13 (v := ?_) rfl (by kernel_rfl) (fun _ _ _ h => h) (by kernel_rfl) hCells (Or.inl ⟨by rfl, ?_⟩) ?_
              rotate_left 1
              · intro w hSw; (try dsimp only at hSw); go_simp; (try with_reducible rfl)
              try simp only [Act.put, List.setIfInBounds_toArray, List.set_cons_zero, List.set_cons_succ]
              refine takeB hfnR (by kernel_rfl) 14 (v := ?_) rfl (by kernel_rfl) (fun _ _ _ h => h) (by kernel_rfl) hCells (Or.inl ⟨by rfl, ?_⟩) ?_
              rotate_left 1
              · intro w hSw; (try dsimp only at hSw); go_simp; (try with_reducible rfl)
              try simp only [Act.put, List.setIfInBounds_toArray, List.set_cons_zero, List.set_cons_succ]
              refine takeB hfnR (by kernel_rfl) 15 (v := ?_) rfl (by kernel_rfl) (fun _ _ _ h => h) (by kernel_rfl) hCells (Or.inl ⟨by rfl, ?_⟩) ?_
              rotate_left 1
              · intro w hSw; (try dsimp only at hSw); go_simp; (try with_reducible rfl)
              try simp only [Act.put, List.setIfInBounds_toArray, List.set_cons_zero, List.set_cons_succ]
              refine takeB hfnR (by kernel_rfl) 16 (v := ?_) rfl (by kernel_rfl) (fun _ _ _ h => h) (by kernel_rfl) hCells (Or.inl ⟨by rfl, ?_⟩) ?_
              rotate_left 1
              · intro w hSw; (try dsimp only at hSw); go_simp; (try with_reducible rfl)
              try simp only [Act.put, List.setIfInBounds_toArray, List.set_cons_zero, List.set_cons_succ]
              refine takeB hfnR (by kernel_rfl) 17 (v := undef) rfl (by kernel_rfl) (fun _ _ _ h => h) (by kernel_rfl) hCells (Or.inr ⟨by rfl, rfl⟩) ?_
              try simp only [Act.put, List.setIfInBounds_toArray, List.set_cons_zero, List.set_cons_succ]
              refine takeB hfnR (by kernel_rfl) 18 (v := undef) rfl (by kernel_rfl) (fun _ _ _ h => h) (by kernel_rfl) hCells (Or.inr ⟨by rfl, rfl⟩) ?_
              try simp only [Act.put, List.setIfInBounds_toArray, List.set_cons_zero, List.set_cons_succ]
              refine takeB hfnR (by kernel_rfl) 19 (v := undef) rfl (by kernel_rfl) (fun _ _ _ h => h) (by kernel_rfl) hCells (Or.inr ⟨by rfl, rfl⟩) ?_
              try simp only [Act.put, List.setIfInBounds_toArray, List.set_cons_zero, List.set_cons_succ]
              refine takeB hfnR (by kernel_rfl) 20 (v := undef) rfl (by kernel_rfl) (fun _ _ _ h => h) (by kernel_rfl) hCells (Or.inr ⟨by rfl, rfl⟩) ?_
              try simp only [Act.put, List.setIfInBounds_toArray, List.set_cons_zero, List.set_cons_succ]
              refine takeB hfnR (by kernel_rfl) 21 (v := ?_) rfl (by kernel_rfl) (fun _ _ _ h => h) (by kernel_rfl) hCells (Or.inl ⟨by rfl, ?_⟩) ?_
              rotate_left 1
              · intro w hSw; (try dsimp only at hSw); go_simp; (try with_reducible rfl)
              try simp only [Act.put, List.setIfInBounds_toArray, List.set_cons_zero, List.set_cons_succ]
              refine takeB hfnR (by kernel_rfl) 22 (v := ?_) rfl (by kernel_rfl) (fun _ _ _ h => h) (by kernel_rfl) hCells (Or.inl ⟨by rfl, ?_⟩) ?_
              rotate_left 1
              · intro w hSw; (try dsimp only at hSw); go_simp; (try with_reducible rfl)
              try simp only [Act.put, List.setIfInBounds_toArray, List.set_cons_zero, List.set_cons_succ]
              refine takeB hfnR (by kernel_rfl) 23 (v := undef) rfl (by kernel_rfl) (fun _ _ _ h => h) (by kernel_rfl) hCells (Or.inr ⟨by rfl, rfl⟩) ?_
              try simp only [Act.put, List.setIfInBounds_toArray, List.set_cons_zero, List.set_cons_succ]
              refine takeB hfnR (by kernel_rfl) 24 (v := undef) rfl (by kernel_rfl) (fun _ _ _ h => h) (by kernel_rfl) hCells (Or.inr ⟨by rfl, rfl⟩) ?_
              try simp only [Act.put, List.setIfInBounds_toArray, List.set_cons_zero, List.set_cons_succ]
              refine takeB hfnR (by kernel_rfl) 25 (v := undef) rfl (by kernel_rfl) (fun _ _ _ h => h) (by kernel_rfl) hCells (Or.inr ⟨by rfl, rfl⟩) ?_
              try simp only [Act.put, List.setIfInBounds_toArray, List.set_cons_zero, List.set_cons_succ]
              refine takeB hfnR (by kernel_rfl) 26 (v := undef) rfl (by kernel_rfl) (fun _ _ _ h => h) (by kernel_rfl) hCells (Or.inr ⟨by rfl, rfl⟩) ?_
              try simp only [Act.put, List.setIfInBounds_toArray, List.set_cons_zero, List.set_cons_succ]
              refine takeB hfnR (by kernel_rfl) 27 (v := undef) rfl (by kernel_rfl) (fun _ _ _ h => h) (by kernel_rfl) hCells (Or.inr ⟨by rfl, rfl⟩) ?_
              try simp only [Act.put, List.setIfInBounds_toArray, List.set_cons_zero, List.set_cons_succ]
              refine takeB hfnR (by kernel_rfl) 28 (v := undef) rfl (by kernel_rfl) (fun _ _ _ h => h) (by kernel_rfl) hCells (Or.inr ⟨by rfl, rfl⟩) ?_
              try simp only [Act.put, List.setIfInBounds_toArray, List.set_cons_zero, List.set_cons_succ]
              refine takeB hfnR (by kernel_rfl) 29 (v := undef) rfl (by kernel_rfl) (fun _ _ _ h => h) (by kernel_rfl) hCells (Or.inr ⟨by rfl, rfl⟩) ?_
              try simp only [Act.put, List.setIfInBounds_toArray, List.set_cons_zero, List.set_cons_succ]
              refine takeB hfnR (by kernel_rfl) 30 (v := undef) rfl (by kernel_rfl) (fun _ _ _ h => h) (by kernel_rfl) hCells (Or.inr ⟨by rfl, rfl⟩) ?_
              try simp only [Act.put, List.setIfInBounds_toArray, List.set_cons_zero, List.set_cons_succ]
              refine takeB hfnR (by kernel_rfl) 31 (v := undef) rfl (by kernel_rfl) (fun _ _ _ h => h) (by kernel_rfl) hCells (Or.inr ⟨by rfl, rfl⟩) ?_
              try simp only [Act.put, List.setIfInBounds_toArray, List.set_cons_zero, List.set_cons_succ]
              refine takeB hfnR (by kernel_rfl) 32 (v := undef) rfl (by kernel_rfl) (fun _ _ _ h => h) (by kernel_rfl) hCells (Or.inr ⟨by rfl, rfl⟩) ?_
              try simp only [Act.put, List.setIfInBounds_toArray, List.set_cons_zero, List.set_cons_succ]
              refine takeB hfnR (by kernel_rfl) 33 (v := undef) rfl (by kernel_rfl) (fun _ _ _ h => h) (by kernel_rfl) hCells (Or.inr ⟨by rfl, rfl⟩) ?_
              try simp only [Act.put, List.setIfInBounds_toArray, List.set_cons_zero, List.set_cons_succ]
              refine takeB hfnR (by kernel_rfl) 34 (v := undef) rfl (by kernel_rfl) (fun _ _ _ h => h) (by kernel_rfl) hCells (Or.inr ⟨by rfl, rfl⟩) ?_
              try simp only [Act.put, List.setIfInBounds_toArray, List.set_cons_zero, List.set_cons_succ]
              refine takeB hfnR (by kernel_rfl) 35 (v := ?_) rfl (by kernel_rfl) (fun _ _ _ h => h) (by kernel_rfl) hCells (Or.inl ⟨by rfl, ?_⟩) ?_
              rotate_left 1
              · intro w hSw; (try dsimp only at hSw); go_simp; (try with_reducible rfl)
              try simp only [Act.put, List.setIfInBounds_toArray, List.set_cons_zero, List.set_cons_succ]
              refine wpAnyJ_done (by kernel_rfl) (NoPan.normal ?_) _
              go_wp2_with fail
              go_roundw
              case rel => exact ⟨k + 1, _, by omega, rfl, by simp, HK.out.2.2, Lib.hid (hI.out.skip (by have a := HQli.out; rw [← HS.out]; simp at a; simp [candS, key3, a]))⟩
              case measure => simp [intOf]; omega
          ·
            have qob : (s.ob == ob) = false := by simpa using qob
            have HQob := Lib.hid qob
            have HK := Lib.hid ((Kept.of (Nat.le_refl _) HB1.out.size HB1.out).drew)
            simp only [scs] at HK
            have hfnR : ∀ f, Fence.wide.fn f := fun _ => trivial
            have hm : Tryz.prog.follows .mixedOrders = true := by kernel_rfl
            go_wp2_with fail
            refine wp_region_J (fun W => ((W.cell? ⟨wr.heap.size, 0, none⟩ = some (.int .i64 s.se) ∧ W.cell? ⟨wr.heap.size, 1, none⟩ = some (.int .i64 s.ob)) ∧ (W.cell? ⟨wr.heap.size, 2, none⟩ = some (.int .i64 s.li) ∧ W.cell? ⟨wr.heap.size, 3, none⟩ = some (.int .i64 s.sea)))) [] hm ?hCells0 (fun hCells => ?_)
            case hCells0 => exact ⟨⟨z0, z1⟩, z2, z3⟩
            generalize (wr.alloc (.cells #[.int .i64 s.se, .int .i64 s.ob, .int .i64 s.li, .int .i64 s.sea, .int .i64 s.wi] 30)).drew = W0 at *
            refine takeB hfnR (by kernel_rfl) 0 (v := ?_) rfl (by kernel_rfl) (fun _ _ _ h => h) (by kernel_rfl) hCells (Or.inl ⟨by rfl, ?_⟩) ?_
            rotate_left 1
            · intro w hSw; (try dsimp only at hSw); go_simp; (try with_reducible rfl)
            try simp only [Act.put, List.setIfInBounds_toArray, List.set_cons_zero, List.set_cons_succ]
            refine takeB hfnR (by kernel_rfl) 1 (v := ?_) rfl (by kernel_rfl) (fun _ _ _ h => h) (by kernel_rfl) hCells (Or.inl ⟨by rfl, ?_⟩) ?_
            rotate_left 1
            · intro w hSw; (try dsimp only at hSw); go_simp; (try with_reducible rfl)
            try simp only [Act.put, List.setIfInBounds_toArray, List.set_cons_zero, List.set_cons_succ]
            refine takeB hfnR (by kernel_rfl) 2 (v := ?_) rfl (by kernel_rfl) (fun _ _ _ h => h) (by kernel_rfl) hCells (Or.inl ⟨by rfl, ?_⟩) ?_
            rotate_left 1
            · intro w hSw; (try dsimp only at hSw); go_simp; (try with_reducible rfl)
            try simp only [Act.put, List.setIfInBounds_toArray, List.set_cons_zero, List.set_cons_succ]
            refine takeB hfnR (by kernel_rfl) 3 (v := ?_) rfl (by kernel_rfl) (fun _ _ _ h => h) (by kernel_rfl) hCells (Or.inl ⟨by rfl, ?_⟩) ?_
            rotate_left 1
            · intro w hSw; (try dsimp only at hSw); go_simp; (try with_reducible rfl)
            try simp only [Act.put, List.setIfInBounds_toArray, List.set_cons_zero, List.set_cons_succ]
            refine takeB hfnR (by kernel_rfl) 4 (v := ?_) rfl (by kernel_rfl) (fun _ _ _ h => h) (by kernel_rfl) hCells (Or.inl ⟨by rfl, ?_⟩) ?_
            rotate_left 1
            · intro w hSw; (try dsimp only at hSw); go_simp; (try with_reducible rfl)
            try simp only [Act.put, List.setIfInBounds_toArray, List.set_cons_zero, List.set_cons_succ]
            refine takeB hfnR (by kernel_rfl) 5 (v := ?_) rfl (by kernel_rfl) (fun _ _ _ h => h) (by kernel_rfl) hCells (Or.inl ⟨by rfl, ?_⟩) ?_
            rotate_left 1
            · intro w hSw; (try dsimp only at hSw); go_simp; (try with_reducible rfl)
            try simp only [Act.put, List.setIfInBounds_toArray, List.set_cons_zero, List.set_cons_succ]
            refine takeB hfnR (by kernel_rfl) 6 (v := ?_) rfl (by kernel_rfl) (fun _ _ _ h => h) (by kernel_rfl) hCells (Or.inl ⟨by rfl, ?_⟩) ?_
            rotate_left 1
            · intro w hSw; (try dsimp only at hSw); go_simp; (try with_reducible rfl)
            try simp only [Act.put, List.setIfInBounds_toArray, List.set_cons_zero, List.set_cons_succ]
            refine takeB hfnR (by kernel_rfl) 7 (v := ?_) rfl (by kernel_rfl) (fun _ _ _ h => h) (by kernel_rfl) hCells (Or.inl ⟨by rfl, ?_⟩) ?_
            rotate_left 1
            · intro w hSw; (try dsimp only at hSw); go_simp; (try with_reducible rfl)
            try simp only [Act.put, List.setIfInBounds_toArray, List.set_cons_zero, List.set_cons_succ]
            refine takeB hfnR (by kernel_rfl) 8 (v := ?_) rfl (by kernel_rfl) (fun _ _ _ h => h) (by kernel_rfl) hCells (Or.inl ⟨by rfl, ?_⟩) ?_
            rotate_left 1
            · intro w hSw; (try dsimp only at hSw); go_simp; (try with_reducible rfl)
            try simp only [Act.put, List.setIfInBounds_toArray, List.set_cons_zero, List.set_cons_succ]
            refine takeB hfnR (by kernel_rfl) 9 (v := ?_) rfl (by kernel_rfl) (fun _ _ _ h => h) (by kernel_rfl) hCells (Or.inl ⟨by rfl, ?_⟩) ?_
            rotate_left 1
            · intro w hSw; (try dsimp only at hSw); go_simp; (try with_reducible rfl)
            try simp only [Act.put, List.setIfInBounds_toArray, List.set_cons_zero, List.set_cons_succ]
            refine takeB hfnR (by kernel_rfl) 10 (v := ?_) rfl (by kernel_rfl) (fun _ _ _ h => h) (by kernel_rfl) hCells (Or.inl ⟨by rfl, ?_⟩) ?_
            rotate_left 1
            · intro w hSw; (try dsimp only at hSw); go_simp; (try with_reducible rfl)
            try simp only [Act.put, List.setIfInBounds_toArray, List.set_cons_zero, List.set_cons_succ]
            refine takeB hfnR (by kernel_rfl) 11 (v := undef) rfl (by kernel_rfl) (fun _ _ _ h => h) (by kernel_rfl) hCells (Or.inr ⟨by rfl, rfl⟩) ?_
            try simp only [Act.put, List.setIfInBounds_toArray, List.set_cons_zero, List.set_cons_succ]
            refine takeB hfnR (by kernel_rfl) 12 (v := undef) rfl (by kernel_rfl) (fun _ _ _ h => h) (by kernel_rfl) hCells (Or.inr ⟨by rfl, rfl⟩) ?_
            try simp only [Act.put, List.setIfInBounds_toArray, List.set_cons_zero, List.set_cons_succ]
            refine takeB hfnR (by kernel_rfl) 13 (v := undef) rfl (by kernel_rfl) (fun _ _ _ h => h) (by kernel_rfl) hCells (Or.inr ⟨by rfl, rfl⟩) ?_
            try simp only [Act.put, List.setIfInBounds_toArray, List.set_cons_zero, List.set_cons_succ]
            refine takeB hfnR (by kernel_rfl) 14 (v := undef) rfl (by kernel_rfl) (fun _ _ _ h => h) (by kernel_rfl) hCells (Or.inr ⟨by rfl, rfl⟩) ?_
            try simp only [Act.put, List.setIfInBounds_toArray, List.set_cons_zero, List.set_cons_succ]
            refine takeB hfnR (by kernel_rfl) 15 (v := ?_) rfl (by kernel_rfl) (fun _ _ _ h => h) (by kernel_rfl) hCells (Or.inl ⟨by rfl, ?_⟩) ?_
            rotate_left 1
            · intro w hSw; (try dsimp only at hSw); go_simp; (try with_reducible rfl)
            try simp only [Act.put, List.setIfInBounds_toArray, List.set_cons_zero, List.set_cons_succ]
            refine takeB hfnR (by kernel_rfl) 16 (v := ?_) rfl (by kernel_rfl) (fun _ _ _ h => h) (by kernel_rfl) hCells (Or.inl ⟨by rfl, ?_⟩) ?_
            rotate_left 1
            · intro w hSw; (try dsimp only at hSw); go_simp; (try with_reducible rfl)
            try simp only [Act.put, List.setIfInBounds_toArray, List.set_cons_zero, List.set_cons_succ]
            refine takeB hfnR (by kernel_rfl) 17 (v := undef) rfl (by kernel_rfl) (fun _ _ _ h => h) (by kernel_rfl) hCells (Or.inr ⟨by rfl, rfl⟩) ?_
            try simp only [Act.put, List.setIfInBounds_toArray, List.set_cons_zero, List.set_cons_succ]
            refine takeB hfnR (by kernel_rfl) 18 (v := undef) rfl (by kernel_rfl) (fun _ _ _ h => h) (by kernel_rfl) hCells (Or.inr ⟨by rfl, rfl⟩) ?_
            try simp only [Act.put, List.setIfInBounds_toArray, List.set_cons_zero, List.set_cons_succ]
            refine takeB hfnR (by kernel_rfl) 19 (v := undef) rfl (by kernel_rfl) (fun _ _ _ h => h) (by kernel_rfl) hCells (Or.inr ⟨by rfl, rfl⟩) ?_
            try simp only [Act.put, List.setIfInBounds_toArray, List.set_cons_zero, List.set_cons_succ]
            refine takeB hfnR (by kernel_rfl) 20 (v := undef) rfl (by kernel_rfl) (fun _ _ _ h => h) (by kernel_rfl) hCells (Or.inr ⟨by rfl, rfl⟩) ?_
            try simp only [Act.put, List.setIfInBounds_toArray, List.set_cons_zero, List.set_cons_succ]
            refine takeB hfnR (by kernel_rfl) 21 (v := ?_) rfl (by kernel_rfl) (fun _ _ _ h => h) (by kernel_rfl) hCells (Or.inl ⟨by rfl, ?_⟩) ?_
            rotate_left 1
            · intro w hSw; (try dsimp only at hSw); go_simp; (try with_reducible rfl)
            try simp only [Act.put, List.setIfInBounds_toArray, List.set_cons_zero, List.set_cons_succ]
            refine takeB hfnR (by kernel_rfl) 22 (v := ?_) rfl (by kernel_rfl) (fun _ _ _ h => h) (by kernel_rfl) hCells (Or.inl ⟨by rfl, ?_⟩) ?_
            rotate_left 1
            · intro w hSw; (try dsimp only at hSw); go_simp; (try with_reducible rfl)
            try simp only [Act.put, List.setIfInBounds_toArray, List.set_cons_zero, List.set_cons_succ]
            refine takeB hfnR (by kernel_rfl) 23 (v := undef) rfl (by kernel_rfl) (fun _ _ _ h => h) (by kernel_rfl) hCells (Or.inr ⟨by rfl, rfl⟩) ?_
            try simp only [Act.put, List.setIfInBounds_toArray, List.set_cons_zero, List.set_cons_succ]
            refine takeB hfnR (by kernel_rfl) 24 (v := undef) rfl (by kernel_rfl) (fun _ _ _ h => h) (by kernel_rfl) hCells (Or.inr ⟨by rfl, rfl⟩) ?_
            try simp only [Act.put, List.setIfInBounds_toArray, List.set_cons_zero, List.set_cons_succ]
            refine takeB hfnR (by kernel_rfl) 25 (v := undef) rfl (by kernel_rfl) (fun _ _ _ h => h) (by kernel_rfl) hCells (Or.inr ⟨by rfl, rfl⟩) ?_
            try simp only [Act.put, List.setIfInBounds_toArray, List.set_cons_zero, List.set_cons_succ]
            refine takeB hfnR (by kernel_rfl) 26 (v := undef) rfl (by kernel_rfl) (fun _ _ _ h => h) (by kernel_rfl) hCells (Or.inr ⟨by rfl, rfl⟩) ?_
            try simp only [Act.put, List.setIfInBounds_toArray, List.set_cons_zero, List.set_cons_succ]
            refine takeB hfnR (by kernel_rfl) 27 (v := undef) rfl (by kernel_rfl) (fun _ _ _ h => h) (by kernel_rfl) hCells (Or.inr ⟨by rfl, rfl⟩) ?_
            try simp only [Act.put, List.setIfInBounds_toArray, List.set_cons_zero, List.set_cons_succ]
            refine takeB hfnR (by kernel_rfl) 28 (v := undef) rfl (by kernel_rfl) (fun _ _ _ h => h) (by kernel_rfl) hCells (Or.inr ⟨by rfl, rfl⟩) ?_
            try simp only [Act.put, List.setIfInBounds_toArray, List.set_cons_zero, List.set_cons_succ]
            refine takeB hfnR (by kernel_rfl) 29 (v := undef) rfl (by kernel_rfl) (fun _ _ _ h => h) (by kernel_rfl) hCells (Or.inr ⟨by rfl, rfl⟩) ?_
            try simp only [Act.put, List.setIfInBounds_toArray, List.set_cons_zero, List.set_cons_succ]
            refine takeB hfnR (by kernel_rfl) 30 (v := undef) rfl (by kernel_rfl) (fun _ _ _ h => h) (by kernel_rfl) hCells (Or.inr ⟨by rfl, rfl⟩) ?_
            try simp only [Act.put, List.setIfInBounds_toArray, List.set_cons_zero, List.set_cons_succ]
            refine takeB hfnR (by kernel_rfl) 31 (v := undef) rfl (by kernel_rfl) (fun _ _ _ h => h) (by kernel_rfl) hCells (Or.inr ⟨by rfl, rfl⟩) ?_
            try simp only [Act.put, List.setIfInBounds_toArray, List.set_cons_zero, List.set_cons_succ]
            refine takeB hfnR (by kernel_rfl) 32 (v := undef) rfl (by kernel_rfl) (fun _ _ _ h => h) (by kernel_rfl) hCells (Or.inr ⟨by rfl, rfl⟩) ?_
            try simp only [Act.put, List.setIfInBounds_toArray, List.set_cons_zero, List.set_cons_succ]
            refine takeB hfnR (by kernel_rfl) 33 (v := undef) rfl (by kernel_rfl) (fun _ _ _ h => h) (by kernel_rfl) hCells (Or.inr ⟨by rfl, rfl⟩) ?_
            try simp only [Act.put, List.setIfInBounds_toArray, List.set_cons_zero, List.set_cons_succ]
            refine takeB hfnR (by kernel_rfl) 34 (v := undef) rfl (by kernel_rfl) (fun _ _ _ h => h) (by kernel_rfl) hCells (Or.inr ⟨by rfl, rfl⟩) ?_
            try simp only [Act.put, List.setIfInBounds_toArray, List.set_cons_zero, List.set_cons_succ]
            refine takeB hfnR (by kernel_rfl) 35 (v := ?_) rfl (by kernel_rfl) (fun _ _ _ h => h) (by kernel_rfl) hCells (Or.inl ⟨by rfl, ?_⟩) ?_
            rotate_left 1
            · intro w hSw; (try dsimp only at hSw); go_simp; (try with_reducible rfl)
            try simp only [Act.put, List.setIfInBounds_toArray, List.set_cons_zero, List.set_cons_succ]
            refine wpAnyJ_done (by kernel_rfl) (NoPan.normal ?_) _
            go_wp2_with fail
            go_roundw
            case rel => exact ⟨k + 1, _, by omega, rfl, by simp, HK.out.2.2, Lib.hid (hI.out.skip (by have a := HQob.out; rw [← HS.out]; simp at a; simp [candS, key3, a]))⟩
            case measure => simp [intOf]; omega
        ·
          have qse : (s.se == se) = false := by simpa using qse
          have HQse := Lib.hid qse
          have HK := Lib.hid ((Kept.of (Nat.le_refl _) HB1.out.size HB1.out).drew)
          simp only [scs] at HK
          have hfnR : ∀ f, Fence.wide.fn f := fun _ => trivial
          have hm : Tryz.prog.follows .mixedOrders = true := by kernel_rfl
          go_wp2_with fail
          refine wp_region_J (fun W => ((W.cell? ⟨wr.heap.size, 0, none⟩ = some (.int .i64 s.se) ∧ W.cell? ⟨wr.heap.size, 1, none⟩ = some (.int .i64 s.ob)) ∧ (W.cell? ⟨wr.heap.size, 2, none⟩ = some (.int .i64 s.li) ∧ W.cell? ⟨wr.heap.size, 3, none⟩ = some (.int .i64 s.sea)))) [] hm ?hCells0 (fun hCells => ?_)
          case hCells0 => exact ⟨⟨z0, z1⟩, z2, z3⟩
          generalize (wr.alloc (.cells #[.int .i64 s.se, .int .i64 s.ob, .int .i64 s.li, .int .i64 s.sea, .int .i64 s.wi] 30)).drew = W0 at *
          refine takeB hfnR (by kernel_rfl) 0 (v := ?_) rfl (by kernel_rfl) (fun _ _ _ h => h) (by kernel_rfl) hCells (Or.inl ⟨by rfl, ?_⟩) ?_
          rotate_left 1
          · intro w hSw; (try dsimp only at hSw); go_simp; (try with_reducible rfl)
          try simp only [Act.put, List.setIfInBounds_toArray, List.set_cons_zero, List.set_cons_succ]
          refine takeB hfnR (by kernel_rfl) 1 (v := ?_) rfl (by kernel_rfl) (fun _ _ _ h => h) (by kernel_rfl) hCells (Or.inl ⟨by rfl, ?_⟩) ?_
          rotate_left 1
          · intro w hSw; (try dsimp only at hSw); go_simp; (try with_reducible rfl)
          try simp only [Act.put, List.setIfInBounds_toArray, List.set_cons_zero, List.set_cons_succ]
          refine takeB hfnR (by kernel_rfl) 2 (v := ?_) rfl (by kernel_rfl) (fun _ _ _ h => h) (by kernel_rfl) hCells (Or.inl ⟨by rfl, ?_⟩) ?_
          rotate_left 1
          · intro w hSw; (try dsimp only at hSw); go_simp; (try with_reducible rfl)
          try simp only [Act.put, List.setIfInBounds_toArray, List.set_cons_zero, List.set_cons_succ]
          refine takeB hfnR (by kernel_rfl) 3 (v := ?_) rfl (by kernel_rfl) (fun _ _ _ h => h) (by kernel_rfl) hCells (Or.inl ⟨by rfl, ?_⟩) ?_
          rotate_left 1
          · intro w hSw; (try dsimp only at hSw); go_simp; (try with_reducible rfl)
          try simp only [Act.put, List.setIfInBounds_toArray, List.set_cons_zero, List.set_cons_succ]
          refine takeB hfnR (by kernel_rfl) 4 (v := ?_) rfl (by kernel_rfl) (fun _ _ _ h => h) (by kernel_rfl) hCells (Or.inl ⟨by rfl, ?_⟩) ?_
          rotate_left 1
          · intro w hSw; (try dsimp only at hSw); go_simp; (try with_reducible rfl)
          try simp only [Act.put, List.setIfInBounds_toArray, List.set_cons_zero, List.set_cons_succ]
          refine takeB hfnR (by kernel_rfl) 5 (v := undef) rfl (by kernel_rfl) (fun _ _ _ h => h) (by kernel_rfl) hCells (Or.inr ⟨by rfl, rfl⟩) ?_
          try simp only [Act.put, List.setIfInBounds_toArray, List.set_cons_zero, List.set_cons_succ]
          refine takeB hfnR (by kernel_rfl) 6 (v := undef) rfl (by kernel_rfl) (fun _ _ _ h => h) (by kernel_rfl) hCells (Or.inr ⟨by rfl, rfl⟩) ?_
          try simp only [Act.put, List.setIfInBounds_toArray, List.set_cons_zero, List.set_cons_succ]
          refine takeB hfnR (by kernel_rfl) 7 (v := undef) rfl (by kernel_rfl) (fun _ _ _ h => h) (by kernel_rfl) hCells (Or.inr ⟨by rfl, rfl⟩) ?_
          try simp only [Act.put, List.setIfInBounds_toArray, List.set_cons_zero, List.set_cons_succ]
          refine takeB hfnR (by kernel_rfl) 8 (v := undef) rfl (by kernel_rfl) (fun _ _ _ h => h) (by kernel_rfl) hCells (Or.inr ⟨by rfl, rfl⟩) ?_
          try simp only [Act.put, List.setIfInBounds_toArray, List.set_cons_zero, List.set_cons_succ]
          refine takeB hfnR (by kernel_rfl) 9 (v := ?_) rfl (by kernel_rfl) (fun _ _ _ h => h) (by kernel_rfl) hCells (Or.inl ⟨by rfl, ?_⟩) ?_
          rotate_left 1
          · intro w hSw; (try dsimp only at hSw); go_simp; (try with_reducible rfl)
          try simp only [Act.put, List.setIfInBounds_toArray, List.set_cons_zero, List.set_cons_succ]
          refine takeB hfnR (by kernel_rfl) 10 (v := ?_) rfl (by kernel_rfl) (fun _ _ _ h => h) (by kernel_rfl) hCells (Or.inl ⟨by rfl, ?_⟩) ?_
          rotate_left 1
          · intro w hSw; (try dsimp only at hSw); go_simp; (try with_reducible rfl)
          try simp only [Act.put, List.setIfInBounds_toArray, List.set_cons_zero, List.set_cons_succ]
          refine takeB hfnR (by kernel_rfl) 11 (v := undef) rfl (by kernel_rfl) (fun _ _ _ h => h) (by kernel_rfl) hCells (Or.inr ⟨by rfl, rfl⟩) ?_
          try simp only [Act.put, List.setIfInBounds_toArray, List.set_cons_zero, List.set_cons_succ]
          refine takeB hfnR (by kernel_rfl) 12 (v := undef) rfl (by kernel_rfl) (fun _ _ _ h => h) (by kernel_rfl) hCells (Or.inr ⟨by rfl, rfl⟩) ?_
          try simp only [Act.put, List.setIfInBounds_toArray, List.set_cons_zero, List.set_cons_succ]
          refine takeB hfnR (by kernel_rfl) 13 (v := undef) rfl (by kernel_rfl) (fun _ _ _ h => h) (by kernel_rfl) hCells (Or.inr ⟨by rfl, rfl⟩) ?_
          try simp only [Act.put, List.setIfInBounds_toArray, List.set_cons_zero, List.set_cons_succ]
          refine takeB hfnR (by kernel_rfl) 14 (v := undef) rfl (by kernel_rfl) (fun _ _ _ h => h) (by kernel_rfl) hCells (Or.inr ⟨by rfl, rfl⟩) ?_
          try simp only [Act.put, List.setIfInBounds_toArray, List.set_cons_zero, List.set_cons_succ]
          refine takeB hfnR (by kernel_rfl) 15 (v := ?_) rfl (by kernel_rfl) (fun _ _ _ h => h) (by kernel_rfl) hCells (Or.inl ⟨by rfl, ?_⟩) ?_
          rotate_left 1
          · intro w hSw; (try dsimp only at hSw); go_simp; (try with_reducible rfl)
          try simp only [Act.put, List.setIfInBounds_toArray, List.set_cons_zero, List.set_cons_succ]
          refine takeB hfnR (by kernel_rfl) 16 (v := ?_) rfl (by kernel_rfl) (fun _ _ _ h => h) (by kernel_rfl) hCells (Or.inl ⟨by rfl, ?_⟩) ?_
          rotate_left 1
          · intro w hSw; (try dsimp only at hSw); go_simp; (try with_reducible rfl)
          try simp only [Act.put, List.setIfInBounds_toArray, List.set_cons_zero, List.set_cons_succ]
          refine takeB hfnR (by kernel_rfl) 17 (v := undef) rfl (by kernel_rfl) (fun _ _ _ h => h) (by kernel_rfl) hCells (Or.inr ⟨by rfl, rfl⟩) ?_
          try simp only [Act.put, List.setIfInBounds_toArray, List.set_cons_zero, List.set_cons_succ]
          refine takeB hfnR (by kernel_rfl) 18 (v := undef) rfl (by kernel_rfl) (fun _ _ _ h => h) (by kernel_rfl) hCells (Or.inr ⟨by rfl, rfl⟩) ?_
          try simp only [Act.put, List.setIfInBounds_toArray, List.set_cons_zero, List.set_cons_succ]
          refine takeB hfnR (by kernel_rfl) 19 (v := undef) rfl (by kernel_rfl) (fun _ _ _ h => h) (by kernel_rfl) hCells (Or.inr ⟨by rfl, rfl⟩) ?_
          try simp only [Act.put, List.setIfInBounds_toArray, List.set_cons_zero, List.set_cons_succ]
          refine takeB hfnR (by kernel_rfl) 20 (v := undef) rfl (by kernel_rfl) (fun _ _ _ h => h) (by kernel_rfl) hCells (Or.inr ⟨by rfl, rfl⟩) ?_
          try simp only [Act.put, List.setIfInBounds_toArray, List.set_cons_zero, List.set_cons_succ]
          refine takeB hfnR (by kernel_rfl) 21 (v := ?_) rfl (by kernel_rfl) (fun _ _ _ h => h) (by kernel_rfl) hCells (Or.inl ⟨by rfl, ?_⟩) ?_
          rotate_left 1
          · intro w hSw; (try dsimp only at hSw); go_simp; (try with_reducible rfl)
          try simp only [Act.put, List.setIfInBounds_toArray, List.set_cons_zero, List.set_cons_succ]
          refine takeB hfnR (by kernel_rfl) 22 (v := ?_) rfl (by kernel_rfl) (fun _ _ _ h => h) (by kernel_rfl) hCells (Or.inl ⟨by rfl, ?_⟩) ?_
          rotate_left 1
          · intro w hSw; (try dsimp only at hSw); go_simp; (try with_reducible rfl)
          try simp only [Act.put, List.setIfInBounds_toArray, List.set_cons_zero, List.set_cons_succ]
          refine takeB hfnR (by kernel_rfl) 23 (v := undef) rfl (by kernel_rfl) (fun _ _ _ h => h) (by kernel_rfl) hCells (Or.inr ⟨by rfl, rfl⟩) ?_
          try simp only [Act.put, List.setIfInBounds_toArray, List.set_cons_zero, List.set_cons_succ]
          refine takeB hfnR (by kernel_rfl) 24 (v := undef) rfl (by kernel_rfl) (fun _ _ _ h => h) (by kernel_rfl) hCells (Or.inr ⟨by rfl, rfl⟩) ?_
          try simp only [Act.put, List.setIfInBounds_toArray, List.set_cons_zero, List.set_cons_succ]
          refine takeB hfnR (by kernel_rfl) 25 (v := undef) rfl (by kernel_rfl) (fun _ _ _ h => h) (by kernel_rfl) hCells (Or.inr ⟨by rfl, rfl⟩) ?_
          try simp only [Act.put, List.setIfInBounds_toArray, List.set_cons_zero, List.set_cons_succ]
          refine takeB hfnR (by kernel_rfl) 26 (v := undef) rfl (by kernel_rfl) (fun _ _ _ h => h) (by kernel_rfl) hCells (Or.inr ⟨by rfl, rfl⟩) ?_
          try simp only [Act.put, List.setIfInBounds_toArray, List.set_cons_zero, List.set_cons_succ]
          refine takeB hfnR (by kernel_rfl) 27 (v := undef) rfl (by kernel_rfl) (fun _ _ _ h => h) (by kernel_rfl) hCells (Or.inr ⟨by rfl, rfl⟩) ?_
          try simp only [Act.put, List.setIfInBounds_toArray, List.set_cons_zero, List.set_cons_succ]
          refine takeB hfnR (by kernel_rfl) 28 (v := undef) rfl (by kernel_rfl) (fun _ _ _ h => h) (by kernel_rfl) hCells (Or.inr ⟨by rfl, rfl⟩) ?_
          try simp only [Act.put, List.setIfInBounds_toArray, List.set_cons_zero, List.set_cons_succ]
          refine takeB hfnR (by kernel_rfl) 29 (v := undef) rfl (by kernel_rfl) (fun _ _ _ h => h) (by kernel_rfl) hCells (Or.inr ⟨by rfl, rfl⟩) ?_
          try simp only [Act.put, List.setIfInBounds_toArray, List.set_cons_zero, List.set_cons_succ]
          refine takeB hfnR (by kernel_rfl) 30 (v := undef) rfl (by kernel_rfl) (fun _ _ _ h => h) (by kernel_rfl) hCells (Or.inr ⟨by rfl, rfl⟩) ?_
          try simp only [Act.put, List.setIfInBounds_toArray, List.set_cons_zero, List.set_cons_succ]
          refine takeB hfnR (by kernel_rfl) 31 (v := undef) rfl (by kernel_rfl) (fun _ _ _ h => h) (by kernel_rfl) hCells (Or.inr ⟨by rfl, rfl⟩) ?_
          try simp only [Act.put, List.setIfInBounds_toArray, List.set_cons_zero, List.set_cons_succ]
          refine takeB hfnR (by kernel_rfl) 32 (v := undef) rfl (by kernel_rfl) (fun _ _ _ h => h) (by kernel_rfl) hCells (Or.inr ⟨by rfl, rfl⟩) ?_
          try simp only [Act.put, List.setIfInBounds_toArray, List.set_cons_zero, List.set_cons_succ]
          refine takeB hfnR (by kernel_rfl) 33 (v := undef) rfl (by kernel_rfl) (fun _ _ _ h => h) (by kernel_rfl) hCells (Or.inr ⟨by rfl, rfl⟩) ?_
          try simp only [Act.put, List.setIfInBounds_toArray, List.set_cons_zero, List.set_cons_succ]
          refine takeB hfnR (by kernel_rfl) 34 (v := undef) rfl (by kernel_rfl) (fun _ _ _ h => h) (by kernel_rfl) hCells (Or.inr ⟨by rfl, rfl⟩) ?_
          try simp only [Act.put, List.setIfInBounds_toArray, List.set_cons_zero, List.set_cons_succ]
          refine takeB hfnR (by kernel_rfl) 35 (v := ?_) rfl (by kernel_rfl) (fun _ _ _ h => h) (by kernel_rfl) hCells (Or.inl ⟨by rfl, ?_⟩) ?_
          rotate_left 1
          · intro w hSw; (try dsimp only at hSw); go_simp; (try with_reducible rfl)
          try simp only [Act.put, List.setIfInBounds_toArray, List.set_cons_zero, List.set_cons_succ]
          refine wpAnyJ_done (by kernel_rfl) (NoPan.normal ?_) _
          go_wp2_with fail
          go_roundw
          case rel => exact ⟨k + 1, _, by omega, rfl, by simp, HK.out.2.2, Lib.hid (hI.out.skip (by have a := HQse.out; rw [← HS.out]; simp at a; simp [candS, key3, a]))⟩
          case measure => simp [intOf]; omega
      · clear hB
        have hkk : k = N := by omega
        subst hkk
        have hkn : ¬ (k : Int) < (k : Int) := by omega
        have hI2 := hI.out
        rw [HN.out] at hI2
        rcases hI2.cases with rfl | ⟨j, rfl, hj⟩
        · have HI := Lib.hid hI2
          clear hI2
          go_wp2_with fail
          go_ret2
          exact ⟨⟨0, 7, rfl, .inr ⟨HT.out, HI.out.none⟩⟩, HB2.out.trans (HB.out.mono HB2.out.size)⟩
        · have HI := Lib.hid hI2
          clear hI2
          have hjn : j < k := by have := HN.out; omega
          obtain ⟨gb, off, rfl, hb, hcs⟩ := HR.out (by omega)
          have hcy := ((hcs j hjn).below HB.out hb)
          obtain ⟨o, ho⟩ : ∃ o, o = L.getD j .z := ⟨_, rfl⟩
          rw [← ho] at hcy
          have HO := Lib.hid ho
          have y4 := hcy.cells.2
          have hj0 : ¬ (j : Int) < 0 := by omega
          have hjN : (j : Int) < (k : Int) := by omega
          clear ho hcy hcs
          go_wp2_with fail
          go_ret2
          exact ⟨⟨o.wi, 0, rfl, .inr ⟨HT.out, by rw [HO.out]; exact HI.out.some⟩⟩, HB2.out.trans (HB.out.mono HB2.out.size)⟩
  · have HT := Lib.hid hT
    have HB2 := Lib.hid hb2
    clear hT hb2
    go_wp2_with fail
    go_ret2
    exact ⟨⟨(0, 2), rfl, .inl ⟨HT.out, rfl⟩⟩, HB2.out⟩
end Go.Proofs.Cr
