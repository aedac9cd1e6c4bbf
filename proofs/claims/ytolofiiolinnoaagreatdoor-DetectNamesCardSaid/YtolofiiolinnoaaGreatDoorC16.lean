/- Contracts of functions that the laws reach, and plain lemmas. Part 16. -/
import Derived.Deep.Slices
import Derived.OpenShut
import Derived.Carry
import Derived.Test.YtolofiiolinnoaaGreatDoorCards
import Derived.Test.YtolofiiolinnoaaGreatDoorTie
import Derived.ProofKit
import Derived.LaidMore
import Derived.Lay
import Derived.SevenTiedAt
import Derived.Stop.Joined
import Derived.Stop.LaidErr
import Derived.Lib.LaidTab
import Derived.Test.YtolofiiolinnoaaGreatDoorC15
set_option linter.all false
namespace Go.Proofs.Cr
open Go.RowKit Go.Shelf
attribute [local go_sem] Oper.semAt_some

theorem of32 (w : World) (hT : TabW w) : Calls Tryz.prog 30 #[.int .i64 3, .int .i64 2] w fun e w' => e = .returned (.agg #[.string ⟨#[51]⟩, .string ⟨#[50]⟩]) ∧ Below w.heap.size w w' :=
  (lawOf_any 3 2 (by decide) (by decide) (by decide) w hT).mono fun e w' h => ⟨h.1.trans (by kernel_rfl), h.2⟩
theorem of58 (w : World) (hT : TabW w) : Calls Tryz.prog 30 #[.int .i64 5, .int .i64 8] w fun e w' => e = .returned (.agg #[.string ⟨#[53]⟩, .string ⟨#[56]⟩]) ∧ Below w.heap.size w w' :=
  (lawOf_any 5 8 (by decide) (by decide) (by decide) w hT).mono fun e w' h => ⟨h.1.trans (by kernel_rfl), h.2⟩
theorem ask_small (a b : ByteArray) (x y : Nat) (hx : x < 9223372036854775808) (hy : y < 9223372036854775808) (h0 : 0 < y) (ha : a = qN (mkRat x y)) (hb : b = qD (mkRat x y)) : AskOK (halvL 2) a b 2 (mkRat x y) :=
  ⟨halv2_curve, ⟨(ratio_fr x y hx hy).ok.1, (sm_ratio x y hx hy h0).mono (by decide)⟩, ha, hb⟩
theorem q58 : qN (5 / 8) = ⟨#[53]⟩ ∧ qD (5 / 8) = ⟨#[56]⟩ := ⟨by kernel_rfl, by kernel_rfl⟩
theorem q32 : qN (3 / 2) = ⟨#[51]⟩ ∧ qD (3 / 2) = ⟨#[50]⟩ := ⟨by kernel_rfl, by kernel_rfl⟩
theorem halv2_ask {e : Ending} {w w' : World} (h : ChancePost (halvL 2) ⟨#[51]⟩ ⟨#[50]⟩ w e w') : e = .returned (.tuple #[.agg #[.string ⟨#[53]⟩, .string ⟨#[56]⟩], .int .i64 0]) ∧ Below w.heap.size w w' := by
  have hk := ask_small ⟨#[51]⟩ ⟨#[50]⟩ 3 2 (by decide) (by decide) (by decide) (by kernel_rfl) (by kernel_rfl)
  obtain ⟨⟨_, h1⟩ | ⟨N, q, r, h1, rfl, h2, _⟩, hb⟩ := h
  · exact (h1 _ _ hk).elim
  · refine ⟨?_, hb⟩
    have hf := h1.2.1.1.fr
    rw [← h1.2.2.1, ← h1.2.2.2] at hf
    have hg := hk.2.1.1.fr
    rw [← hk.2.2.1, ← hk.2.2.2] at hg
    have hr := halv2_chance h1.1 (hf.fun hg) h2
    subst hr
    rw [q58.1, q58.2]
    rfl
theorem halv2_wants {e : Ending} {w w' : World} (h : NeedPost (halvL 2) ⟨#[53]⟩ ⟨#[56]⟩ w e w') : e = .returned (.tuple #[.agg #[.string ⟨#[51]⟩, .string ⟨#[50]⟩], .int .i64 0]) ∧ Below w.heap.size w w' := by
  have hk := ask_small ⟨#[53]⟩ ⟨#[56]⟩ 5 8 (by decide) (by decide) (by decide) (by kernel_rfl) (by kernel_rfl)
  obtain ⟨⟨_, h1⟩ | ⟨N, q, h1, h2⟩, hb⟩ := h
  · exact (h1 _ _ hk).elim
  · refine ⟨?_, hb⟩
    have hf := h1.2.1.1.fr
    rw [← h1.2.2.1, ← h1.2.2.2] at hf
    have hg := hk.2.1.1.fr
    rw [← hk.2.2.1, ← hk.2.2.2] at hg
    have hq := hf.fun hg
    rcases h2 with ⟨_, h3⟩ | ⟨r, rfl, h3, _⟩
    · have hN : N = 2 := by have := h1.1.len; rw [halvL_len] at this; omega
      rw [hN, halv2_y.2.2, hq] at h3
      exact absurd h3 (by decide +kernel)
    · have hr := halv2_need h1.1 hq h3
      subst hr
      rw [q32.1, q32.2]
      rfl
def exL : List Sg := [⟨1, 2, 0, 3, 800⟩, ⟨1, 2, 0, 5, 500⟩]
theorem exL_width {p : Int × Int} (h : WidthR exL (1, 2, 0) 4 p) : p = (500, 0) := by
  have hT : TableP exL := ⟨by decide, fun k hk => by
    have : k = 0 ∨ k = 1 := by have : k < 2 := hk; omega
    rcases this with rfl | rfl
    · exact ⟨by decide, fun j hj => by omega⟩
    · refine ⟨by decide, fun j hj => ?_⟩
      have : j = 0 := by omega
      subst this
      intro _
      decide⟩
  refine width_one h (.inr ⟨hT, .inr ⟨⟨1, 2, 0, 5, 500⟩, by decide, by decide, ?_, rfl⟩⟩)
  decide
theorem exL_reads {W : World} {g : Nat} {t : TypeId} (h : Blk W g #[.int .i64 1, .int .i64 2, .int .i64 0, .int .i64 3, .int .i64 800, .int .i64 1, .int .i64 2, .int .i64 0, .int .i64 5, .int .i64 500] t) : RdS W (some ⟨g, 0, none⟩) exL := by
  refine ⟨by decide, fun _ => ⟨g, 0, rfl, h.lt, fun j hj => ?_⟩⟩
  match j, hj with
  | 0, _ => exact ⟨⟨⟨h.cell 0, h.cell 1⟩, h.cell 2, h.cell 3⟩, h.cell 4⟩
  | 1, _ => exact ⟨⟨⟨h.cell 5, h.cell 6⟩, h.cell 7, h.cell 8⟩, h.cell 9⟩
set_option maxRecDepth 100000 in
set_option maxHeartbeats 4000000 in
/-- 'alive': the chapter's first examples. -/
theorem alive_any (w : World) (hT : TabW w) (hZ : ZO w) : Calls Tryz.prog 14 #[] w fun e w' => e = .returned (.bool true) ∧ Below w.heap.size w w' := by
  have TH := Lib.hid (Halving_any 2 w hT hZ)
  have HTZ := Lib.hid (And.intro hT hZ)
  clear hT hZ
  go_enter Tryz.func14, Tryz.ntmps14
  go_wp2_with fail
  refine TH.out.mono ?_
  rintro e w2 ⟨⟨_, h⟩ | ⟨m, A, c, hm, _, _, rfl, hc, hr⟩, hb⟩
  · exact absurd (by decide) h
  · have hm2 : m = 2 := by omega
    subst hm2
    have HR := Lib.hid hr
    have HC := Lib.hid hc
    have HB := Lib.hid hb
    clear hr hc hb hm
    go_wp2_with fail
    refine (of32 _ (HTZ.out.1.below HB.out (Nat.le_refl _))).mono ?_
    rintro e w3 ⟨rfl, hb3⟩
    have HB3 := Lib.hid (HB.out.trans (hb3.mono HB.out.size))
    have HR3 := Lib.hid (HR.out.below hb3 (Nat.le_refl _))
    have TC := Chance_any A c (halvL 2) ⟨#[51]⟩ ⟨#[50]⟩ w3 HR3.out (by rw [halvL_len]; exact HC.out) (HTZ.out.1.below HB3.out (Nat.le_refl _)) (HTZ.out.2.below HB3.out (Nat.le_refl _))
    rw [halvL_len] at TC
    have TC := Lib.hid TC
    clear hb3
    go_wp2_with fail
    refine TC.out.mono ?_
    rintro e w4 h4
    obtain ⟨rfl, hb4⟩ := halv2_ask h4
    have HB4 := Lib.hid (HB3.out.trans (hb4.mono HB3.out.size))
    have HR4 := Lib.hid (HR3.out.below hb4 (Nat.le_refl _))
    have hN4 := Blk.new w4 #[.string ⟨#[53]⟩, .string ⟨#[56]⟩] 46
    have hA4 := below_alloc w4 (.cells #[.string ⟨#[53]⟩, .string ⟨#[56]⟩] 46)
    have HB5 := Lib.hid (HB4.out.alloc HB4.out.size (.cells #[.string ⟨#[53]⟩, .string ⟨#[56]⟩] 46))
    have HR5 := Lib.hid (HR4.out.below hA4 (Nat.le_refl _))
    have TO := Lib.hid (of58 _ (HTZ.out.1.below HB5.out (Nat.le_refl _)))
    clear hb4 h4 hA4
    go_wp2_with fail
    refine TO.out.mono ?_
    rintro e w5 ⟨rfl, hb5⟩
    have HB6 := Lib.hid (HB5.out.trans (hb5.mono HB5.out.size))
    have HR6 := Lib.hid (HR5.out.below hb5 (Nat.le_refl _))
    have hN5 := hN4.pass hb5
    have TD := Need_any A c (halvL 2) ⟨#[53]⟩ ⟨#[56]⟩ w5 HR6.out (by rw [halvL_len]; exact HC.out) (HTZ.out.1.below HB6.out (Nat.le_refl _)) (HTZ.out.2.below HB6.out (Nat.le_refl _))
    rw [halvL_len] at TD
    have TD := Lib.hid TD
    clear hb5 hN4
    go_wp2_with fail
    refine TD.out.mono ?_
    rintro e w6 h6
    obtain ⟨rfl, hb6⟩ := halv2_wants h6
    have HB7 := Lib.hid (HB6.out.trans (hb6.mono HB6.out.size))
    have HR7 := Lib.hid (HR6.out.below hb6 (Nat.le_refl _))
    have hN6 := hN5.pass hb6
    clear hb6 h6 hN5
    have hN7 := Blk.new w6 #[.string ⟨#[51]⟩, .string ⟨#[50]⟩] 46
    have hE := Blk.new (w6.alloc (.cells #[.string ⟨#[51]⟩, .string ⟨#[50]⟩] 46)) #[.int .i64 1, .int .i64 2, .int .i64 0, .int .i64 3, .int .i64 800, .int .i64 1, .int .i64 2, .int .i64 0, .int .i64 5, .int .i64 500] 30
    simp only [World.size_alloc] at hE
    have hW8 := (below_alloc w6 (.cells #[.string ⟨#[51]⟩, .string ⟨#[50]⟩] 46)).alloc (by simp) (.cells #[.int .i64 1, .int .i64 2, .int .i64 0, .int .i64 3, .int .i64 800, .int .i64 1, .int .i64 2, .int .i64 0, .int .i64 5, .int .i64 500] 30)
    have TE := Lib.hid (Width_any (some ⟨w6.heap.size + 1, 0, none⟩) 2 exL 1 2 0 4 _ (exL_reads hE))
    rw [show exL.length = 2 from rfl] at TE
    have hN8 := hN7.alloc (.cells #[.int .i64 1, .int .i64 2, .int .i64 0, .int .i64 3, .int .i64 800, .int .i64 1, .int .i64 2, .int .i64 0, .int .i64 5, .int .i64 500] 30)
    have hM8 := hN6.below hW8 hN6.lt
    have HB8 := Lib.hid (HB7.out.trans (hW8.mono HB7.out.size))
    have HR8 := Lib.hid (HR7.out.below hW8 (Nat.le_refl _))
    clear hN7 hE hW8 hN6
    go_wp2_with fail
    refine TE.out.mono ?_
    rintro e w7 ⟨⟨p, rfl, hp⟩, hb7⟩
    obtain rfl := exL_width hp
    have HB9 := Lib.hid (HB8.out.trans (hb7.mono HB8.out.size))
    obtain ⟨b, off, rfl, hbb, hcs⟩ := (HR8.out.below hb7 (Nat.le_refl _)).2 (by decide)
    have hc2 := (hcs 2 (by decide)).2
    rw [show ((halvL 2).getD 2 .zero).hn = (⟨#[51]⟩ : ByteArray) by kernel_rfl, show ((halvL 2).getD 2 .zero).hd = (⟨#[52]⟩ : ByteArray) by kernel_rfl] at hc2
    have hN9 := (hN8.pass hb7).two.1
    have hM9 := (hM8.pass hb7).two.1
    have HK := Lib.hid ((Kept.of (Nat.le_refl _) HB9.out.size HB9.out).drew)
    have hfnR : ∀ f, Fence.wide.fn f := fun _ => trivial
    have hm : Tryz.prog.follows .mixedOrders = true := by kernel_rfl
    clear hb7 hp hcs hN8 hM8
    go_wp2_with fail
    refine wp_region_J (fun W => (W.cell? ⟨b, off + 2 * 4 + 2, none⟩ = some (.string ⟨#[51]⟩) ∧ W.cell? ⟨b, off + 2 * 4 + 3, none⟩ = some (.string ⟨#[52]⟩)) ∧ (W.cell? ⟨w4.heap.size, 0, none⟩ = some (.string ⟨#[53]⟩) ∧ W.cell? ⟨w4.heap.size, 1, none⟩ = some (.string ⟨#[56]⟩)) ∧ (W.cell? ⟨w6.heap.size, 0, none⟩ = some (.string ⟨#[51]⟩) ∧ W.cell? ⟨w6.heap.size, 1, none⟩ = some (.string ⟨#[50]⟩))) [] hm ?hCells0 (fun hCells => ?_)
    case hCells0 => exact ⟨hc2, hM9, hN9⟩
    generalize w7.drew = W0 at *
    refine takeB hfnR (by kernel_rfl) 0 (v := ?_) rfl (by kernel_rfl) (fun _ _ _ h => h) (by kernel_rfl) hCells (Or.inl ⟨by rfl, ?_⟩) ?_
    rotate_left 1
    · intro w hSw; (try dsimp only at hSw); go_simp; (try with_reducible rfl)
    try simp only [Act.put, List.setIfInBounds_toArray, List.set_cons_zero, List.set_cons_succ]
    refine takeB hfnR (by kernel_rfl) 1 (v := ?_) rfl (by kernel_rfl) (fun _ _ _ h => h) (by kernel_rfl) hCells (Or.inl ⟨by rfl, ?_⟩) ?_
    rotate_left 1
    · intro w hSw; (try dsimp only at hSw); go_simp; (try with_reducible rfl)
    try simp only [Act.put, List.setIfInBounds_toArray, List.set_cons_zero, List.set_cons_succ]
    refine takeB hfnR (by kernel_rfl) 2 (v := ?_) rfl (by kernel_rfl) (fun _ _ _ h => h) (by kernel_rfl) hCells (Or.inl ⟨by rfl, ?_⟩) ?_
    rotate_left 1
    · intro w hSw; (try dsimp only at hSw); go_simp; (try with_reducible rfl)
    try simp only [Act.put, List.setIfInBounds_toArray, List.set_cons_zero, List.set_cons_succ]
    refine takeB hfnR (by kernel_rfl) 3 (v := ?_) rfl (by kernel_rfl) (fun _ _ _ h => h) (by kernel_rfl) hCells (Or.inl ⟨by rfl, ?_⟩) ?_
    rotate_left 1
    · intro w hSw; (try dsimp only at hSw); go_simp; (try with_reducible rfl)
    try simp only [Act.put, List.setIfInBounds_toArray, List.set_cons_zero, List.set_cons_succ]
    refine takeB hfnR (by kernel_rfl) 4 (v := ?_) rfl (by kernel_rfl) (fun _ _ _ h => h) (by kernel_rfl) hCells (Or.inl ⟨by rfl, ?_⟩) ?_
    rotate_left 1
    · intro w hSw; (try dsimp only at hSw); go_simp; (try with_reducible rfl)
    try simp only [Act.put, List.setIfInBounds_toArray, List.set_cons_zero, List.set_cons_succ]
    refine takeB hfnR (by kernel_rfl) 5 (v := ?_) rfl (by kernel_rfl) (fun _ _ _ h => h) (by kernel_rfl) hCells (Or.inl ⟨by rfl, ?_⟩) ?_
    rotate_left 1
    · intro w hSw; (try dsimp only at hSw); go_simp; (try with_reducible rfl)
    try simp only [Act.put, List.setIfInBounds_toArray, List.set_cons_zero, List.set_cons_succ]
    refine takeB hfnR (by kernel_rfl) 6 (v := ?_) rfl (by kernel_rfl) (fun _ _ _ h => h) (by kernel_rfl) hCells (Or.inl ⟨by rfl, ?_⟩) ?_
    rotate_left 1
    · intro w hSw; (try dsimp only at hSw); go_simp; (try with_reducible rfl)
    try simp only [Act.put, List.setIfInBounds_toArray, List.set_cons_zero, List.set_cons_succ]
    refine takeB hfnR (by kernel_rfl) 7 (v := ?_) rfl (by kernel_rfl) (fun _ _ _ h => h) (by kernel_rfl) hCells (Or.inl ⟨by rfl, ?_⟩) ?_
    rotate_left 1
    · intro w hSw; (try dsimp only at hSw); go_simp; (try with_reducible rfl)
    try simp only [Act.put, List.setIfInBounds_toArray, List.set_cons_zero, List.set_cons_succ]
    refine takeB hfnR (by kernel_rfl) 8 (v := ?_) rfl (by kernel_rfl) (fun _ _ _ h => h) (by kernel_rfl) hCells (Or.inl ⟨by rfl, ?_⟩) ?_
    rotate_left 1
    · intro w hSw; (try dsimp only at hSw); go_simp; (try with_reducible rfl)
    try simp only [Act.put, List.setIfInBounds_toArray, List.set_cons_zero, List.set_cons_succ]
    refine takeB hfnR (by kernel_rfl) 9 (v := ?_) rfl (by kernel_rfl) (fun _ _ _ h => h) (by kernel_rfl) hCells (Or.inl ⟨by rfl, ?_⟩) ?_
    rotate_left 1
    · intro w hSw; (try dsimp only at hSw); go_simp; (try with_reducible rfl)
    try simp only [Act.put, List.setIfInBounds_toArray, List.set_cons_zero, List.set_cons_succ]
    refine takeB hfnR (by kernel_rfl) 10 (v := ?_) rfl (by kernel_rfl) (fun _ _ _ h => h) (by kernel_rfl) hCells (Or.inl ⟨by rfl, ?_⟩) ?_
    rotate_left 1
    · intro w hSw; (try dsimp only at hSw); go_simp; (try with_reducible rfl)
    try simp only [Act.put, List.setIfInBounds_toArray, List.set_cons_zero, List.set_cons_succ]
    refine takeB hfnR (by kernel_rfl) 11 (v := ?_) rfl (by kernel_rfl) (fun _ _ _ h => h) (by kernel_rfl) hCells (Or.inl ⟨by rfl, ?_⟩) ?_
    rotate_left 1
    · intro w hSw; (try dsimp only at hSw); go_simp; (try with_reducible rfl)
    try simp only [Act.put, List.setIfInBounds_toArray, List.set_cons_zero, List.set_cons_succ]
    refine takeB hfnR (by kernel_rfl) 12 (v := ?_) rfl (by kernel_rfl) (fun _ _ _ h => h) (by kernel_rfl) hCells (Or.inl ⟨by rfl, ?_⟩) ?_
    rotate_left 1
    · intro w hSw; (try dsimp only at hSw); go_simp; (try with_reducible rfl)
    try simp only [Act.put, List.setIfInBounds_toArray, List.set_cons_zero, List.set_cons_succ]
    refine takeB hfnR (by kernel_rfl) 13 (v := ?_) rfl (by kernel_rfl) (fun _ _ _ h => h) (by kernel_rfl) hCells (Or.inl ⟨by rfl, ?_⟩) ?_
    rotate_left 1
    · intro w hSw; (try dsimp only at hSw); go_simp; (try with_reducible rfl)
    try simp only [Act.put, List.setIfInBounds_toArray, List.set_cons_zero, List.set_cons_succ]
    refine takeB hfnR (by kernel_rfl) 14 (v := ?_) rfl (by kernel_rfl) (fun _ _ _ h => h) (by kernel_rfl) hCells (Or.inl ⟨by rfl, ?_⟩) ?_
    rotate_left 1
    · intro w hSw; (try dsimp only at hSw); go_simp; (try with_reducible rfl)
    try simp only [Act.put, List.setIfInBounds_toArray, List.set_cons_zero, List.set_cons_succ]
    refine takeB hfnR (by kernel_rfl) 15 (v := ?_) rfl (by kernel_rfl) (fun _ _ _ h => h) (by kernel_rfl) hCells (Or.inl ⟨by rfl, ?_⟩) ?_
    rotate_left 1
    · intro w hSw; (try dsimp only at hSw); go_simp; (try with_reducible rfl)
    try simp only [Act.put, List.setIfInBounds_toArray, List.set_cons_zero, List.set_cons_succ]
    refine takeB hfnR (by kernel_rfl) 16 (v := ?_) rfl (by kernel_rfl) (fun _ _ _ h => h) (by kernel_rfl) hCells (Or.inl ⟨by rfl, ?_⟩) ?_
    rotate_left 1
    · intro w hSw; (try dsimp only at hSw); go_simp; (try with_reducible rfl)
    try simp only [Act.put, List.setIfInBounds_toArray, List.set_cons_zero, List.set_cons_succ]
    refine takeB hfnR (by kernel_rfl) 17 (v := ?_) rfl (by kernel_rfl) (fun _ _ _ h => h) (by kernel_rfl) hCells (Or.inl ⟨by rfl, ?_⟩) ?_
    rotate_left 1
    · intro w hSw; (try dsimp only at hSw); go_simp; (try with_reducible rfl)
    try simp only [Act.put, List.setIfInBounds_toArray, List.set_cons_zero, List.set_cons_succ]
    refine takeB hfnR (by kernel_rfl) 18 (v := ?_) rfl (by kernel_rfl) (fun _ _ _ h => h) (by kernel_rfl) hCells (Or.inl ⟨by rfl, ?_⟩) ?_
    rotate_left 1
    · intro w hSw; (try dsimp only at hSw); go_simp; (try with_reducible rfl)
    try simp only [Act.put, List.setIfInBounds_toArray, List.set_cons_zero, List.set_cons_succ]
    refine takeB hfnR (by kernel_rfl) 19 (v := ?_) rfl (by kernel_rfl) (fun _ _ _ h => h) (by kernel_rfl) hCells (Or.inl ⟨by rfl, ?_⟩) ?_
    rotate_left 1
    · intro w hSw; (try dsimp only at hSw); go_simp; (try with_reducible rfl)
    try simp only [Act.put, List.setIfInBounds_toArray, List.set_cons_zero, List.set_cons_succ]
    refine takeB hfnR (by kernel_rfl) 20 (v := ?_) rfl (by kernel_rfl) (fun _ _ _ h => h) (by kernel_rfl) hCells (Or.inl ⟨by rfl, ?_⟩) ?_
    rotate_left 1
    · intro w hSw; (try dsimp only at hSw); go_simp; (try with_reducible rfl)
    try simp only [Act.put, List.setIfInBounds_toArray, List.set_cons_zero, List.set_cons_succ]
    refine takeB hfnR (by kernel_rfl) 21 (v := ?_) rfl (by kernel_rfl) (fun _ _ _ h => h) (by kernel_rfl) hCells (Or.inl ⟨by rfl, ?_⟩) ?_
    rotate_left 1
    · intro w hSw; (try dsimp only at hSw); go_simp; (try with_reducible rfl)
    try simp only [Act.put, List.setIfInBounds_toArray, List.set_cons_zero, List.set_cons_succ]
    refine takeB hfnR (by kernel_rfl) 22 (v := ?_) rfl (by kernel_rfl) (fun _ _ _ h => h) (by kernel_rfl) hCells (Or.inl ⟨by rfl, ?_⟩) ?_
    rotate_left 1
    · intro w hSw; (try dsimp only at hSw); go_simp; (try with_reducible rfl)
    try simp only [Act.put, List.setIfInBounds_toArray, List.set_cons_zero, List.set_cons_succ]
    refine takeB hfnR (by kernel_rfl) 23 (v := ?_) rfl (by kernel_rfl) (fun _ _ _ h => h) (by kernel_rfl) hCells (Or.inl ⟨by rfl, ?_⟩) ?_
    rotate_left 1
    · intro w hSw; (try dsimp only at hSw); go_simp; (try with_reducible rfl)
    try simp only [Act.put, List.setIfInBounds_toArray, List.set_cons_zero, List.set_cons_succ]
    refine takeB hfnR (by kernel_rfl) 24 (v := ?_) rfl (by kernel_rfl) (fun _ _ _ h => h) (by kernel_rfl) hCells (Or.inl ⟨by rfl, ?_⟩) ?_
    rotate_left 1
    · intro w hSw; (try dsimp only at hSw); go_simp; (try with_reducible rfl)
    try simp only [Act.put, List.setIfInBounds_toArray, List.set_cons_zero, List.set_cons_succ]
    refine takeB hfnR (by kernel_rfl) 25 (v := ?_) rfl (by kernel_rfl) (fun _ _ _ h => h) (by kernel_rfl) hCells (Or.inl ⟨by rfl, ?_⟩) ?_
    rotate_left 1
    · intro w hSw; (try dsimp only at hSw); go_simp; (try with_reducible rfl)
    try simp only [Act.put, List.setIfInBounds_toArray, List.set_cons_zero, List.set_cons_succ]
    refine takeB hfnR (by kernel_rfl) 26 (v := ?_) rfl (by kernel_rfl) (fun _ _ _ h => h) (by kernel_rfl) hCells (Or.inl ⟨by rfl, ?_⟩) ?_
    rotate_left 1
    · intro w hSw; (try dsimp only at hSw); go_simp; (try with_reducible rfl)
    try simp only [Act.put, List.setIfInBounds_toArray, List.set_cons_zero, List.set_cons_succ]
    refine takeB hfnR (by kernel_rfl) 27 (v := ?_) rfl (by kernel_rfl) (fun _ _ _ h => h) (by kernel_rfl) hCells (Or.inl ⟨by rfl, ?_⟩) ?_
    rotate_left 1
    · intro w hSw; (try dsimp only at hSw); go_simp; (try with_reducible rfl)
    try simp only [Act.put, List.setIfInBounds_toArray, List.set_cons_zero, List.set_cons_succ]
    refine takeB hfnR (by kernel_rfl) 28 (v := ?_) rfl (by kernel_rfl) (fun _ _ _ h => h) (by kernel_rfl) hCells (Or.inl ⟨by rfl, ?_⟩) ?_
    rotate_left 1
    · intro w hSw; (try dsimp only at hSw); go_simp; (try with_reducible rfl)
    try simp only [Act.put, List.setIfInBounds_toArray, List.set_cons_zero, List.set_cons_succ]
    refine takeB hfnR (by kernel_rfl) 29 (v := ?_) rfl (by kernel_rfl) (fun _ _ _ h => h) (by kernel_rfl) hCells (Or.inl ⟨by rfl, ?_⟩) ?_
    rotate_left 1
    · intro w hSw; (try dsimp only at hSw); go_simp; (try with_reducible rfl)
    try simp only [Act.put, List.setIfInBounds_toArray, List.set_cons_zero, List.set_cons_succ]
    refine oneJ 30 (by kernel_rfl) rfl (fun K hK => ?_)
    go_simp
    refine ⟨rfl, ?_⟩
    (refine (callsIn_wide.2 (of32 _ (HTZ.out.1.below HK.out.2.2 (Nat.le_refl _)))).mono ?_; rintro e w8 ⟨rfl, hv8⟩)
    refine hK.out _ _ (holdJ ?_ (fun hCells => ?_))
    · clear hK; (try dsimp only); (exact ⟨⟨pc hv8 hCells.1.1, pc hv8 hCells.1.2⟩, ⟨pc hv8 hCells.2.1.1, pc hv8 hCells.2.1.2⟩, pc hv8 hCells.2.2.1, pc hv8 hCells.2.2.2⟩)
    clear hK K
    try simp only [Act.put, List.setIfInBounds_toArray, List.set_cons_zero, List.set_cons_succ]
    have HK := Lib.hid (HK.out.pass hv8)
    clear hv8
    refine takeB hfnR (by kernel_rfl) 31 (v := ?_) rfl (by kernel_rfl) (fun _ _ _ h => h) (by kernel_rfl) hCells (Or.inl ⟨by rfl, ?_⟩) ?_
    rotate_left 1
    · intro w hSw; (try dsimp only at hSw); go_simp; (try with_reducible rfl)
    try simp only [Act.put, List.setIfInBounds_toArray, List.set_cons_zero, List.set_cons_succ]
    refine takeB hfnR (by kernel_rfl) 32 (v := ?_) rfl (by kernel_rfl) (fun _ _ _ h => h) (by kernel_rfl) hCells (Or.inl ⟨by rfl, ?_⟩) ?_
    rotate_left 1
    · intro w hSw; (try dsimp only at hSw); go_simp; (try with_reducible rfl)
    try simp only [Act.put, List.setIfInBounds_toArray, List.set_cons_zero, List.set_cons_succ]
    refine takeB hfnR (by kernel_rfl) 33 (v := ?_) rfl (by kernel_rfl) (fun _ _ _ h => h) (by kernel_rfl) hCells (Or.inl ⟨by rfl, ?_⟩) ?_
    rotate_left 1
    · intro w hSw; (try dsimp only at hSw); go_simp; (try with_reducible rfl)
    try simp only [Act.put, List.setIfInBounds_toArray, List.set_cons_zero, List.set_cons_succ]
    refine takeB hfnR (by kernel_rfl) 34 (v := ?_) rfl (by kernel_rfl) (fun _ _ _ h => h) (by kernel_rfl) hCells (Or.inl ⟨by rfl, ?_⟩) ?_
    rotate_left 1
    · intro w hSw; (try dsimp only at hSw); go_simp; (try with_reducible rfl)
    try simp only [Act.put, List.setIfInBounds_toArray, List.set_cons_zero, List.set_cons_succ]
    refine takeB hfnR (by kernel_rfl) 35 (v := ?_) rfl (by kernel_rfl) (fun _ _ _ h => h) (by kernel_rfl) hCells (Or.inl ⟨by rfl, ?_⟩) ?_
    rotate_left 1
    · intro w hSw; (try dsimp only at hSw); go_simp; (try with_reducible rfl)
    try simp only [Act.put, List.setIfInBounds_toArray, List.set_cons_zero, List.set_cons_succ]
    refine takeB hfnR (by kernel_rfl) 36 (v := ?_) rfl (by kernel_rfl) (fun _ _ _ h => h) (by kernel_rfl) hCells (Or.inl ⟨by rfl, ?_⟩) ?_
    rotate_left 1
    · intro w hSw; (try dsimp only at hSw); go_simp; (try with_reducible rfl)
    try simp only [Act.put, List.setIfInBounds_toArray, List.set_cons_zero, List.set_cons_succ]
    refine takeB hfnR (by kernel_rfl) 37 (v := ?_) rfl (by kernel_rfl) (fun _ _ _ h => h) (by kernel_rfl) hCells (Or.inl ⟨by rfl, ?_⟩) ?_
    rotate_left 1
    · intro w hSw; (try dsimp only at hSw); go_simp; (try with_reducible rfl)
    try simp only [Act.put, List.setIfInBounds_toArray, List.set_cons_zero, List.set_cons_succ]
    refine takeB hfnR (by kernel_rfl) 38 (v := ?_) rfl (by kernel_rfl) (fun _ _ _ h => h) (by kernel_rfl) hCells (Or.inl ⟨by rfl, ?_⟩) ?_
    rotate_left 1
    · intro w hSw; (try dsimp only at hSw); go_simp; (try with_reducible rfl)
    try simp only [Act.put, List.setIfInBounds_toArray, List.set_cons_zero, List.set_cons_succ]
    refine takeB hfnR (by kernel_rfl) 39 (v := ?_) rfl (by kernel_rfl) (fun _ _ _ h => h) (by kernel_rfl) hCells (Or.inl ⟨by rfl, ?_⟩) ?_
    rotate_left 1
    · intro w hSw; (try dsimp only at hSw); go_simp; (try with_reducible rfl)
    try simp only [Act.put, List.setIfInBounds_toArray, List.set_cons_zero, List.set_cons_succ]
    refine takeB hfnR (by kernel_rfl) 40 (v := ?_) rfl (by kernel_rfl) (fun _ _ _ h => h) (by kernel_rfl) hCells (Or.inl ⟨by rfl, ?_⟩) ?_
    rotate_left 1
    · intro w hSw; (try dsimp only at hSw); go_simp; (try with_reducible rfl)
    try simp only [Act.put, List.setIfInBounds_toArray, List.set_cons_zero, List.set_cons_succ]
    refine takeB hfnR (by kernel_rfl) 41 (v := ?_) rfl (by kernel_rfl) (fun _ _ _ h => h) (by kernel_rfl) hCells (Or.inl ⟨by rfl, ?_⟩) ?_
    rotate_left 1
    · intro w hSw; (try dsimp only at hSw); go_simp; (try with_reducible rfl)
    try simp only [Act.put, List.setIfInBounds_toArray, List.set_cons_zero, List.set_cons_succ]
    refine wpAnyJ_done (by kernel_rfl) (NoPan.normal ?_) _
    go_wp2_with fail
    go_ret
    exact ⟨rfl, HK.out.2.2⟩
end Go.Proofs.Cr
namespace Go.Proofs.Cr
open Go.RowKit Go.Shelf
attribute [local go_sem] Oper.semAt_some

set_option maxRecDepth 100000 in
set_option maxHeartbeats 4000000 in
/-- The law DetectWorse. -/
theorem Worse_walk (A : Option Addr) (c : Nat) (L : List Sg) (se ob li : Int) (a b : Nat) (ha : a < 256) (hb : b < 256) (w : World) (hr : L.length ≤ 270 → RdS w A L) (hT : TabW w) (hZ : ZO w) :
    Calls Tryz.prog 7 #[.slice A L.length c, .int .i64 se, .int .i64 ob, .int .i64 li, .agg #[.int .u8 (a : Int), .int .u8 (b : Int)]] w fun e w' => e = .returned (.bool true) ∧ Below w.heap.size w w' := by
  have hA := Blk.new w #[.int .u8 (a : Int), .int .u8 (b : Int)] 58
  have hW1 := below_alloc w (.cells #[.int .u8 (a : Int), .int .u8 (b : Int)] 58)
  have TA := Lib.hid (alive_any _ (hT.below hW1 (Nat.le_refl _)) (hZ.below hW1 (Nat.le_refl _)))
  have HW1 := Lib.hid hW1
  have HR := Lib.hid hr
  obtain ⟨N, hN⟩ : ∃ N, N = L.length := ⟨_, rfl⟩
  rw [← hN]
  have HN := Lib.hid hN
  clear hr hW1 hN hT hZ
  go_enter Tryz.func7, Tryz.ntmps7
  go_wp2_with fail
  refine TA.out.mono ?_
  rintro e w2 ⟨rfl, hb2⟩
  have hA2 := hA.pass hb2
  have HB2 := Lib.hid (HW1.out.trans (hb2.mono HW1.out.size))
  have HK := Lib.hid ((Kept.of (Nat.le_refl _) HB2.out.size HB2.out).drew)
  have hfnR : ∀ f, Fence.wide.fn f := fun _ => trivial
  have hm : Tryz.prog.follows .mixedOrders = true := by kernel_rfl
  clear hb2 hA
  by_cases h270 : 270 < N
  · have h270' : (270 : Int) < (N : Int) := by omega
    go_wp2_with fail
    go_ret
    exact ⟨rfl, HB2.out⟩
  · have h270' : ¬ (270 : Int) < (N : Int) := by omega
    go_wp2_with fail
    refine wp_region_J (fun W => W.cell? ⟨w.heap.size, 0, none⟩ = some (.int .u8 (a : Int)) ∧ W.cell? ⟨w.heap.size, 1, none⟩ = some (.int .u8 (b : Int))) [] hm ?hCells0 (fun hCells => ?_)
    case hCells0 => exact ⟨hA2.cell 0, hA2.cell 1⟩
    obtain ⟨lo, hlo⟩ : ∃ lo, lo = min a b := ⟨_, rfl⟩
    obtain ⟨hi, hhi⟩ : ∃ hi, hi = max a b := ⟨_, rfl⟩
    have e1 : min (a : Int) (b : Int) = (lo : Int) := by rw [hlo]; omega
    have e2 : max (a : Int) (b : Int) = (hi : Int) := by rw [hhi]; omega
    obtain ⟨X, hX⟩ : ∃ X, X = lo % 10 := ⟨_, rfl⟩
    obtain ⟨Y, hY⟩ : ∃ Y, Y = hi % 10 := ⟨_, rfl⟩
    have e3 : (lo : Int).tmod 10 = (X : Int) := by rw [hX]; exact u64_mod lo 10
    have e4 : (hi : Int).tmod 10 = (Y : Int) := by rw [hY]; exact u64_mod hi 10
    have f1 : IntKind.i64.wrap (lo : Int) = (lo : Int) := i64_id lo (by omega)
    have f2 : IntKind.i64.wrap (hi : Int) = (hi : Int) := i64_id hi (by omega)
    clear hlo hhi hX hY ha hb
    refine takeB hfnR (by kernel_rfl) 0 (v := ?_) rfl (by kernel_rfl) (fun _ _ _ h => h) (by kernel_rfl) hCells (Or.inl ⟨by rfl, ?_⟩) ?_
    rotate_left 1
    · intro w hSw; (try dsimp only at hSw); go_simp; (try with_reducible rfl)
    try simp only [Act.put, List.setIfInBounds_toArray, List.set_cons_zero, List.set_cons_succ]
    refine takeB hfnR (by kernel_rfl) 1 (v := ?_) rfl (by kernel_rfl) (fun _ _ _ h => h) (by kernel_rfl) hCells (Or.inl ⟨by rfl, ?_⟩) ?_
    rotate_left 1
    · intro w hSw; (try dsimp only at hSw); go_simp; (try with_reducible rfl)
    try simp only [Act.put, List.setIfInBounds_toArray, List.set_cons_zero, List.set_cons_succ]
    refine takeB hfnR (by kernel_rfl) 2 (v := ?_) rfl (by kernel_rfl) (fun _ _ _ h => h) (by kernel_rfl) hCells (Or.inl ⟨by rfl, ?_⟩) ?_
    rotate_left 1
    · intro w hSw; (try dsimp only at hSw); go_simp; (try with_reducible rfl)
    try simp only [Act.put, List.setIfInBounds_toArray, List.set_cons_zero, List.set_cons_succ]
    refine takeB hfnR (by kernel_rfl) 3 (v := ?_) rfl (by kernel_rfl) (fun _ _ _ h => h) (by kernel_rfl) hCells (Or.inl ⟨by rfl, ?_⟩) ?_
    rotate_left 1
    · intro w hSw; (try dsimp only at hSw); go_simp; (try with_reducible rfl)
    try simp only [Act.put, List.setIfInBounds_toArray, List.set_cons_zero, List.set_cons_succ]
    refine takeB hfnR (by kernel_rfl) 4 (v := ?_) rfl (by kernel_rfl) (fun _ _ _ h => h) (by kernel_rfl) hCells (Or.inl ⟨by rfl, ?_⟩) ?_
    rotate_left 1
    · intro w hSw; (try dsimp only at hSw); go_simp; (try with_reducible rfl)
    try simp only [Act.put, List.setIfInBounds_toArray, List.set_cons_zero, List.set_cons_succ]
    refine takeB hfnR (by kernel_rfl) 5 (v := ?_) rfl (by kernel_rfl) (fun _ _ _ h => h) (by kernel_rfl) hCells (Or.inl ⟨by rfl, ?_⟩) ?_
    rotate_left 1
    · intro w hSw; (try dsimp only at hSw); go_simp; (try with_reducible rfl)
    try simp only [Act.put, List.setIfInBounds_toArray, List.set_cons_zero, List.set_cons_succ]
    refine takeB hfnR (by kernel_rfl) 6 (v := ?_) rfl (by kernel_rfl) (fun _ _ _ h => h) (by kernel_rfl) hCells (Or.inl ⟨by rfl, ?_⟩) ?_
    rotate_left 1
    · intro w hSw; (try dsimp only at hSw); go_simp; (try with_reducible rfl)
    try simp only [Act.put, List.setIfInBounds_toArray, List.set_cons_zero, List.set_cons_succ]
    refine takeB hfnR (by kernel_rfl) 7 (v := ?_) rfl (by kernel_rfl) (fun _ _ _ h => h) (by kernel_rfl) hCells (Or.inl ⟨by rfl, ?_⟩) ?_
    rotate_left 1
    · intro w hSw; (try dsimp only at hSw); go_simp; (try with_reducible rfl)
    try simp only [Act.put, List.setIfInBounds_toArray, List.set_cons_zero, List.set_cons_succ]
    refine takeB hfnR (by kernel_rfl) 8 (v := ?_) rfl (by kernel_rfl) (fun _ _ _ h => h) (by kernel_rfl) hCells (Or.inl ⟨by rfl, ?_⟩) ?_
    rotate_left 1
    · intro w hSw; (try dsimp only at hSw); go_simp; (try with_reducible rfl)
    try simp only [Act.put, List.setIfInBounds_toArray, List.set_cons_zero, List.set_cons_succ]
    refine takeB hfnR (by kernel_rfl) 9 (v := ?_) rfl (by kernel_rfl) (fun _ _ _ h => h) (by kernel_rfl) hCells (Or.inl ⟨by rfl, ?_⟩) ?_
    rotate_left 1
    · intro w hSw; (try dsimp only at hSw); go_simp; (try with_reducible rfl)
    try simp only [Act.put, List.setIfInBounds_toArray, List.set_cons_zero, List.set_cons_succ]
    refine takeB hfnR (by kernel_rfl) 10 (v := ?_) rfl (by kernel_rfl) (fun _ _ _ h => h) (by kernel_rfl) hCells (Or.inl ⟨by rfl, ?_⟩) ?_
    rotate_left 1
    · intro w hSw; (try dsimp only at hSw); go_simp; (try with_reducible rfl)
    try simp only [Act.put, List.setIfInBounds_toArray, List.set_cons_zero, List.set_cons_succ]
    refine takeB hfnR (by kernel_rfl) 11 (v := ?_) rfl (by kernel_rfl) (fun _ _ _ h => h) (by kernel_rfl) hCells (Or.inl ⟨by rfl, ?_⟩) ?_
    rotate_left 1
    · intro w hSw; (try dsimp only at hSw); go_simp; (try with_reducible rfl)
    try simp only [Act.put, List.setIfInBounds_toArray, List.set_cons_zero, List.set_cons_succ]
    refine takeB hfnR (by kernel_rfl) 12 (v := ?_) rfl (by kernel_rfl) (fun _ _ _ h => h) (by kernel_rfl) hCells (Or.inl ⟨by rfl, ?_⟩) ?_
    rotate_left 1
    · intro w hSw; (try dsimp only at hSw); go_simp; (try with_reducible rfl)
    try simp only [Act.put, List.setIfInBounds_toArray, List.set_cons_zero, List.set_cons_succ]
    refine takeB hfnR (by kernel_rfl) 13 (v := ?_) rfl (by kernel_rfl) (fun _ _ _ h => h) (by kernel_rfl) hCells (Or.inl ⟨by rfl, ?_⟩) ?_
    rotate_left 1
    · intro w hSw; (try dsimp only at hSw); go_simp; (try with_reducible rfl)
    try simp only [Act.put, List.setIfInBounds_toArray, List.set_cons_zero, List.set_cons_succ]
    refine takeB hfnR (by kernel_rfl) 14 (v := ?_) rfl (by kernel_rfl) (fun _ _ _ h => h) (by kernel_rfl) hCells (Or.inl ⟨by rfl, ?_⟩) ?_
    rotate_left 1
    · intro w hSw; (try dsimp only at hSw); go_simp; (try with_reducible rfl)
    try simp only [Act.put, List.setIfInBounds_toArray, List.set_cons_zero, List.set_cons_succ]
    refine takeB hfnR (by kernel_rfl) 15 (v := ?_) rfl (by kernel_rfl) (fun _ _ _ h => h) (by kernel_rfl) hCells (Or.inl ⟨by rfl, ?_⟩) ?_
    rotate_left 1
    · intro w hSw; (try dsimp only at hSw); go_simp; (try with_reducible rfl)
    try simp only [Act.put, List.setIfInBounds_toArray, List.set_cons_zero, List.set_cons_succ]
    refine wpAnyJ_done (by kernel_rfl) (NoPan.normal ?_) _
    have TWd := Lib.hid (fun x W (hW : Below w.heap.size w W) => Width_any A c L se ob li x W ((HR.out (by have := HN.out; omega)).below hW (Nat.le_refl _)))
    rw [← HN.out] at TWd
    clear e1 e2 e3 e4 f1 f2 hA2 hCells
    by_cases hxy : (Y : Int) < (X : Int)
    · go_wp2_with fail
      refine (TWd.out (Y : Int) _ HK.out.2.2).mono ?_
      rintro e w3 ⟨⟨⟨p1, p2⟩, rfl, hp⟩, hb3⟩
      have HK := Lib.hid (HK.out.pass hb3)
      clear hb3
      go_wp2_with fail
      refine (TWd.out (X : Int) _ HK.out.2.2).mono ?_
      rintro e w4 ⟨⟨⟨q1, q2⟩, rfl, hq⟩, hb4⟩
      have HK := Lib.hid (HK.out.pass hb4)
      have hw := width_worse (lo := (Y : Int)) (hi := (X : Int)) (by omega) hp hq
      clear hb4 hp hq hxy
      by_cases hq0 : q2 = 0
      · subst hq0
        obtain ⟨rfl, k1, k2, k3⟩ := hw.2 rfl
        clear hw
        go_wp2_with fail
        go_ret
        exact ⟨rfl, HK.out.2.2⟩
      · have k1 := hw.1 hq0
        clear hw
        by_cases k2 : p2 = q2
        · subst k2
          clear k1
          go_wp2_with fail
          go_ret
          exact ⟨rfl, HK.out.2.2⟩
        · have k3 : q2 = 7 := k1.resolve_left k2
          subst k3
          clear k1
          go_wp2_with fail
          go_ret
          exact ⟨rfl, HK.out.2.2⟩
    · go_wp2_with fail
      refine (TWd.out (X : Int) _ HK.out.2.2).mono ?_
      rintro e w3 ⟨⟨⟨p1, p2⟩, rfl, hp⟩, hb3⟩
      have HK := Lib.hid (HK.out.pass hb3)
      clear hb3
      go_wp2_with fail
      refine (TWd.out (Y : Int) _ HK.out.2.2).mono ?_
      rintro e w4 ⟨⟨⟨q1, q2⟩, rfl, hq⟩, hb4⟩
      have HK := Lib.hid (HK.out.pass hb4)
      have hw := width_worse (lo := (X : Int)) (hi := (Y : Int)) (by omega) hp hq
      clear hb4 hp hq hxy
      by_cases hq0 : q2 = 0
      · subst hq0
        obtain ⟨rfl, k1, k2, k3⟩ := hw.2 rfl
        clear hw
        go_wp2_with fail
        go_ret
        exact ⟨rfl, HK.out.2.2⟩
      · have k1 := hw.1 hq0
        clear hw
        by_cases k2 : p2 = q2
        · subst k2
          clear k1
          go_wp2_with fail
          go_ret
          exact ⟨rfl, HK.out.2.2⟩
        · have k3 : q2 = 7 := k1.resolve_left k2
          subst k3
          clear k1
          go_wp2_with fail
          go_ret
          exact ⟨rfl, HK.out.2.2⟩
end Go.Proofs.Cr
namespace Go.Proofs.Cr
open Go.RowKit Go.Shelf
open Go.ChangeShapes Go.WideShapes

theorem addr_at (b off n : Nat) : (⟨b, off, none⟩ : Addr).add n = ⟨b, off + n, none⟩ := by
  by_cases h0 : n = 0
  · rw [h0]; rfl
  · simp [Addr.add, h0]
theorem cell_at {w : World} {a : Addr} {n j : Nat} {v : Value} (h : w.cell? ((a.add n).add j) = some v) : w.cell? ⟨a.block, a.off + n + j, none⟩ = some v := by
  have hs := World.cell?_spot h
  obtain ⟨b, off, sp⟩ := a
  by_cases h0 : n = 0
  · subst h0
    by_cases h1 : j = 0
    · subst h1
      have : sp = none := by simpa [Addr.add] using hs
      subst this
      exact h
    · have : ((⟨b, off, sp⟩ : Addr).add 0).add j = ⟨b, off + 0 + j, none⟩ := by simp [Addr.add, h1]
      rw [this] at h; exact h
  · have : ((⟨b, off, sp⟩ : Addr).add n).add j = ⟨b, off + n + j, none⟩ := by
      have e : (⟨b, off, sp⟩ : Addr).add n = ⟨b, off + n, none⟩ := by simp [Addr.add, h0]
      rw [e, addr_at]
    rw [this] at h; exact h
theorem spot_at {w : World} {a : Addr} {v : Value} (h : w.cell? ((a.add 0).add 0) = some v) : a = ⟨a.block, a.off, none⟩ := by
  have hs := World.cell?_spot h
  obtain ⟨b, off, sp⟩ := a
  have : sp = none := hs
  subst this
  rfl
theorem list_of {α : Type} (z : α) (n : Nat) (p : Nat → α → Prop) (h : ∀ i, i < n → ∃ x, p i x) : ∃ L : List α, L.length = n ∧ ∀ i, i < n → p i (L.getD i z) := by
  induction n with
  | zero => exact ⟨[], rfl, fun i hi => by omega⟩
  | succ n ih =>
    obtain ⟨L, hL, hp⟩ := ih (fun i hi => h i (by omega))
    obtain ⟨x, hx⟩ := h n (by omega)
    refine ⟨L ++ [x], by simp [hL], fun i hi => ?_⟩
    rcases Nat.lt_or_eq_of_le (Nat.le_of_lt_succ hi) with h1 | h1
    · have := hp i h1
      simp only [List.getD_eq_getElem?_getD] at this ⊢
      rw [List.getElem?_append_left (by omega)]
      exact this
    · subst h1
      simp only [List.getD_eq_getElem?_getD]
      rw [List.getElem?_append_right (by omega), hL, Nat.sub_self]
      exact hx
section
variable {H : Type} {enc : TypeId × Value → H} {w : World} {base : Nat} {spare : Nat → Bool} {held : Bool} {fuel : Nat} {cs : List Value} {x : DataW H × List MemPlace}
set_option maxRecDepth 100000 in
/-- A table among the arguments. -/
theorem open_table (h : DataW.trod enc Tryz.prog w base spare held fuel 22 cs = some x) :
    ∃ (A : Option Addr) (n c : Nat) (L : List Sg), cs = [.slice A n c] ∧ n ≤ c ∧ L.length = n ∧ (n ≤ 1000000000 → RdS w A L) := by
  rcases Deep.open_slice Tryz.underlying22 h with ⟨rfl, _⟩ | ⟨a, len, cap, m, n, D, Pl, rfl, hb, hl, hm, hmm, _, hx⟩
  · exact ⟨none, 0, 0, [], rfl, Nat.le_refl _, rfl, fun _ => ⟨by simp, fun h => by simp at h⟩⟩
  · have hlm : len ≤ m := by rw [hmm]; split <;> omega
    have c30 : Tryz.prog.cellsOf 30 = 5 := by kernel_rfl
    have c3 : Tryz.prog.cellsOf 3 = 1 := by kernel_rfl
    have each : ∀ i, i < len → ∃ s : Sg, (i = 0 → a = ⟨a.block, a.off, none⟩) ∧ SgAt w a.block (a.off + i * 5) s := by
      intro i hi
      obtain ⟨cs', h1, h2⟩ := hx i (by omega)
      rw [c30] at h1
      obtain ⟨_, hlen, hcell⟩ := World.cells?_some h1
      obtain ⟨xs, k, _, _, _, hxl, hf⟩ := DataW.trod_struct Tryz.underlying30 h2
      match cs', hlen, xs, hxl with
      | [v0, v1, v2, v3, v4], _, [y0, y1, y2, y3, y4], _ =>
        have g0 : DataW.trod enc Tryz.prog w base spare held k 3 ((List.drop 0 [v0, v1, v2, v3, v4]).take (Tryz.prog.cellsOf 3)) = some y0 := hf 0 _ rfl
        have g1 : DataW.trod enc Tryz.prog w base spare held k 3 ((List.drop 1 [v0, v1, v2, v3, v4]).take (Tryz.prog.cellsOf 3)) = some y1 := hf 1 _ rfl
        have g2 : DataW.trod enc Tryz.prog w base spare held k 3 ((List.drop 2 [v0, v1, v2, v3, v4]).take (Tryz.prog.cellsOf 3)) = some y2 := hf 2 _ rfl
        have g3 : DataW.trod enc Tryz.prog w base spare held k 3 ((List.drop 3 [v0, v1, v2, v3, v4]).take (Tryz.prog.cellsOf 3)) = some y3 := hf 3 _ rfl
        have g4 : DataW.trod enc Tryz.prog w base spare held k 3 ((List.drop 4 [v0, v1, v2, v3, v4]).take (Tryz.prog.cellsOf 3)) = some y4 := hf 4 _ rfl
        rw [c3] at g0 g1 g2 g3 g4
        obtain ⟨n0, e0, _, _⟩ := DataW.trod_int Tryz.underlying3 g0
        obtain ⟨n1, e1, _, _⟩ := DataW.trod_int Tryz.underlying3 g1
        obtain ⟨n2, e2, _, _⟩ := DataW.trod_int Tryz.underlying3 g2
        obtain ⟨n3, e3, _, _⟩ := DataW.trod_int Tryz.underlying3 g3
        obtain ⟨n4, e4, _, _⟩ := DataW.trod_int Tryz.underlying3 g4
        simp at e0 e1 e2 e3 e4
        subst e0 e1 e2 e3 e4
        have k0 := hcell 0 (by omega)
        have k1 := hcell 1 (by omega)
        have k2 := hcell 2 (by omega)
        have k3 := hcell 3 (by omega)
        have k4 := hcell 4 (by omega)
        have ha : i = 0 → a = ⟨a.block, a.off, none⟩ := fun h0 => by subst h0; exact spot_at k0
        have k0 := cell_at k0
        have k1 := cell_at k1
        have k2 := cell_at k2
        have k3 := cell_at k3
        have k4 := cell_at k4
        exact ⟨⟨n0, n1, n2, n3, n4⟩, ha, ⟨⟨k0, k1⟩, k2, k3⟩, k4⟩
    obtain ⟨L, hL, hp⟩ := list_of Sg.z len _ each
    refine ⟨some a, len, cap, L, rfl, hl, hL, fun h9 => ⟨by rw [hL]; exact h9, fun h0 => ?_⟩⟩
    rw [hL] at h0 ⊢
    obtain ⟨ha, hc⟩ := hp 0 h0
    exact ⟨a.block, a.off, congrArg some (ha rfl), World.block_lt_of_cell? w ⟨a.block, a.off + 0 * 5, none⟩ hc.1.1.1, fun j hj => (hp j hj).2⟩
set_option maxRecDepth 100000 in
/-- A curve among the arguments. -/
theorem open_curve (h : DataW.trod enc Tryz.prog w base spare held fuel 34 cs = some x) :
    ∃ (A : Option Addr) (n c : Nat) (L : List Bd), cs = [.slice A n c] ∧ n ≤ c ∧ L.length = n ∧ (n ≤ 1000000000 → RdB w A L) := by
  rcases Deep.open_slice Tryz.underlying34 h with ⟨rfl, _⟩ | ⟨a, len, cap, m, n, D, Pl, rfl, hb, hl, hm, hmm, _, hx⟩
  · exact ⟨none, 0, 0, [], rfl, Nat.le_refl _, rfl, fun _ => ⟨by simp, fun h => by simp at h⟩⟩
  · have hlm : len ≤ m := by rw [hmm]; split <;> omega
    have c56 : Tryz.prog.cellsOf 56 = 4 := by kernel_rfl
    have c46 : Tryz.prog.cellsOf 46 = 2 := by kernel_rfl
    have c44 : Tryz.prog.cellsOf 44 = 1 := by kernel_rfl
    have each : ∀ i, i < len → ∃ s : Bd, (i = 0 → a = ⟨a.block, a.off, none⟩) ∧ (w.cell? ⟨a.block, a.off + i * 4, none⟩ = some (.string s.cn) ∧ w.cell? ⟨a.block, a.off + i * 4 + 1, none⟩ = some (.string s.cd)) ∧ (w.cell? ⟨a.block, a.off + i * 4 + 2, none⟩ = some (.string s.hn) ∧ w.cell? ⟨a.block, a.off + i * 4 + 3, none⟩ = some (.string s.hd)) := by
      intro i hi
      obtain ⟨cs', h1, h2⟩ := hx i (by omega)
      rw [c56] at h1
      obtain ⟨_, hlen, hcell⟩ := World.cells?_some h1
      obtain ⟨xs, k, _, _, _, hxl, hf⟩ := DataW.trod_struct Tryz.underlying56 h2
      match cs', hlen, xs, hxl with
      | [v0, v1, v2, v3], _, [y0, y1], _ =>
        have g0 : DataW.trod enc Tryz.prog w base spare held k 46 ((List.drop 0 [v0, v1, v2, v3]).take (Tryz.prog.cellsOf 46)) = some y0 := hf 0 _ rfl
        have g1 : DataW.trod enc Tryz.prog w base spare held k 46 ((List.drop 2 [v0, v1, v2, v3]).take (Tryz.prog.cellsOf 46)) = some y1 := hf 1 _ rfl
        rw [c46] at g0 g1
        obtain ⟨xs0, k0', _, _, _, hxl0, hf0⟩ := DataW.trod_struct Tryz.underlying46 g0
        obtain ⟨xs1, k1', _, _, _, hxl1, hf1⟩ := DataW.trod_struct Tryz.underlying46 g1
        match xs0, hxl0, xs1, hxl1 with
        | [u0, u1], _, [u2, u3], _ =>
          have q0 : DataW.trod enc Tryz.prog w base spare held k0' 44 ((List.drop 0 [v0, v1]).take (Tryz.prog.cellsOf 44)) = some u0 := hf0 0 _ rfl
          have q1 : DataW.trod enc Tryz.prog w base spare held k0' 44 ((List.drop 1 [v0, v1]).take (Tryz.prog.cellsOf 44)) = some u1 := hf0 1 _ rfl
          have q2 : DataW.trod enc Tryz.prog w base spare held k1' 44 ((List.drop 0 [v2, v3]).take (Tryz.prog.cellsOf 44)) = some u2 := hf1 0 _ rfl
          have q3 : DataW.trod enc Tryz.prog w base spare held k1' 44 ((List.drop 1 [v2, v3]).take (Tryz.prog.cellsOf 44)) = some u3 := hf1 1 _ rfl
          rw [c44] at q0 q1 q2 q3
          obtain ⟨n0, e0, _, _⟩ := DataW.trod_string Tryz.underlying44 q0
          obtain ⟨n1, e1, _, _⟩ := DataW.trod_string Tryz.underlying44 q1
          obtain ⟨n2, e2, _, _⟩ := DataW.trod_string Tryz.underlying44 q2
          obtain ⟨n3, e3, _, _⟩ := DataW.trod_string Tryz.underlying44 q3
          simp at e0 e1 e2 e3
          subst e0 e1 e2 e3
          have k0 := hcell 0 (by omega)
          have k1 := hcell 1 (by omega)
          have k2 := hcell 2 (by omega)
          have k3 := hcell 3 (by omega)
          have ha : i = 0 → a = ⟨a.block, a.off, none⟩ := fun h0 => by subst h0; exact spot_at k0
          have k0 := cell_at k0
          have k1 := cell_at k1
          have k2 := cell_at k2
          have k3 := cell_at k3
          exact ⟨⟨n0, n1, n2, n3⟩, ha, ⟨k0, k1⟩, k2, k3⟩
    obtain ⟨L, hL, hp⟩ := list_of Bd.zero len _ each
    refine ⟨some a, len, cap, L, rfl, hl, hL, fun h9 => ⟨by rw [hL]; exact h9, fun h0 => ?_⟩⟩
    rw [hL] at h0 ⊢
    obtain ⟨ha, hc⟩ := hp 0 h0
    exact ⟨a.block, a.off, congrArg some (ha rfl), World.block_lt_of_cell? w ⟨a.block, a.off + 0 * 4, none⟩ hc.1.1, fun j hj => (hp j hj).2⟩
set_option maxRecDepth 100000 in
/-- A fraction among the arguments. -/
theorem open_part {cs : Array Value} (h : DataW.trod enc Tryz.prog w base spare held fuel 46 cs.toList = some x) : ∃ a b : ByteArray, cs = #[.string a, .string b] := by
  have c44 : Tryz.prog.cellsOf 44 = 1 := by kernel_rfl
  have c46 : Tryz.prog.cellsOf 46 = 2 := by kernel_rfl
  obtain ⟨xs, k, _, _, hlen, hxl, hf⟩ := DataW.trod_struct Tryz.underlying46 h
  rw [c46] at hlen
  obtain ⟨l⟩ := cs
  match l, hlen, xs, hxl with
  | [v0, v1], _, [u0, u1], _ =>
    have q0 : DataW.trod enc Tryz.prog w base spare held k 44 ((List.drop 0 [v0, v1]).take (Tryz.prog.cellsOf 44)) = some u0 := hf 0 _ rfl
    have q1 : DataW.trod enc Tryz.prog w base spare held k 44 ((List.drop 1 [v0, v1]).take (Tryz.prog.cellsOf 44)) = some u1 := hf 1 _ rfl
    rw [c44] at q0 q1
    obtain ⟨n0, e0, _, _⟩ := DataW.trod_string Tryz.underlying44 q0
    obtain ⟨n1, e1, _, _⟩ := DataW.trod_string Tryz.underlying44 q1
    simp at e0 e1
    subst e0 e1
    exact ⟨n0, n1, rfl⟩
set_option maxRecDepth 100000 in
/-- Two bytes among the arguments. -/
theorem open_bytes2 {cs : Array Value} (h : DataW.trod enc Tryz.prog w base spare held fuel 58 cs.toList = some x) : ∃ a b : Nat, a < 256 ∧ b < 256 ∧ cs = #[.int .u8 (a : Int), .int .u8 (b : Int)] := by
  have c5 : Tryz.prog.cellsOf 5 = 1 := by kernel_rfl
  have c58 : Tryz.prog.cellsOf 58 = 2 := by kernel_rfl
  obtain ⟨xs, k, _, _, hlen, hxl, hf⟩ := DataW.trod_array Tryz.underlying58 h
  rw [c58] at hlen
  obtain ⟨l⟩ := cs
  match l, hlen, xs, hxl with
  | [v0, v1], _, [u0, u1], _ =>
    have q0 : DataW.trod enc Tryz.prog w base spare held k 5 ((List.drop (0 * Tryz.prog.cellsOf 5) [v0, v1]).take (Tryz.prog.cellsOf 5)) = some u0 := hf 0 (by decide)
    have q1 : DataW.trod enc Tryz.prog w base spare held k 5 ((List.drop (1 * Tryz.prog.cellsOf 5) [v0, v1]).take (Tryz.prog.cellsOf 5)) = some u1 := hf 1 (by decide)
    rw [c5] at q0 q1
    obtain ⟨n0, e0, _, w0⟩ := DataW.trod_int Tryz.underlying5 q0
    obtain ⟨n1, e1, _, w1⟩ := DataW.trod_int Tryz.underlying5 q1
    simp at e0 e1
    subst e0 e1
    have b0 : 0 ≤ n0 ∧ n0 < 256 := by simp [Lit.wf, IntKind.min, IntKind.max, IntKind.bits, IntKind.signed] at w0; omega
    have b1 : 0 ≤ n1 ∧ n1 < 256 := by simp [Lit.wf, IntKind.min, IntKind.max, IntKind.bits, IntKind.signed] at w1; omega
    exact ⟨n0.toNat, n1.toNat, by omega, by omega, by rw [Int.toNat_of_nonneg b0.1, Int.toNat_of_nonneg b1.1]⟩
end
end Go.Proofs.Cr
namespace Go.Proofs.YtolofiiolinnoaaGreatDoor
open Go.ChangeShapes Go.WideShapes Go.ChangeAt Go.RowKit Go.Proofs.Cr

theorem own : ownKnob Tryz.prog.godebug = none := by kernel_rfl
set_option maxRecDepth 100000 in
theorem laid_str {W : World} {g : Nat} {name : String} {a b : List UInt8} {rest : List (String × DataW Unit)} (hg : Tryz.prog.globalNamed name = some g) (ht : (Tryz.prog.globals[g]?).map (·.type) = some 46)
    (h : laidMet Tryz.prog ((name, .agg [.lit (.string a), .lit (.string b)]) :: rest) W) : W.cell? ⟨g, 0, none⟩ = some (.string ⟨a.toArray⟩) ∧ W.cell? ⟨g, 1, none⟩ = some (.string ⟨b.toArray⟩) := by
  obtain ⟨ps, ⟨g', t, cs, fuel, p, q, hg', ht', hv, hd, _, _⟩, _, _⟩ := h
  obtain rfl := Option.some.inj (hg.symm.trans hg')
  obtain rfl := Option.some.inj (ht.symm.trans ht')
  have c44 : Tryz.prog.cellsOf 44 = 1 := by kernel_rfl
  have c46 : Tryz.prog.cellsOf 46 = 2 := by kernel_rfl
  obtain ⟨xs, k, _, hx, hlen, hxl, hf⟩ := DataW.trod_struct Tryz.underlying46 hd
  rw [c46] at hlen
  have r0 := World.var?_cell hg hv 0
  have r1 := World.var?_cell hg hv 1
  obtain ⟨l⟩ := cs
  match l, hlen, xs, hxl with
  | [v0, v1], _, [u0, u1], _ =>
    have q0 : DataW.trod (fun _ => ()) Tryz.prog W 0 (fun _ => true) false k 44 ((List.drop 0 [v0, v1]).take (Tryz.prog.cellsOf 44)) = some u0 := hf 0 _ rfl
    have q1 : DataW.trod (fun _ => ()) Tryz.prog W 0 (fun _ => true) false k 44 ((List.drop 1 [v0, v1]).take (Tryz.prog.cellsOf 44)) = some u1 := hf 1 _ rfl
    rw [c44] at q0 q1
    obtain ⟨n0, e0, f0, _⟩ := DataW.trod_string Tryz.underlying44 q0
    obtain ⟨n1, e1, f1, _⟩ := DataW.trod_string Tryz.underlying44 q1
    simp at e0 e1
    subst e0 e1 f0 f1
    simp only [List.map_cons, List.map_nil, Prod.mk.injEq, DataW.agg.injEq, List.cons.injEq, DataW.lit.injEq, Lit.string.injEq, and_true] at hx
    obtain ⟨⟨h1, h2⟩, _⟩ := hx
    rw [r0, r1, h1, h2]
    exact ⟨rfl, rfl⟩
set_option maxRecDepth 100000 in
/-- What the listed variables give. -/
theorem of_laid {W : World} (h : laidMetH Tryz.prog Rows.detectWorseRow.laid W) : TabW W ∧ ZO W := by
  rw [MakeChecks.laidMetH_plain _ _ _ (by kernel_rfl)] at h
  have h3 := h.tail.tail
  have h7 := h3.tail.tail.tail.tail
  have h8 := h7.tail
  refine ⟨?_, ?_⟩
  · exact Lib.tabIs_of_head tab_global (by kernel_rfl) Tryz.underlying206 Tryz.underlying98 (by kernel_rfl) (by kernel_rfl) h3
  · exact ⟨laid_str (by kernel_rfl) (by kernel_rfl) h7, laid_str (by kernel_rfl) (by kernel_rfl) h8⟩
/-- Arguments read behind a call that turns nothing old as they read before. -/
theorem args_stay {P : Program} (hl : laidOutB P = true) {H : Type} {enc : TypeId × Value → H} {W W' : World} (hb : Below W.heap.size W W') (ts : List TypeId) : ∀ {vs : List Value} {ds : List (DataW H)} {ps : List MemPlace}, (ts.all fun t => P.readableRec t && decide (t < P.types.size)) = true →
    DataW.TrodAll enc P W 0 (fun _ => true) true ts vs ds ps → (∀ x ∈ ps, x.block < W.heap.size) → DataW.TrodAll enc P W' 0 (fun b => decide (b < W.heap.size)) true ts vs ds ps := by
  induction ts with
  | nil =>
    intro vs ds ps _ h _
    obtain ⟨rfl, rfl, rfl⟩ := trodAll_nil h
    exact trodAll_mk0
  | cons t ts ih =>
    intro vs ds ps ht h hlt
    obtain ⟨v, vs', d, ds', p, q, rfl, rfl, rfl, h1, h2⟩ := trodAll_cons h
    rw [List.all_cons, Bool.and_eq_true, Bool.and_eq_true, decide_eq_true_eq] at ht
    exact trodAll_cons_mk (Below.trod hl ht.1.1 ht.1.2 h1 hb (fun x hx => hlt x (List.mem_append_left _ hx))) (ih ht.2 h2 (fun x hx => hlt x (List.mem_append_right _ hx)))
set_option maxRecDepth 100000 in
/-- What a law's post asks, of a call that answers true and turns nothing old. -/
theorem law_post {H : Type} {enc : TypeId × Value → H} {f : Func} {s : ChangeSpec} {W W' : World} {args : Array Value} {ds gs : List (DataW H)} {before : List MemPlace}
    (hW : DataW.Whole enc Tryz.prog f.params.toList s.vars false W args.toList ds gs before) (hv : s.vars = []) (hf : f.resultTypes = #[4]) (hs : s.fn H (ds ++ gs) = { results := [.lit (.bool true)], args := ds })
    (hp : (f.params.toList.all fun t => Tryz.prog.readableRec t && decide (t < Tryz.prog.types.size)) = true) (hb : Below W.heap.size W W') : s.post enc Tryz.prog f false true false false W args (.bool true) W' := by
  have hW' := hW
  obtain ⟨p, q, hA0, hV, rfl, hfz, hnd⟩ := hW
  rw [hv] at hV
  obtain ⟨rfl, rfl⟩ := trodVars_none hV
  refine ⟨ds, [], p ++ [], [], p, [], hW', ?_, ?_, ?_, hb.frame _, fun h => by cases h⟩
  · rw [hs, hf]
    exact trodAll_mk1 (shut_bool Tryz.underlying4 _)
  · rw [hs]
    exact args_stay laidOut73 hb _ hp hA0 (fun x hx => by simpa using hW'.lt x (List.mem_append_left _ hx))
  · rw [hs, hv]
    rfl
end Go.Proofs.YtolofiiolinnoaaGreatDoor
