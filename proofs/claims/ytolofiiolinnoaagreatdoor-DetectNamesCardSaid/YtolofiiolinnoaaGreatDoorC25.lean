/- Contracts of functions that the laws reach, and plain lemmas. Part 25. -/
import Derived.Test.YtolofiiolinnoaaGreatDoorC24
set_option linter.all false
namespace Go.Proofs.Cr
open Go.RowKit Go.Shelf
attribute [local go_sem] Oper.semAt_some

set_option maxRecDepth 100000 in
set_option maxHeartbeats 8000000 in
/-- The law DetectNames. -/
theorem Names_walk (w : World) (hT : TabW w) (hZ : ZO w) : Calls Tryz.prog 13 #[] w fun e w' => e = .returned (.bool true) ∧ Below w.heap.size w w' := by
  have HTZ := Lib.hid (And.intro hT hZ)
  have HB := Lib.hid (Below.refl w.heap.size w)
  clear hT hZ
  go_enter Tryz.func13, Tryz.ntmps13
  have hN := Blk.new w #[.int .i64 1, .int .i64 2, .int .i64 0, .int .i64 3, .int .i64 800] 30
  have hA := below_alloc w (.cells #[.int .i64 1, .int .i64 2, .int .i64 0, .int .i64 3, .int .i64 800] 30)
  have HB := Lib.hid (HB.out.alloc HB.out.size (.cells #[.int .i64 1, .int .i64 2, .int .i64 0, .int .i64 3, .int .i64 800] 30))
  have HOR := Lib.hid (oneL_reads hN)
  clear hN hA
  have TT := Lib.hid (oneL_lit (some ⟨w.heap.size, 0, none⟩) 1 _ HOR.out)
  go_wp2_with fail
  refine TT.out.mono ?_
  rintro e v1 ⟨rfl, hb⟩
  have HB := Lib.hid (HB.out.trans (hb.mono HB.out.size))
  clear hb TT
  have TT := Lib.hid (cover_lit v1 (HTZ.out.1.below HB.out (Nat.le_refl _)))
  go_wp2_with fail
  refine TT.out.mono ?_
  rintro e v2 ⟨rfl, hb⟩
  have HB := Lib.hid (HB.out.trans (hb.mono HB.out.size))
  clear hb TT
  have hN := Blk.new v2 #[.string ⟨#[49]⟩, .string ⟨#[50]⟩] 46
  have hA := below_alloc v2 (.cells #[.string ⟨#[49]⟩, .string ⟨#[50]⟩] 46)
  have HB := Lib.hid (HB.out.alloc HB.out.size (.cells #[.string ⟨#[49]⟩, .string ⟨#[50]⟩] 46))
  have HP3 := Lib.hid hN
  clear hN hA
  have TT := Lib.hid (Halving_any 2 (v2.alloc (.cells #[.string ⟨#[49]⟩, .string ⟨#[50]⟩] 46)) (HTZ.out.1.below HB.out (Nat.le_refl _)) (HTZ.out.2.below HB.out (Nat.le_refl _)))
  go_wp2_with fail
  refine TT.out.mono ?_
  rintro e v3 ⟨⟨_, h⟩ | ⟨m, A, c, hm, _, _, rfl, hc, hr⟩, hb⟩
  · exact absurd (by decide) h
  have hm2 : m = 2 := by omega
  subst hm2
  have HR0 := Lib.hid hr
  have HC := Lib.hid hc
  clear hr hc hm
  have HB := Lib.hid (HB.out.trans (hb.mono HB.out.size))
  have HP3 := Lib.hid (HP3.out.pass hb)
  clear hb TT
  have HR := HR0
  have TT := Lib.hid (of_lit 1 2 (by decide) (by decide) (by decide) ⟨#[49]⟩ ⟨#[50]⟩ (by kernel_rfl) (by kernel_rfl) v3 (HTZ.out.1.below HB.out (Nat.le_refl _)))
  go_wp2_with fail
  refine TT.out.mono ?_
  rintro e v4 ⟨rfl, hb⟩
  have HB := Lib.hid (HB.out.trans (hb.mono HB.out.size))
  have HR := Lib.hid (HR.out.below hb (Nat.le_refl _))
  have HP3 := Lib.hid (HP3.out.pass hb)
  clear hb TT
  have TT := Lib.hid (chance_lit A c v4 ⟨#[49]⟩ ⟨#[50]⟩ ⟨#[49]⟩ ⟨#[52]⟩ _ _ ask12 ch12 q14.1 q14.2 HR.out HC.out (HTZ.out.1.below HB.out (Nat.le_refl _)) (HTZ.out.2.below HB.out (Nat.le_refl _)))
  go_wp2_with fail
  refine TT.out.mono ?_
  rintro e v5 ⟨rfl, hb⟩
  have HB := Lib.hid (HB.out.trans (hb.mono HB.out.size))
  have HR := Lib.hid (HR.out.below hb (Nat.le_refl _))
  have HP3 := Lib.hid (HP3.out.pass hb)
  clear hb TT
  have hN := Blk.new v5 #[.string ⟨#[49]⟩, .string ⟨#[52]⟩] 46
  have hA := below_alloc v5 (.cells #[.string ⟨#[49]⟩, .string ⟨#[52]⟩] 46)
  have HB := Lib.hid (HB.out.alloc HB.out.size (.cells #[.string ⟨#[49]⟩, .string ⟨#[52]⟩] 46))
  have HR := Lib.hid (HR.out.below hA (Nat.le_refl _))
  have HP3 := Lib.hid (HP3.out.alloc (.cells #[.string ⟨#[49]⟩, .string ⟨#[52]⟩] 46))
  have HP7 := Lib.hid hN
  clear hN hA
  have TT := Lib.hid (of_lit 7 1 (by decide) (by decide) (by decide) ⟨#[55]⟩ ⟨#[49]⟩ (by kernel_rfl) (by kernel_rfl) (v5.alloc (.cells #[.string ⟨#[49]⟩, .string ⟨#[52]⟩] 46)) (HTZ.out.1.below HB.out (Nat.le_refl _)))
  go_wp2_with fail
  refine TT.out.mono ?_
  rintro e v6 ⟨rfl, hb⟩
  have HB := Lib.hid (HB.out.trans (hb.mono HB.out.size))
  have HR := Lib.hid (HR.out.below hb (Nat.le_refl _))
  have HP3 := Lib.hid (HP3.out.pass hb)
  have HP7 := Lib.hid (HP7.out.pass hb)
  clear hb TT
  have TT := Lib.hid (chance_lit A c v6 ⟨#[55]⟩ ⟨#[49]⟩ ⟨#[51]⟩ ⟨#[52]⟩ _ _ ask71 ch71 q34.1 q34.2 HR.out HC.out (HTZ.out.1.below HB.out (Nat.le_refl _)) (HTZ.out.2.below HB.out (Nat.le_refl _)))
  go_wp2_with fail
  refine TT.out.mono ?_
  rintro e v7 ⟨rfl, hb⟩
  have HB := Lib.hid (HB.out.trans (hb.mono HB.out.size))
  have HR := Lib.hid (HR.out.below hb (Nat.le_refl _))
  have HP3 := Lib.hid (HP3.out.pass hb)
  have HP7 := Lib.hid (HP7.out.pass hb)
  clear hb TT
  have hN := Blk.new v7 #[.string ⟨#[51]⟩, .string ⟨#[52]⟩] 46
  have hA := below_alloc v7 (.cells #[.string ⟨#[51]⟩, .string ⟨#[52]⟩] 46)
  have HB := Lib.hid (HB.out.alloc HB.out.size (.cells #[.string ⟨#[51]⟩, .string ⟨#[52]⟩] 46))
  have HR := Lib.hid (HR.out.below hA (Nat.le_refl _))
  have HP3 := Lib.hid (HP3.out.alloc (.cells #[.string ⟨#[51]⟩, .string ⟨#[52]⟩] 46))
  have HP7 := Lib.hid (HP7.out.alloc (.cells #[.string ⟨#[51]⟩, .string ⟨#[52]⟩] 46))
  have HP9 := Lib.hid hN
  clear hN hA
  have TT := Lib.hid (of_lit 1 2 (by decide) (by decide) (by decide) ⟨#[49]⟩ ⟨#[50]⟩ (by kernel_rfl) (by kernel_rfl) (v7.alloc (.cells #[.string ⟨#[51]⟩, .string ⟨#[52]⟩] 46)) (HTZ.out.1.below HB.out (Nat.le_refl _)))
  go_wp2_with fail
  refine TT.out.mono ?_
  rintro e v8 ⟨rfl, hb⟩
  have HB := Lib.hid (HB.out.trans (hb.mono HB.out.size))
  have HR := Lib.hid (HR.out.below hb (Nat.le_refl _))
  have HP3 := Lib.hid (HP3.out.pass hb)
  have HP7 := Lib.hid (HP7.out.pass hb)
  have HP9 := Lib.hid (HP9.out.pass hb)
  clear hb TT
  have TT := Lib.hid (slope_lit A c v8 ⟨#[49]⟩ ⟨#[50]⟩ ⟨#[49]⟩ ⟨#[50]⟩ _ _ ask12 sl12 q12.1 q12.2 HR.out HC.out (HTZ.out.1.below HB.out (Nat.le_refl _)) (HTZ.out.2.below HB.out (Nat.le_refl _)))
  go_wp2_with fail
  refine TT.out.mono ?_
  rintro e v9 ⟨rfl, hb⟩
  have HB := Lib.hid (HB.out.trans (hb.mono HB.out.size))
  have HR := Lib.hid (HR.out.below hb (Nat.le_refl _))
  have HP3 := Lib.hid (HP3.out.pass hb)
  have HP7 := Lib.hid (HP7.out.pass hb)
  have HP9 := Lib.hid (HP9.out.pass hb)
  clear hb TT
  have hN := Blk.new v9 #[.string ⟨#[49]⟩, .string ⟨#[50]⟩] 46
  have hA := below_alloc v9 (.cells #[.string ⟨#[49]⟩, .string ⟨#[50]⟩] 46)
  have HB := Lib.hid (HB.out.alloc HB.out.size (.cells #[.string ⟨#[49]⟩, .string ⟨#[50]⟩] 46))
  have HR := Lib.hid (HR.out.below hA (Nat.le_refl _))
  have HP3 := Lib.hid (HP3.out.alloc (.cells #[.string ⟨#[49]⟩, .string ⟨#[50]⟩] 46))
  have HP7 := Lib.hid (HP7.out.alloc (.cells #[.string ⟨#[49]⟩, .string ⟨#[50]⟩] 46))
  have HP9 := Lib.hid (HP9.out.alloc (.cells #[.string ⟨#[49]⟩, .string ⟨#[50]⟩] 46))
  have HP11 := Lib.hid hN
  clear hN hA
  have TT := Lib.hid (of_lit 1 1 (by decide) (by decide) (by decide) ⟨#[49]⟩ ⟨#[49]⟩ (by kernel_rfl) (by kernel_rfl) (v9.alloc (.cells #[.string ⟨#[49]⟩, .string ⟨#[50]⟩] 46)) (HTZ.out.1.below HB.out (Nat.le_refl _)))
  go_wp2_with fail
  refine TT.out.mono ?_
  rintro e v10 ⟨rfl, hb⟩
  have HB := Lib.hid (HB.out.trans (hb.mono HB.out.size))
  have HR := Lib.hid (HR.out.below hb (Nat.le_refl _))
  have HP3 := Lib.hid (HP3.out.pass hb)
  have HP7 := Lib.hid (HP7.out.pass hb)
  have HP9 := Lib.hid (HP9.out.pass hb)
  have HP11 := Lib.hid (HP11.out.pass hb)
  clear hb TT
  have TT := Lib.hid (slope_lit A c v10 ⟨#[49]⟩ ⟨#[49]⟩ ⟨#[49]⟩ ⟨#[52]⟩ _ _ ask11 sl11 q14.1 q14.2 HR.out HC.out (HTZ.out.1.below HB.out (Nat.le_refl _)) (HTZ.out.2.below HB.out (Nat.le_refl _)))
  go_wp2_with fail
  refine TT.out.mono ?_
  rintro e v11 ⟨rfl, hb⟩
  have HB := Lib.hid (HB.out.trans (hb.mono HB.out.size))
  have HR := Lib.hid (HR.out.below hb (Nat.le_refl _))
  have HP3 := Lib.hid (HP3.out.pass hb)
  have HP7 := Lib.hid (HP7.out.pass hb)
  have HP9 := Lib.hid (HP9.out.pass hb)
  have HP11 := Lib.hid (HP11.out.pass hb)
  clear hb TT
  have hN := Blk.new v11 #[.string ⟨#[49]⟩, .string ⟨#[52]⟩] 46
  have hA := below_alloc v11 (.cells #[.string ⟨#[49]⟩, .string ⟨#[52]⟩] 46)
  have HB := Lib.hid (HB.out.alloc HB.out.size (.cells #[.string ⟨#[49]⟩, .string ⟨#[52]⟩] 46))
  have HR := Lib.hid (HR.out.below hA (Nat.le_refl _))
  have HP3 := Lib.hid (HP3.out.alloc (.cells #[.string ⟨#[49]⟩, .string ⟨#[52]⟩] 46))
  have HP7 := Lib.hid (HP7.out.alloc (.cells #[.string ⟨#[49]⟩, .string ⟨#[52]⟩] 46))
  have HP9 := Lib.hid (HP9.out.alloc (.cells #[.string ⟨#[49]⟩, .string ⟨#[52]⟩] 46))
  have HP11 := Lib.hid (HP11.out.alloc (.cells #[.string ⟨#[49]⟩, .string ⟨#[52]⟩] 46))
  have HP13 := Lib.hid hN
  clear hN hA
  have TT := Lib.hid (of_lit 2 1 (by decide) (by decide) (by decide) ⟨#[50]⟩ ⟨#[49]⟩ (by kernel_rfl) (by kernel_rfl) (v11.alloc (.cells #[.string ⟨#[49]⟩, .string ⟨#[52]⟩] 46)) (HTZ.out.1.below HB.out (Nat.le_refl _)))
  go_wp2_with fail
  refine TT.out.mono ?_
  rintro e v12 ⟨rfl, hb⟩
  have HB := Lib.hid (HB.out.trans (hb.mono HB.out.size))
  have HR := Lib.hid (HR.out.below hb (Nat.le_refl _))
  have HP3 := Lib.hid (HP3.out.pass hb)
  have HP7 := Lib.hid (HP7.out.pass hb)
  have HP9 := Lib.hid (HP9.out.pass hb)
  have HP11 := Lib.hid (HP11.out.pass hb)
  have HP13 := Lib.hid (HP13.out.pass hb)
  clear hb TT
  have TT := Lib.hid (slope_lit A c v12 ⟨#[50]⟩ ⟨#[49]⟩ ⟨#[48]⟩ ⟨#[49]⟩ _ _ ask21 sl21 q01.1 q01.2 HR.out HC.out (HTZ.out.1.below HB.out (Nat.le_refl _)) (HTZ.out.2.below HB.out (Nat.le_refl _)))
  go_wp2_with fail
  refine TT.out.mono ?_
  rintro e v13 ⟨rfl, hb⟩
  have HB := Lib.hid (HB.out.trans (hb.mono HB.out.size))
  have HR := Lib.hid (HR.out.below hb (Nat.le_refl _))
  have HP3 := Lib.hid (HP3.out.pass hb)
  have HP7 := Lib.hid (HP7.out.pass hb)
  have HP9 := Lib.hid (HP9.out.pass hb)
  have HP11 := Lib.hid (HP11.out.pass hb)
  have HP13 := Lib.hid (HP13.out.pass hb)
  clear hb TT
  have hN := Blk.new v13 #[.string ⟨#[48]⟩, .string ⟨#[49]⟩] 46
  have hA := below_alloc v13 (.cells #[.string ⟨#[48]⟩, .string ⟨#[49]⟩] 46)
  have HB := Lib.hid (HB.out.alloc HB.out.size (.cells #[.string ⟨#[48]⟩, .string ⟨#[49]⟩] 46))
  have HR := Lib.hid (HR.out.below hA (Nat.le_refl _))
  have HP3 := Lib.hid (HP3.out.alloc (.cells #[.string ⟨#[48]⟩, .string ⟨#[49]⟩] 46))
  have HP7 := Lib.hid (HP7.out.alloc (.cells #[.string ⟨#[48]⟩, .string ⟨#[49]⟩] 46))
  have HP9 := Lib.hid (HP9.out.alloc (.cells #[.string ⟨#[48]⟩, .string ⟨#[49]⟩] 46))
  have HP11 := Lib.hid (HP11.out.alloc (.cells #[.string ⟨#[48]⟩, .string ⟨#[49]⟩] 46))
  have HP13 := Lib.hid (HP13.out.alloc (.cells #[.string ⟨#[48]⟩, .string ⟨#[49]⟩] 46))
  have HP15 := Lib.hid hN
  clear hN hA
  have TT := Lib.hid (of_lit 4 5 (by decide) (by decide) (by decide) ⟨#[52]⟩ ⟨#[53]⟩ (by kernel_rfl) (by kernel_rfl) (v13.alloc (.cells #[.string ⟨#[48]⟩, .string ⟨#[49]⟩] 46)) (HTZ.out.1.below HB.out (Nat.le_refl _)))
  go_wp2_with fail
  refine TT.out.mono ?_
  rintro e v14 ⟨rfl, hb⟩
  have HB := Lib.hid (HB.out.trans (hb.mono HB.out.size))
  have HR := Lib.hid (HR.out.below hb (Nat.le_refl _))
  have HP3 := Lib.hid (HP3.out.pass hb)
  have HP7 := Lib.hid (HP7.out.pass hb)
  have HP9 := Lib.hid (HP9.out.pass hb)
  have HP11 := Lib.hid (HP11.out.pass hb)
  have HP13 := Lib.hid (HP13.out.pass hb)
  have HP15 := Lib.hid (HP15.out.pass hb)
  clear hb TT
  have TT := Lib.hid (need_lit A c v14 ⟨#[52]⟩ ⟨#[53]⟩ _ ask45 (by decide +kernel) HR.out HC.out (HTZ.out.1.below HB.out (Nat.le_refl _)) (HTZ.out.2.below HB.out (Nat.le_refl _)))
  go_wp2_with fail
  refine TT.out.mono ?_
  rintro e v15 ⟨rfl, hb⟩
  have HB := Lib.hid (HB.out.trans (hb.mono HB.out.size))
  have HR := Lib.hid (HR.out.below hb (Nat.le_refl _))
  have HP3 := Lib.hid (HP3.out.pass hb)
  have HP7 := Lib.hid (HP7.out.pass hb)
  have HP9 := Lib.hid (HP9.out.pass hb)
  have HP11 := Lib.hid (HP11.out.pass hb)
  have HP13 := Lib.hid (HP13.out.pass hb)
  have HP15 := Lib.hid (HP15.out.pass hb)
  clear hb TT
  have hN := Blk.new v15 #[.string ⟨#[]⟩, .string ⟨#[]⟩] 46
  have hA := below_alloc v15 (.cells #[.string ⟨#[]⟩, .string ⟨#[]⟩] 46)
  have HB := Lib.hid (HB.out.alloc HB.out.size (.cells #[.string ⟨#[]⟩, .string ⟨#[]⟩] 46))
  have HR := Lib.hid (HR.out.below hA (Nat.le_refl _))
  have HP3 := Lib.hid (HP3.out.alloc (.cells #[.string ⟨#[]⟩, .string ⟨#[]⟩] 46))
  have HP7 := Lib.hid (HP7.out.alloc (.cells #[.string ⟨#[]⟩, .string ⟨#[]⟩] 46))
  have HP9 := Lib.hid (HP9.out.alloc (.cells #[.string ⟨#[]⟩, .string ⟨#[]⟩] 46))
  have HP11 := Lib.hid (HP11.out.alloc (.cells #[.string ⟨#[]⟩, .string ⟨#[]⟩] 46))
  have HP13 := Lib.hid (HP13.out.alloc (.cells #[.string ⟨#[]⟩, .string ⟨#[]⟩] 46))
  have HP15 := Lib.hid (HP15.out.alloc (.cells #[.string ⟨#[]⟩, .string ⟨#[]⟩] 46))
  clear hN hA
  have TT := Lib.hid (of_lit 1 1 (by decide) (by decide) (by decide) ⟨#[49]⟩ ⟨#[49]⟩ (by kernel_rfl) (by kernel_rfl) (v15.alloc (.cells #[.string ⟨#[]⟩, .string ⟨#[]⟩] 46)) (HTZ.out.1.below HB.out (Nat.le_refl _)))
  go_wp2_with fail
  refine TT.out.mono ?_
  rintro e v16 ⟨rfl, hb⟩
  have HB := Lib.hid (HB.out.trans (hb.mono HB.out.size))
  have HR := Lib.hid (HR.out.below hb (Nat.le_refl _))
  have HP3 := Lib.hid (HP3.out.pass hb)
  have HP7 := Lib.hid (HP7.out.pass hb)
  have HP9 := Lib.hid (HP9.out.pass hb)
  have HP11 := Lib.hid (HP11.out.pass hb)
  have HP13 := Lib.hid (HP13.out.pass hb)
  have HP15 := Lib.hid (HP15.out.pass hb)
  clear hb TT
  have TT := Lib.hid (of_lit 1 1 (by decide) (by decide) (by decide) ⟨#[49]⟩ ⟨#[49]⟩ (by kernel_rfl) (by kernel_rfl) v16 (HTZ.out.1.below HB.out (Nat.le_refl _)))
  go_wp2_with fail
  refine TT.out.mono ?_
  rintro e v17 ⟨rfl, hb⟩
  have HB := Lib.hid (HB.out.trans (hb.mono HB.out.size))
  have HR := Lib.hid (HR.out.below hb (Nat.le_refl _))
  have HP3 := Lib.hid (HP3.out.pass hb)
  have HP7 := Lib.hid (HP7.out.pass hb)
  have HP9 := Lib.hid (HP9.out.pass hb)
  have HP11 := Lib.hid (HP11.out.pass hb)
  have HP13 := Lib.hid (HP13.out.pass hb)
  have HP15 := Lib.hid (HP15.out.pass hb)
  clear hb TT
  have hN := Blk.new v17 #[.string ⟨#[49]⟩, .string ⟨#[49]⟩, .string ⟨#[49]⟩, .string ⟨#[49]⟩] 46
  have hA := below_alloc v17 (.cells #[.string ⟨#[49]⟩, .string ⟨#[49]⟩, .string ⟨#[49]⟩, .string ⟨#[49]⟩] 46)
  have HB := Lib.hid (HB.out.alloc HB.out.size (.cells #[.string ⟨#[49]⟩, .string ⟨#[49]⟩, .string ⟨#[49]⟩, .string ⟨#[49]⟩] 46))
  have HR := Lib.hid (HR.out.below hA (Nat.le_refl _))
  have HP3 := Lib.hid (HP3.out.alloc (.cells #[.string ⟨#[49]⟩, .string ⟨#[49]⟩, .string ⟨#[49]⟩, .string ⟨#[49]⟩] 46))
  have HP7 := Lib.hid (HP7.out.alloc (.cells #[.string ⟨#[49]⟩, .string ⟨#[49]⟩, .string ⟨#[49]⟩, .string ⟨#[49]⟩] 46))
  have HP9 := Lib.hid (HP9.out.alloc (.cells #[.string ⟨#[49]⟩, .string ⟨#[49]⟩, .string ⟨#[49]⟩, .string ⟨#[49]⟩] 46))
  have HP11 := Lib.hid (HP11.out.alloc (.cells #[.string ⟨#[49]⟩, .string ⟨#[49]⟩, .string ⟨#[49]⟩, .string ⟨#[49]⟩] 46))
  have HP13 := Lib.hid (HP13.out.alloc (.cells #[.string ⟨#[49]⟩, .string ⟨#[49]⟩, .string ⟨#[49]⟩, .string ⟨#[49]⟩] 46))
  have HP15 := Lib.hid (HP15.out.alloc (.cells #[.string ⟨#[49]⟩, .string ⟨#[49]⟩, .string ⟨#[49]⟩, .string ⟨#[49]⟩] 46))
  have HPR := Lib.hid (twoP_reads hN)
  clear hN hA
  have TT := Lib.hid (miss_lit A (some ⟨v17.heap.size, 0, none⟩) c 2 (v17.alloc (.cells #[.string ⟨#[49]⟩, .string ⟨#[49]⟩, .string ⟨#[49]⟩, .string ⟨#[49]⟩] 46)) HR.out HC.out HPR.out (HTZ.out.1.below HB.out (Nat.le_refl _)) (HTZ.out.2.below HB.out (Nat.le_refl _)))
  go_wp2_with fail
  refine TT.out.mono ?_
  rintro e v18 ⟨rfl, hb⟩
  have HB := Lib.hid (HB.out.trans (hb.mono HB.out.size))
  have HR := Lib.hid (HR.out.below hb (Nat.le_refl _))
  have HP3 := Lib.hid (HP3.out.pass hb)
  have HP7 := Lib.hid (HP7.out.pass hb)
  have HP9 := Lib.hid (HP9.out.pass hb)
  have HP11 := Lib.hid (HP11.out.pass hb)
  have HP13 := Lib.hid (HP13.out.pass hb)
  have HP15 := Lib.hid (HP15.out.pass hb)
  clear hb TT
  have hN := Blk.new v18 #[.string ⟨#[49]⟩, .string ⟨#[52]⟩] 46
  have hA := below_alloc v18 (.cells #[.string ⟨#[49]⟩, .string ⟨#[52]⟩] 46)
  have HB := Lib.hid (HB.out.alloc HB.out.size (.cells #[.string ⟨#[49]⟩, .string ⟨#[52]⟩] 46))
  have HR := Lib.hid (HR.out.below hA (Nat.le_refl _))
  have HP3 := Lib.hid (HP3.out.alloc (.cells #[.string ⟨#[49]⟩, .string ⟨#[52]⟩] 46))
  have HP7 := Lib.hid (HP7.out.alloc (.cells #[.string ⟨#[49]⟩, .string ⟨#[52]⟩] 46))
  have HP9 := Lib.hid (HP9.out.alloc (.cells #[.string ⟨#[49]⟩, .string ⟨#[52]⟩] 46))
  have HP11 := Lib.hid (HP11.out.alloc (.cells #[.string ⟨#[49]⟩, .string ⟨#[52]⟩] 46))
  have HP13 := Lib.hid (HP13.out.alloc (.cells #[.string ⟨#[49]⟩, .string ⟨#[52]⟩] 46))
  have HP15 := Lib.hid (HP15.out.alloc (.cells #[.string ⟨#[49]⟩, .string ⟨#[52]⟩] 46))
  have HP19 := Lib.hid hN
  clear hN hA
  have TT := Lib.hid (of_lit 0 1 (by decide) (by decide) (by decide) ⟨#[48]⟩ ⟨#[49]⟩ (by kernel_rfl) (by kernel_rfl) (v18.alloc (.cells #[.string ⟨#[49]⟩, .string ⟨#[52]⟩] 46)) (HTZ.out.1.below HB.out (Nat.le_refl _)))
  go_wp2_with fail
  refine TT.out.mono ?_
  rintro e v19 ⟨rfl, hb⟩
  have HB := Lib.hid (HB.out.trans (hb.mono HB.out.size))
  have HR := Lib.hid (HR.out.below hb (Nat.le_refl _))
  have HP3 := Lib.hid (HP3.out.pass hb)
  have HP7 := Lib.hid (HP7.out.pass hb)
  have HP9 := Lib.hid (HP9.out.pass hb)
  have HP11 := Lib.hid (HP11.out.pass hb)
  have HP13 := Lib.hid (HP13.out.pass hb)
  have HP15 := Lib.hid (HP15.out.pass hb)
  have HP19 := Lib.hid (HP19.out.pass hb)
  clear hb TT
  have TT := Lib.hid (of_lit 0 1 (by decide) (by decide) (by decide) ⟨#[48]⟩ ⟨#[49]⟩ (by kernel_rfl) (by kernel_rfl) v19 (HTZ.out.1.below HB.out (Nat.le_refl _)))
  go_wp2_with fail
  refine TT.out.mono ?_
  rintro e v20 ⟨rfl, hb⟩
  have HB := Lib.hid (HB.out.trans (hb.mono HB.out.size))
  have HR := Lib.hid (HR.out.below hb (Nat.le_refl _))
  have HP3 := Lib.hid (HP3.out.pass hb)
  have HP7 := Lib.hid (HP7.out.pass hb)
  have HP9 := Lib.hid (HP9.out.pass hb)
  have HP11 := Lib.hid (HP11.out.pass hb)
  have HP13 := Lib.hid (HP13.out.pass hb)
  have HP15 := Lib.hid (HP15.out.pass hb)
  have HP19 := Lib.hid (HP19.out.pass hb)
  clear hb TT
  have TT := Lib.hid (of_lit 1 1 (by decide) (by decide) (by decide) ⟨#[49]⟩ ⟨#[49]⟩ (by kernel_rfl) (by kernel_rfl) v20 (HTZ.out.1.below HB.out (Nat.le_refl _)))
  go_wp2_with fail
  refine TT.out.mono ?_
  rintro e v21 ⟨rfl, hb⟩
  have HB := Lib.hid (HB.out.trans (hb.mono HB.out.size))
  have HR := Lib.hid (HR.out.below hb (Nat.le_refl _))
  have HP3 := Lib.hid (HP3.out.pass hb)
  have HP7 := Lib.hid (HP7.out.pass hb)
  have HP9 := Lib.hid (HP9.out.pass hb)
  have HP11 := Lib.hid (HP11.out.pass hb)
  have HP13 := Lib.hid (HP13.out.pass hb)
  have HP15 := Lib.hid (HP15.out.pass hb)
  have HP19 := Lib.hid (HP19.out.pass hb)
  clear hb TT
  have TT := Lib.hid (of_lit 1 4 (by decide) (by decide) (by decide) ⟨#[49]⟩ ⟨#[52]⟩ (by kernel_rfl) (by kernel_rfl) v21 (HTZ.out.1.below HB.out (Nat.le_refl _)))
  go_wp2_with fail
  refine TT.out.mono ?_
  rintro e v22 ⟨rfl, hb⟩
  have HB := Lib.hid (HB.out.trans (hb.mono HB.out.size))
  have HR := Lib.hid (HR.out.below hb (Nat.le_refl _))
  have HP3 := Lib.hid (HP3.out.pass hb)
  have HP7 := Lib.hid (HP7.out.pass hb)
  have HP9 := Lib.hid (HP9.out.pass hb)
  have HP11 := Lib.hid (HP11.out.pass hb)
  have HP13 := Lib.hid (HP13.out.pass hb)
  have HP15 := Lib.hid (HP15.out.pass hb)
  have HP19 := Lib.hid (HP19.out.pass hb)
  clear hb TT
  have TT := Lib.hid (of_lit 2 1 (by decide) (by decide) (by decide) ⟨#[50]⟩ ⟨#[49]⟩ (by kernel_rfl) (by kernel_rfl) v22 (HTZ.out.1.below HB.out (Nat.le_refl _)))
  go_wp2_with fail
  refine TT.out.mono ?_
  rintro e v23 ⟨rfl, hb⟩
  have HB := Lib.hid (HB.out.trans (hb.mono HB.out.size))
  have HR := Lib.hid (HR.out.below hb (Nat.le_refl _))
  have HP3 := Lib.hid (HP3.out.pass hb)
  have HP7 := Lib.hid (HP7.out.pass hb)
  have HP9 := Lib.hid (HP9.out.pass hb)
  have HP11 := Lib.hid (HP11.out.pass hb)
  have HP13 := Lib.hid (HP13.out.pass hb)
  have HP15 := Lib.hid (HP15.out.pass hb)
  have HP19 := Lib.hid (HP19.out.pass hb)
  clear hb TT
  have TT := Lib.hid (of_lit 3 4 (by decide) (by decide) (by decide) ⟨#[51]⟩ ⟨#[52]⟩ (by kernel_rfl) (by kernel_rfl) v23 (HTZ.out.1.below HB.out (Nat.le_refl _)))
  go_wp2_with fail
  refine TT.out.mono ?_
  rintro e v24 ⟨rfl, hb⟩
  have HB := Lib.hid (HB.out.trans (hb.mono HB.out.size))
  have HR := Lib.hid (HR.out.below hb (Nat.le_refl _))
  have HP3 := Lib.hid (HP3.out.pass hb)
  have HP7 := Lib.hid (HP7.out.pass hb)
  have HP9 := Lib.hid (HP9.out.pass hb)
  have HP11 := Lib.hid (HP11.out.pass hb)
  have HP13 := Lib.hid (HP13.out.pass hb)
  have HP15 := Lib.hid (HP15.out.pass hb)
  have HP19 := Lib.hid (HP19.out.pass hb)
  clear hb TT
  have hN := Blk.new v24 #[.string ⟨#[48]⟩, .string ⟨#[49]⟩, .string ⟨#[48]⟩, .string ⟨#[49]⟩, .string ⟨#[49]⟩, .string ⟨#[49]⟩, .string ⟨#[49]⟩, .string ⟨#[52]⟩, .string ⟨#[50]⟩, .string ⟨#[49]⟩, .string ⟨#[51]⟩, .string ⟨#[52]⟩] 56
  have hA := below_alloc v24 (.cells #[.string ⟨#[48]⟩, .string ⟨#[49]⟩, .string ⟨#[48]⟩, .string ⟨#[49]⟩, .string ⟨#[49]⟩, .string ⟨#[49]⟩, .string ⟨#[49]⟩, .string ⟨#[52]⟩, .string ⟨#[50]⟩, .string ⟨#[49]⟩, .string ⟨#[51]⟩, .string ⟨#[52]⟩] 56)
  have HB := Lib.hid (HB.out.alloc HB.out.size (.cells #[.string ⟨#[48]⟩, .string ⟨#[49]⟩, .string ⟨#[48]⟩, .string ⟨#[49]⟩, .string ⟨#[49]⟩, .string ⟨#[49]⟩, .string ⟨#[49]⟩, .string ⟨#[52]⟩, .string ⟨#[50]⟩, .string ⟨#[49]⟩, .string ⟨#[51]⟩, .string ⟨#[52]⟩] 56))
  have HR := Lib.hid (HR.out.below hA (Nat.le_refl _))
  have HP3 := Lib.hid (HP3.out.alloc (.cells #[.string ⟨#[48]⟩, .string ⟨#[49]⟩, .string ⟨#[48]⟩, .string ⟨#[49]⟩, .string ⟨#[49]⟩, .string ⟨#[49]⟩, .string ⟨#[49]⟩, .string ⟨#[52]⟩, .string ⟨#[50]⟩, .string ⟨#[49]⟩, .string ⟨#[51]⟩, .string ⟨#[52]⟩] 56))
  have HP7 := Lib.hid (HP7.out.alloc (.cells #[.string ⟨#[48]⟩, .string ⟨#[49]⟩, .string ⟨#[48]⟩, .string ⟨#[49]⟩, .string ⟨#[49]⟩, .string ⟨#[49]⟩, .string ⟨#[49]⟩, .string ⟨#[52]⟩, .string ⟨#[50]⟩, .string ⟨#[49]⟩, .string ⟨#[51]⟩, .string ⟨#[52]⟩] 56))
  have HP9 := Lib.hid (HP9.out.alloc (.cells #[.string ⟨#[48]⟩, .string ⟨#[49]⟩, .string ⟨#[48]⟩, .string ⟨#[49]⟩, .string ⟨#[49]⟩, .string ⟨#[49]⟩, .string ⟨#[49]⟩, .string ⟨#[52]⟩, .string ⟨#[50]⟩, .string ⟨#[49]⟩, .string ⟨#[51]⟩, .string ⟨#[52]⟩] 56))
  have HP11 := Lib.hid (HP11.out.alloc (.cells #[.string ⟨#[48]⟩, .string ⟨#[49]⟩, .string ⟨#[48]⟩, .string ⟨#[49]⟩, .string ⟨#[49]⟩, .string ⟨#[49]⟩, .string ⟨#[49]⟩, .string ⟨#[52]⟩, .string ⟨#[50]⟩, .string ⟨#[49]⟩, .string ⟨#[51]⟩, .string ⟨#[52]⟩] 56))
  have HP13 := Lib.hid (HP13.out.alloc (.cells #[.string ⟨#[48]⟩, .string ⟨#[49]⟩, .string ⟨#[48]⟩, .string ⟨#[49]⟩, .string ⟨#[49]⟩, .string ⟨#[49]⟩, .string ⟨#[49]⟩, .string ⟨#[52]⟩, .string ⟨#[50]⟩, .string ⟨#[49]⟩, .string ⟨#[51]⟩, .string ⟨#[52]⟩] 56))
  have HP15 := Lib.hid (HP15.out.alloc (.cells #[.string ⟨#[48]⟩, .string ⟨#[49]⟩, .string ⟨#[48]⟩, .string ⟨#[49]⟩, .string ⟨#[49]⟩, .string ⟨#[49]⟩, .string ⟨#[49]⟩, .string ⟨#[52]⟩, .string ⟨#[50]⟩, .string ⟨#[49]⟩, .string ⟨#[51]⟩, .string ⟨#[52]⟩] 56))
  have HP19 := Lib.hid (HP19.out.alloc (.cells #[.string ⟨#[48]⟩, .string ⟨#[49]⟩, .string ⟨#[48]⟩, .string ⟨#[49]⟩, .string ⟨#[49]⟩, .string ⟨#[49]⟩, .string ⟨#[49]⟩, .string ⟨#[52]⟩, .string ⟨#[50]⟩, .string ⟨#[49]⟩, .string ⟨#[51]⟩, .string ⟨#[52]⟩] 56))
  have HPB := Lib.hid (badL_reads hN)
  clear hN hA
  have TT := Lib.hid (bad_lit (some ⟨v24.heap.size, 0, none⟩) 3 (v24.alloc (.cells #[.string ⟨#[48]⟩, .string ⟨#[49]⟩, .string ⟨#[48]⟩, .string ⟨#[49]⟩, .string ⟨#[49]⟩, .string ⟨#[49]⟩, .string ⟨#[49]⟩, .string ⟨#[52]⟩, .string ⟨#[50]⟩, .string ⟨#[49]⟩, .string ⟨#[51]⟩, .string ⟨#[52]⟩] 56)) HPB.out (by decide) (HTZ.out.1.below HB.out (Nat.le_refl _)) (HTZ.out.2.below HB.out (Nat.le_refl _)))
  go_wp2_with fail
  refine TT.out.mono ?_
  rintro e v25 ⟨rfl, hb⟩
  have HB := Lib.hid (HB.out.trans (hb.mono HB.out.size))
  have HR := Lib.hid (HR.out.below hb (Nat.le_refl _))
  have HP3 := Lib.hid (HP3.out.pass hb)
  have HP7 := Lib.hid (HP7.out.pass hb)
  have HP9 := Lib.hid (HP9.out.pass hb)
  have HP11 := Lib.hid (HP11.out.pass hb)
  have HP13 := Lib.hid (HP13.out.pass hb)
  have HP15 := Lib.hid (HP15.out.pass hb)
  have HP19 := Lib.hid (HP19.out.pass hb)
  clear hb TT
  have hN := Blk.new v25 #[.int .i64 0, .int .i64 0, .int .i64 0, .int .i64 1, .int .i64 5, .int .i64 0, .int .i64 0, .int .i64 0, .int .i64 2, .int .i64 6] 30
  have hA := below_alloc v25 (.cells #[.int .i64 0, .int .i64 0, .int .i64 0, .int .i64 1, .int .i64 5, .int .i64 0, .int .i64 0, .int .i64 0, .int .i64 2, .int .i64 6] 30)
  have HB := Lib.hid (HB.out.alloc HB.out.size (.cells #[.int .i64 0, .int .i64 0, .int .i64 0, .int .i64 1, .int .i64 5, .int .i64 0, .int .i64 0, .int .i64 0, .int .i64 2, .int .i64 6] 30))
  have HR := Lib.hid (HR.out.below hA (Nat.le_refl _))
  have HP3 := Lib.hid (HP3.out.alloc (.cells #[.int .i64 0, .int .i64 0, .int .i64 0, .int .i64 1, .int .i64 5, .int .i64 0, .int .i64 0, .int .i64 0, .int .i64 2, .int .i64 6] 30))
  have HP7 := Lib.hid (HP7.out.alloc (.cells #[.int .i64 0, .int .i64 0, .int .i64 0, .int .i64 1, .int .i64 5, .int .i64 0, .int .i64 0, .int .i64 0, .int .i64 2, .int .i64 6] 30))
  have HP9 := Lib.hid (HP9.out.alloc (.cells #[.int .i64 0, .int .i64 0, .int .i64 0, .int .i64 1, .int .i64 5, .int .i64 0, .int .i64 0, .int .i64 0, .int .i64 2, .int .i64 6] 30))
  have HP11 := Lib.hid (HP11.out.alloc (.cells #[.int .i64 0, .int .i64 0, .int .i64 0, .int .i64 1, .int .i64 5, .int .i64 0, .int .i64 0, .int .i64 0, .int .i64 2, .int .i64 6] 30))
  have HP13 := Lib.hid (HP13.out.alloc (.cells #[.int .i64 0, .int .i64 0, .int .i64 0, .int .i64 1, .int .i64 5, .int .i64 0, .int .i64 0, .int .i64 0, .int .i64 2, .int .i64 6] 30))
  have HP15 := Lib.hid (HP15.out.alloc (.cells #[.int .i64 0, .int .i64 0, .int .i64 0, .int .i64 1, .int .i64 5, .int .i64 0, .int .i64 0, .int .i64 0, .int .i64 2, .int .i64 6] 30))
  have HP19 := Lib.hid (HP19.out.alloc (.cells #[.int .i64 0, .int .i64 0, .int .i64 0, .int .i64 1, .int .i64 5, .int .i64 0, .int .i64 0, .int .i64 0, .int .i64 2, .int .i64 6] 30))
  have HPT := Lib.hid (badT_reads hN)
  clear hN hA
  have TT := Lib.hid (badT_lit (some ⟨v25.heap.size, 0, none⟩) 2 (v25.alloc (.cells #[.int .i64 0, .int .i64 0, .int .i64 0, .int .i64 1, .int .i64 5, .int .i64 0, .int .i64 0, .int .i64 0, .int .i64 2, .int .i64 6] 30)) HPT.out)
  go_wp2_with fail
  refine TT.out.mono ?_
  rintro e v26 ⟨rfl, hb⟩
  have HB := Lib.hid (HB.out.trans (hb.mono HB.out.size))
  have HR := Lib.hid (HR.out.below hb (Nat.le_refl _))
  have HP3 := Lib.hid (HP3.out.pass hb)
  have HP7 := Lib.hid (HP7.out.pass hb)
  have HP9 := Lib.hid (HP9.out.pass hb)
  have HP11 := Lib.hid (HP11.out.pass hb)
  have HP13 := Lib.hid (HP13.out.pass hb)
  have HP15 := Lib.hid (HP15.out.pass hb)
  have HP19 := Lib.hid (HP19.out.pass hb)
  clear hb TT
  have HK := Lib.hid ((Kept.of (Nat.le_refl _) HB.out.size HB.out).drew)
  have hfnR : ∀ f, Fence.wide.fn f := fun _ => trivial
  have hm : Tryz.prog.follows .mixedOrders = true := by kernel_rfl
  have hq3 := HP3.out.two.1
  have hq7 := HP7.out.two.1
  have hq9 := HP9.out.two.1
  have hq11 := HP11.out.two.1
  have hq13 := HP13.out.two.1
  have hq15 := HP15.out.two.1
  have hq19 := HP19.out.two.1
  go_wp2_with fail
  refine wp_region_J (fun W => (W.cell? ⟨v2.heap.size, 0, none⟩ = some (.string ⟨#[49]⟩) ∧ W.cell? ⟨v2.heap.size, 1, none⟩ = some (.string ⟨#[50]⟩)) ∧ (W.cell? ⟨v5.heap.size, 0, none⟩ = some (.string ⟨#[49]⟩) ∧ W.cell? ⟨v5.heap.size, 1, none⟩ = some (.string ⟨#[52]⟩)) ∧ (W.cell? ⟨v7.heap.size, 0, none⟩ = some (.string ⟨#[51]⟩) ∧ W.cell? ⟨v7.heap.size, 1, none⟩ = some (.string ⟨#[52]⟩)) ∧ (W.cell? ⟨v9.heap.size, 0, none⟩ = some (.string ⟨#[49]⟩) ∧ W.cell? ⟨v9.heap.size, 1, none⟩ = some (.string ⟨#[50]⟩)) ∧ (W.cell? ⟨v11.heap.size, 0, none⟩ = some (.string ⟨#[49]⟩) ∧ W.cell? ⟨v11.heap.size, 1, none⟩ = some (.string ⟨#[52]⟩)) ∧ (W.cell? ⟨v13.heap.size, 0, none⟩ = some (.string ⟨#[48]⟩) ∧ W.cell? ⟨v13.heap.size, 1, none⟩ = some (.string ⟨#[49]⟩)) ∧ (W.cell? ⟨v18.heap.size, 0, none⟩ = some (.string ⟨#[49]⟩) ∧ W.cell? ⟨v18.heap.size, 1, none⟩ = some (.string ⟨#[52]⟩))) [] hm ?hCells0 (fun hCells => ?_)
  case hCells0 => exact ⟨hq3, hq7, hq9, hq11, hq13, hq15, hq19⟩
  generalize v26.drew = W0 at *
  refine takeB hfnR (by kernel_rfl) 0 (v := ?_) rfl (by kernel_rfl) (fun _ _ _ h => h) (by kernel_rfl) hCells (Or.inl ⟨by rfl, ?_⟩) ?_
  rotate_left 1
  · intro w hSw; (try dsimp only at hSw); go_simp; (try with_reducible rfl)
  try simp only [Act.put, List.setIfInBounds_toArray, List.set_cons_zero, List.set_cons_succ]
  refine oneJ 1 (by kernel_rfl) rfl (fun K hK => ?_)
  go_simp
  refine ⟨rfl, ?_⟩
  (refine (callsIn_wide.2 (alive_any _ (HTZ.out.1.below HK.out.2.2 (Nat.le_refl _)) (HTZ.out.2.below HK.out.2.2 (Nat.le_refl _)))).mono ?_; rintro e u1 ⟨rfl, hv⟩)
  refine hK.out _ _ (holdJ ?_ (fun hCells => ?_))
  · clear hK; (try dsimp only); (exact ⟨⟨pc hv hCells.1.1, pc hv hCells.1.2⟩, ⟨pc hv hCells.2.1.1, pc hv hCells.2.1.2⟩, ⟨pc hv hCells.2.2.1.1, pc hv hCells.2.2.1.2⟩, ⟨pc hv hCells.2.2.2.1.1, pc hv hCells.2.2.2.1.2⟩, ⟨pc hv hCells.2.2.2.2.1.1, pc hv hCells.2.2.2.2.1.2⟩, ⟨pc hv hCells.2.2.2.2.2.1.1, pc hv hCells.2.2.2.2.2.1.2⟩, ⟨pc hv hCells.2.2.2.2.2.2.1, pc hv hCells.2.2.2.2.2.2.2⟩⟩)
  clear hK K
  try simp only [Act.put, List.setIfInBounds_toArray, List.set_cons_zero, List.set_cons_succ]
  have HK := Lib.hid (HK.out.pass hv)
  clear hv
  refine takeB hfnR (by kernel_rfl) 2 (v := ?_) rfl (by kernel_rfl) (fun _ _ _ h => h) (by kernel_rfl) hCells (Or.inl ⟨by rfl, ?_⟩) ?_
  rotate_left 1
  · intro w hSw; (try dsimp only at hSw); go_simp; (try with_reducible rfl)
  try simp only [Act.put, List.setIfInBounds_toArray, List.set_cons_zero, List.set_cons_succ]
  refine takeB hfnR (by kernel_rfl) 3 (v := ?_) rfl (by kernel_rfl) (fun _ _ _ h => h) (by kernel_rfl) hCells (Or.inl ⟨by rfl, ?_⟩) ?_
  rotate_left 1
  · intro w hSw; (try dsimp only at hSw); go_simp; (try with_reducible rfl)
  try simp only [Act.put, List.setIfInBounds_toArray, List.set_cons_zero, List.set_cons_succ]
  refine takeB hfnR (by kernel_rfl) 4 (v := ?_) rfl (by kernel_rfl) (fun _ _ _ h => h) (by kernel_rfl) hCells (Or.inl ⟨by rfl, ?_⟩) ?_
  rotate_left 1
  · intro w hSw; (try dsimp only at hSw); go_simp; (try with_reducible rfl)
  try simp only [Act.put, List.setIfInBounds_toArray, List.set_cons_zero, List.set_cons_succ]
  refine takeB hfnR (by kernel_rfl) 5 (v := ?_) rfl (by kernel_rfl) (fun _ _ _ h => h) (by kernel_rfl) hCells (Or.inl ⟨by rfl, ?_⟩) ?_
  rotate_left 1
  · intro w hSw; (try dsimp only at hSw); go_simp; (try with_reducible rfl)
  try simp only [Act.put, List.setIfInBounds_toArray, List.set_cons_zero, List.set_cons_succ]
  refine takeB hfnR (by kernel_rfl) 6 (v := ?_) rfl (by kernel_rfl) (fun _ _ _ h => h) (by kernel_rfl) hCells (Or.inl ⟨by rfl, ?_⟩) ?_
  rotate_left 1
  · intro w hSw; (try dsimp only at hSw); go_simp; (try with_reducible rfl)
  try simp only [Act.put, List.setIfInBounds_toArray, List.set_cons_zero, List.set_cons_succ]
  refine takeB hfnR (by kernel_rfl) 7 (v := ?_) rfl (by kernel_rfl) (fun _ _ _ h => h) (by kernel_rfl) hCells (Or.inl ⟨by rfl, ?_⟩) ?_
  rotate_left 1
  · intro w hSw; (try dsimp only at hSw); go_simp; (try with_reducible rfl)
  try simp only [Act.put, List.setIfInBounds_toArray, List.set_cons_zero, List.set_cons_succ]
  refine takeB hfnR (by kernel_rfl) 8 (v := ?_) rfl (by kernel_rfl) (fun _ _ _ h => h) (by kernel_rfl) hCells (Or.inl ⟨by rfl, ?_⟩) ?_
  rotate_left 1
  · intro w hSw; (try dsimp only at hSw); go_simp; (try with_reducible rfl)
  try simp only [Act.put, List.setIfInBounds_toArray, List.set_cons_zero, List.set_cons_succ]
  refine oneJ 9 (by kernel_rfl) rfl (fun K hK => ?_)
  go_simp
  refine ⟨rfl, ?_⟩
  (refine (callsIn_wide.2 (of_lit 1 2 (by decide) (by decide) (by decide) ⟨#[49]⟩ ⟨#[50]⟩ (by kernel_rfl) (by kernel_rfl) _ (HTZ.out.1.below HK.out.2.2 (Nat.le_refl _)))).mono ?_; rintro e u9 ⟨rfl, hv⟩)
  refine hK.out _ _ (holdJ ?_ (fun hCells => ?_))
  · clear hK; (try dsimp only); (exact ⟨⟨pc hv hCells.1.1, pc hv hCells.1.2⟩, ⟨pc hv hCells.2.1.1, pc hv hCells.2.1.2⟩, ⟨pc hv hCells.2.2.1.1, pc hv hCells.2.2.1.2⟩, ⟨pc hv hCells.2.2.2.1.1, pc hv hCells.2.2.2.1.2⟩, ⟨pc hv hCells.2.2.2.2.1.1, pc hv hCells.2.2.2.2.1.2⟩, ⟨pc hv hCells.2.2.2.2.2.1.1, pc hv hCells.2.2.2.2.2.1.2⟩, ⟨pc hv hCells.2.2.2.2.2.2.1, pc hv hCells.2.2.2.2.2.2.2⟩⟩)
  clear hK K
  try simp only [Act.put, List.setIfInBounds_toArray, List.set_cons_zero, List.set_cons_succ]
  have HK := Lib.hid (HK.out.pass hv)
  clear hv
  refine takeB hfnR (by kernel_rfl) 10 (v := ?_) rfl (by kernel_rfl) (fun _ _ _ h => h) (by kernel_rfl) hCells (Or.inl ⟨by rfl, ?_⟩) ?_
  rotate_left 1
  · intro w hSw; (try dsimp only at hSw); go_simp; (try with_reducible rfl)
  try simp only [Act.put, List.setIfInBounds_toArray, List.set_cons_zero, List.set_cons_succ]
  refine takeB hfnR (by kernel_rfl) 11 (v := ?_) rfl (by kernel_rfl) (fun _ _ _ h => h) (by kernel_rfl) hCells (Or.inl ⟨by rfl, ?_⟩) ?_
  rotate_left 1
  · intro w hSw; (try dsimp only at hSw); go_simp; (try with_reducible rfl)
  try simp only [Act.put, List.setIfInBounds_toArray, List.set_cons_zero, List.set_cons_succ]
  refine takeB hfnR (by kernel_rfl) 12 (v := ?_) rfl (by kernel_rfl) (fun _ _ _ h => h) (by kernel_rfl) hCells (Or.inl ⟨by rfl, ?_⟩) ?_
  rotate_left 1
  · intro w hSw; (try dsimp only at hSw); go_simp; (try with_reducible rfl)
  try simp only [Act.put, List.setIfInBounds_toArray, List.set_cons_zero, List.set_cons_succ]
  refine takeB hfnR (by kernel_rfl) 13 (v := ?_) rfl (by kernel_rfl) (fun _ _ _ h => h) (by kernel_rfl) hCells (Or.inl ⟨by rfl, ?_⟩) ?_
  rotate_left 1
  · intro w hSw; (try dsimp only at hSw); go_simp; (try with_reducible rfl)
  try simp only [Act.put, List.setIfInBounds_toArray, List.set_cons_zero, List.set_cons_succ]
  refine oneJ 14 (by kernel_rfl) rfl (fun K hK => ?_)
  go_simp
  refine ⟨rfl, ?_⟩
  (refine (callsIn_wide.2 (of_lit 1 4 (by decide) (by decide) (by decide) ⟨#[49]⟩ ⟨#[52]⟩ (by kernel_rfl) (by kernel_rfl) _ (HTZ.out.1.below HK.out.2.2 (Nat.le_refl _)))).mono ?_; rintro e u14 ⟨rfl, hv⟩)
  refine hK.out _ _ (holdJ ?_ (fun hCells => ?_))
  · clear hK; (try dsimp only); (exact ⟨⟨pc hv hCells.1.1, pc hv hCells.1.2⟩, ⟨pc hv hCells.2.1.1, pc hv hCells.2.1.2⟩, ⟨pc hv hCells.2.2.1.1, pc hv hCells.2.2.1.2⟩, ⟨pc hv hCells.2.2.2.1.1, pc hv hCells.2.2.2.1.2⟩, ⟨pc hv hCells.2.2.2.2.1.1, pc hv hCells.2.2.2.2.1.2⟩, ⟨pc hv hCells.2.2.2.2.2.1.1, pc hv hCells.2.2.2.2.2.1.2⟩, ⟨pc hv hCells.2.2.2.2.2.2.1, pc hv hCells.2.2.2.2.2.2.2⟩⟩)
  clear hK K
  try simp only [Act.put, List.setIfInBounds_toArray, List.set_cons_zero, List.set_cons_succ]
  have HK := Lib.hid (HK.out.pass hv)
  clear hv
  refine takeB hfnR (by kernel_rfl) 15 (v := ?_) rfl (by kernel_rfl) (fun _ _ _ h => h) (by kernel_rfl) hCells (Or.inl ⟨by rfl, ?_⟩) ?_
  rotate_left 1
  · intro w hSw; (try dsimp only at hSw); go_simp; (try with_reducible rfl)
  try simp only [Act.put, List.setIfInBounds_toArray, List.set_cons_zero, List.set_cons_succ]
  refine takeB hfnR (by kernel_rfl) 16 (v := ?_) rfl (by kernel_rfl) (fun _ _ _ h => h) (by kernel_rfl) hCells (Or.inl ⟨by rfl, ?_⟩) ?_
  rotate_left 1
  · intro w hSw; (try dsimp only at hSw); go_simp; (try with_reducible rfl)
  try simp only [Act.put, List.setIfInBounds_toArray, List.set_cons_zero, List.set_cons_succ]
  refine takeB hfnR (by kernel_rfl) 17 (v := ?_) rfl (by kernel_rfl) (fun _ _ _ h => h) (by kernel_rfl) hCells (Or.inl ⟨by rfl, ?_⟩) ?_
  rotate_left 1
  · intro w hSw; (try dsimp only at hSw); go_simp; (try with_reducible rfl)
  try simp only [Act.put, List.setIfInBounds_toArray, List.set_cons_zero, List.set_cons_succ]
  refine takeB hfnR (by kernel_rfl) 18 (v := ?_) rfl (by kernel_rfl) (fun _ _ _ h => h) (by kernel_rfl) hCells (Or.inl ⟨by rfl, ?_⟩) ?_
  rotate_left 1
  · intro w hSw; (try dsimp only at hSw); go_simp; (try with_reducible rfl)
  try simp only [Act.put, List.setIfInBounds_toArray, List.set_cons_zero, List.set_cons_succ]
  refine oneJ 19 (by kernel_rfl) rfl (fun K hK => ?_)
  go_simp
  refine ⟨rfl, ?_⟩
  (refine (callsIn_wide.2 (of_lit 3 4 (by decide) (by decide) (by decide) ⟨#[51]⟩ ⟨#[52]⟩ (by kernel_rfl) (by kernel_rfl) _ (HTZ.out.1.below HK.out.2.2 (Nat.le_refl _)))).mono ?_; rintro e u19 ⟨rfl, hv⟩)
  refine hK.out _ _ (holdJ ?_ (fun hCells => ?_))
  · clear hK; (try dsimp only); (exact ⟨⟨pc hv hCells.1.1, pc hv hCells.1.2⟩, ⟨pc hv hCells.2.1.1, pc hv hCells.2.1.2⟩, ⟨pc hv hCells.2.2.1.1, pc hv hCells.2.2.1.2⟩, ⟨pc hv hCells.2.2.2.1.1, pc hv hCells.2.2.2.1.2⟩, ⟨pc hv hCells.2.2.2.2.1.1, pc hv hCells.2.2.2.2.1.2⟩, ⟨pc hv hCells.2.2.2.2.2.1.1, pc hv hCells.2.2.2.2.2.1.2⟩, ⟨pc hv hCells.2.2.2.2.2.2.1, pc hv hCells.2.2.2.2.2.2.2⟩⟩)
  clear hK K
  try simp only [Act.put, List.setIfInBounds_toArray, List.set_cons_zero, List.set_cons_succ]
  have HK := Lib.hid (HK.out.pass hv)
  clear hv
  refine takeB hfnR (by kernel_rfl) 20 (v := ?_) rfl (by kernel_rfl) (fun _ _ _ h => h) (by kernel_rfl) hCells (Or.inl ⟨by rfl, ?_⟩) ?_
  rotate_left 1
  · intro w hSw; (try dsimp only at hSw); go_simp; (try with_reducible rfl)
  try simp only [Act.put, List.setIfInBounds_toArray, List.set_cons_zero, List.set_cons_succ]
  refine takeB hfnR (by kernel_rfl) 21 (v := ?_) rfl (by kernel_rfl) (fun _ _ _ h => h) (by kernel_rfl) hCells (Or.inl ⟨by rfl, ?_⟩) ?_
  rotate_left 1
  · intro w hSw; (try dsimp only at hSw); go_simp; (try with_reducible rfl)
  try simp only [Act.put, List.setIfInBounds_toArray, List.set_cons_zero, List.set_cons_succ]
  refine takeB hfnR (by kernel_rfl) 22 (v := ?_) rfl (by kernel_rfl) (fun _ _ _ h => h) (by kernel_rfl) hCells (Or.inl ⟨by rfl, ?_⟩) ?_
  rotate_left 1
  · intro w hSw; (try dsimp only at hSw); go_simp; (try with_reducible rfl)
  try simp only [Act.put, List.setIfInBounds_toArray, List.set_cons_zero, List.set_cons_succ]
  refine takeB hfnR (by kernel_rfl) 23 (v := ?_) rfl (by kernel_rfl) (fun _ _ _ h => h) (by kernel_rfl) hCells (Or.inl ⟨by rfl, ?_⟩) ?_
  rotate_left 1
  · intro w hSw; (try dsimp only at hSw); go_simp; (try with_reducible rfl)
  try simp only [Act.put, List.setIfInBounds_toArray, List.set_cons_zero, List.set_cons_succ]
  refine oneJ 24 (by kernel_rfl) rfl (fun K hK => ?_)
  go_simp
  refine ⟨rfl, ?_⟩
  (refine (callsIn_wide.2 (of_lit 1 2 (by decide) (by decide) (by decide) ⟨#[49]⟩ ⟨#[50]⟩ (by kernel_rfl) (by kernel_rfl) _ (HTZ.out.1.below HK.out.2.2 (Nat.le_refl _)))).mono ?_; rintro e u24 ⟨rfl, hv⟩)
  refine hK.out _ _ (holdJ ?_ (fun hCells => ?_))
  · clear hK; (try dsimp only); (exact ⟨⟨pc hv hCells.1.1, pc hv hCells.1.2⟩, ⟨pc hv hCells.2.1.1, pc hv hCells.2.1.2⟩, ⟨pc hv hCells.2.2.1.1, pc hv hCells.2.2.1.2⟩, ⟨pc hv hCells.2.2.2.1.1, pc hv hCells.2.2.2.1.2⟩, ⟨pc hv hCells.2.2.2.2.1.1, pc hv hCells.2.2.2.2.1.2⟩, ⟨pc hv hCells.2.2.2.2.2.1.1, pc hv hCells.2.2.2.2.2.1.2⟩, ⟨pc hv hCells.2.2.2.2.2.2.1, pc hv hCells.2.2.2.2.2.2.2⟩⟩)
  clear hK K
  try simp only [Act.put, List.setIfInBounds_toArray, List.set_cons_zero, List.set_cons_succ]
  have HK := Lib.hid (HK.out.pass hv)
  clear hv
  refine takeB hfnR (by kernel_rfl) 25 (v := ?_) rfl (by kernel_rfl) (fun _ _ _ h => h) (by kernel_rfl) hCells (Or.inl ⟨by rfl, ?_⟩) ?_
  rotate_left 1
  · intro w hSw; (try dsimp only at hSw); go_simp; (try with_reducible rfl)
  try simp only [Act.put, List.setIfInBounds_toArray, List.set_cons_zero, List.set_cons_succ]
  refine takeB hfnR (by kernel_rfl) 26 (v := ?_) rfl (by kernel_rfl) (fun _ _ _ h => h) (by kernel_rfl) hCells (Or.inl ⟨by rfl, ?_⟩) ?_
  rotate_left 1
  · intro w hSw; (try dsimp only at hSw); go_simp; (try with_reducible rfl)
  try simp only [Act.put, List.setIfInBounds_toArray, List.set_cons_zero, List.set_cons_succ]
  refine takeB hfnR (by kernel_rfl) 27 (v := ?_) rfl (by kernel_rfl) (fun _ _ _ h => h) (by kernel_rfl) hCells (Or.inl ⟨by rfl, ?_⟩) ?_
  rotate_left 1
  · intro w hSw; (try dsimp only at hSw); go_simp; (try with_reducible rfl)
  try simp only [Act.put, List.setIfInBounds_toArray, List.set_cons_zero, List.set_cons_succ]
  refine takeB hfnR (by kernel_rfl) 28 (v := ?_) rfl (by kernel_rfl) (fun _ _ _ h => h) (by kernel_rfl) hCells (Or.inl ⟨by rfl, ?_⟩) ?_
  rotate_left 1
  · intro w hSw; (try dsimp only at hSw); go_simp; (try with_reducible rfl)
  try simp only [Act.put, List.setIfInBounds_toArray, List.set_cons_zero, List.set_cons_succ]
  refine oneJ 29 (by kernel_rfl) rfl (fun K hK => ?_)
  go_simp
  refine ⟨rfl, ?_⟩
  (refine (callsIn_wide.2 (of_lit 1 4 (by decide) (by decide) (by decide) ⟨#[49]⟩ ⟨#[52]⟩ (by kernel_rfl) (by kernel_rfl) _ (HTZ.out.1.below HK.out.2.2 (Nat.le_refl _)))).mono ?_; rintro e u29 ⟨rfl, hv⟩)
  refine hK.out _ _ (holdJ ?_ (fun hCells => ?_))
  · clear hK; (try dsimp only); (exact ⟨⟨pc hv hCells.1.1, pc hv hCells.1.2⟩, ⟨pc hv hCells.2.1.1, pc hv hCells.2.1.2⟩, ⟨pc hv hCells.2.2.1.1, pc hv hCells.2.2.1.2⟩, ⟨pc hv hCells.2.2.2.1.1, pc hv hCells.2.2.2.1.2⟩, ⟨pc hv hCells.2.2.2.2.1.1, pc hv hCells.2.2.2.2.1.2⟩, ⟨pc hv hCells.2.2.2.2.2.1.1, pc hv hCells.2.2.2.2.2.1.2⟩, ⟨pc hv hCells.2.2.2.2.2.2.1, pc hv hCells.2.2.2.2.2.2.2⟩⟩)
  clear hK K
  try simp only [Act.put, List.setIfInBounds_toArray, List.set_cons_zero, List.set_cons_succ]
  have HK := Lib.hid (HK.out.pass hv)
  clear hv
  refine takeB hfnR (by kernel_rfl) 30 (v := ?_) rfl (by kernel_rfl) (fun _ _ _ h => h) (by kernel_rfl) hCells (Or.inl ⟨by rfl, ?_⟩) ?_
  rotate_left 1
  · intro w hSw; (try dsimp only at hSw); go_simp; (try with_reducible rfl)
  try simp only [Act.put, List.setIfInBounds_toArray, List.set_cons_zero, List.set_cons_succ]
  refine takeB hfnR (by kernel_rfl) 31 (v := ?_) rfl (by kernel_rfl) (fun _ _ _ h => h) (by kernel_rfl) hCells (Or.inl ⟨by rfl, ?_⟩) ?_
  rotate_left 1
  · intro w hSw; (try dsimp only at hSw); go_simp; (try with_reducible rfl)
  try simp only [Act.put, List.setIfInBounds_toArray, List.set_cons_zero, List.set_cons_succ]
  refine takeB hfnR (by kernel_rfl) 32 (v := ?_) rfl (by kernel_rfl) (fun _ _ _ h => h) (by kernel_rfl) hCells (Or.inl ⟨by rfl, ?_⟩) ?_
  rotate_left 1
  · intro w hSw; (try dsimp only at hSw); go_simp; (try with_reducible rfl)
  try simp only [Act.put, List.setIfInBounds_toArray, List.set_cons_zero, List.set_cons_succ]
  refine takeB hfnR (by kernel_rfl) 33 (v := ?_) rfl (by kernel_rfl) (fun _ _ _ h => h) (by kernel_rfl) hCells (Or.inl ⟨by rfl, ?_⟩) ?_
  rotate_left 1
  · intro w hSw; (try dsimp only at hSw); go_simp; (try with_reducible rfl)
  try simp only [Act.put, List.setIfInBounds_toArray, List.set_cons_zero, List.set_cons_succ]
  refine oneJ 34 (by kernel_rfl) rfl (fun K hK => ?_)
  go_simp
  refine ⟨rfl, ?_⟩
  (refine (callsIn_wide.2 (of_lit 0 1 (by decide) (by decide) (by decide) ⟨#[48]⟩ ⟨#[49]⟩ (by kernel_rfl) (by kernel_rfl) _ (HTZ.out.1.below HK.out.2.2 (Nat.le_refl _)))).mono ?_; rintro e u34 ⟨rfl, hv⟩)
  refine hK.out _ _ (holdJ ?_ (fun hCells => ?_))
  · clear hK; (try dsimp only); (exact ⟨⟨pc hv hCells.1.1, pc hv hCells.1.2⟩, ⟨pc hv hCells.2.1.1, pc hv hCells.2.1.2⟩, ⟨pc hv hCells.2.2.1.1, pc hv hCells.2.2.1.2⟩, ⟨pc hv hCells.2.2.2.1.1, pc hv hCells.2.2.2.1.2⟩, ⟨pc hv hCells.2.2.2.2.1.1, pc hv hCells.2.2.2.2.1.2⟩, ⟨pc hv hCells.2.2.2.2.2.1.1, pc hv hCells.2.2.2.2.2.1.2⟩, ⟨pc hv hCells.2.2.2.2.2.2.1, pc hv hCells.2.2.2.2.2.2.2⟩⟩)
  clear hK K
  try simp only [Act.put, List.setIfInBounds_toArray, List.set_cons_zero, List.set_cons_succ]
  have HK := Lib.hid (HK.out.pass hv)
  clear hv
  refine takeB hfnR (by kernel_rfl) 35 (v := ?_) rfl (by kernel_rfl) (fun _ _ _ h => h) (by kernel_rfl) hCells (Or.inl ⟨by rfl, ?_⟩) ?_
  rotate_left 1
  · intro w hSw; (try dsimp only at hSw); go_simp; (try with_reducible rfl)
  try simp only [Act.put, List.setIfInBounds_toArray, List.set_cons_zero, List.set_cons_succ]
  refine takeB hfnR (by kernel_rfl) 36 (v := ?_) rfl (by kernel_rfl) (fun _ _ _ h => h) (by kernel_rfl) hCells (Or.inl ⟨by rfl, ?_⟩) ?_
  rotate_left 1
  · intro w hSw; (try dsimp only at hSw); go_simp; (try with_reducible rfl)
  try simp only [Act.put, List.setIfInBounds_toArray, List.set_cons_zero, List.set_cons_succ]
  refine takeB hfnR (by kernel_rfl) 37 (v := ?_) rfl (by kernel_rfl) (fun _ _ _ h => h) (by kernel_rfl) hCells (Or.inl ⟨by rfl, ?_⟩) ?_
  rotate_left 1
  · intro w hSw; (try dsimp only at hSw); go_simp; (try with_reducible rfl)
  try simp only [Act.put, List.setIfInBounds_toArray, List.set_cons_zero, List.set_cons_succ]
  refine takeB hfnR (by kernel_rfl) 38 (v := ?_) rfl (by kernel_rfl) (fun _ _ _ h => h) (by kernel_rfl) hCells (Or.inl ⟨by rfl, ?_⟩) ?_
  rotate_left 1
  · intro w hSw; (try dsimp only at hSw); go_simp; (try with_reducible rfl)
  try simp only [Act.put, List.setIfInBounds_toArray, List.set_cons_zero, List.set_cons_succ]
  refine takeB hfnR (by kernel_rfl) 39 (v := ?_) rfl (by kernel_rfl) (fun _ _ _ h => h) (by kernel_rfl) hCells (Or.inl ⟨by rfl, ?_⟩) ?_
  rotate_left 1
  · intro w hSw; (try dsimp only at hSw); go_simp; (try with_reducible rfl)
  try simp only [Act.put, List.setIfInBounds_toArray, List.set_cons_zero, List.set_cons_succ]
  refine takeB hfnR (by kernel_rfl) 40 (v := ?_) rfl (by kernel_rfl) (fun _ _ _ h => h) (by kernel_rfl) hCells (Or.inl ⟨by rfl, ?_⟩) ?_
  rotate_left 1
  · intro w hSw; (try dsimp only at hSw); go_simp; (try with_reducible rfl)
  try simp only [Act.put, List.setIfInBounds_toArray, List.set_cons_zero, List.set_cons_succ]
  refine takeB hfnR (by kernel_rfl) 41 (v := ?_) rfl (by kernel_rfl) (fun _ _ _ h => h) (by kernel_rfl) hCells (Or.inl ⟨by rfl, ?_⟩) ?_
  rotate_left 1
  · intro w hSw; (try dsimp only at hSw); go_simp; (try with_reducible rfl)
  try simp only [Act.put, List.setIfInBounds_toArray, List.set_cons_zero, List.set_cons_succ]
  refine takeB hfnR (by kernel_rfl) 42 (v := ?_) rfl (by kernel_rfl) (fun _ _ _ h => h) (by kernel_rfl) hCells (Or.inl ⟨by rfl, ?_⟩) ?_
  rotate_left 1
  · intro w hSw; (try dsimp only at hSw); go_simp; (try with_reducible rfl)
  try simp only [Act.put, List.setIfInBounds_toArray, List.set_cons_zero, List.set_cons_succ]
  refine oneJ 43 (by kernel_rfl) rfl (fun K hK => ?_)
  go_simp
  refine ⟨rfl, ?_⟩
  (refine (callsIn_wide.2 (of_lit 1 4 (by decide) (by decide) (by decide) ⟨#[49]⟩ ⟨#[52]⟩ (by kernel_rfl) (by kernel_rfl) _ (HTZ.out.1.below HK.out.2.2 (Nat.le_refl _)))).mono ?_; rintro e u43 ⟨rfl, hv⟩)
  refine hK.out _ _ (holdJ ?_ (fun hCells => ?_))
  · clear hK; (try dsimp only); (exact ⟨⟨pc hv hCells.1.1, pc hv hCells.1.2⟩, ⟨pc hv hCells.2.1.1, pc hv hCells.2.1.2⟩, ⟨pc hv hCells.2.2.1.1, pc hv hCells.2.2.1.2⟩, ⟨pc hv hCells.2.2.2.1.1, pc hv hCells.2.2.2.1.2⟩, ⟨pc hv hCells.2.2.2.2.1.1, pc hv hCells.2.2.2.2.1.2⟩, ⟨pc hv hCells.2.2.2.2.2.1.1, pc hv hCells.2.2.2.2.2.1.2⟩, ⟨pc hv hCells.2.2.2.2.2.2.1, pc hv hCells.2.2.2.2.2.2.2⟩⟩)
  clear hK K
  try simp only [Act.put, List.setIfInBounds_toArray, List.set_cons_zero, List.set_cons_succ]
  have HK := Lib.hid (HK.out.pass hv)
  clear hv
  refine takeB hfnR (by kernel_rfl) 44 (v := ?_) rfl (by kernel_rfl) (fun _ _ _ h => h) (by kernel_rfl) hCells (Or.inl ⟨by rfl, ?_⟩) ?_
  rotate_left 1
  · intro w hSw; (try dsimp only at hSw); go_simp; (try with_reducible rfl)
  try simp only [Act.put, List.setIfInBounds_toArray, List.set_cons_zero, List.set_cons_succ]
  refine takeB hfnR (by kernel_rfl) 45 (v := ?_) rfl (by kernel_rfl) (fun _ _ _ h => h) (by kernel_rfl) hCells (Or.inl ⟨by rfl, ?_⟩) ?_
  rotate_left 1
  · intro w hSw; (try dsimp only at hSw); go_simp; (try with_reducible rfl)
  try simp only [Act.put, List.setIfInBounds_toArray, List.set_cons_zero, List.set_cons_succ]
  refine takeB hfnR (by kernel_rfl) 46 (v := ?_) rfl (by kernel_rfl) (fun _ _ _ h => h) (by kernel_rfl) hCells (Or.inl ⟨by rfl, ?_⟩) ?_
  rotate_left 1
  · intro w hSw; (try dsimp only at hSw); go_simp; (try with_reducible rfl)
  try simp only [Act.put, List.setIfInBounds_toArray, List.set_cons_zero, List.set_cons_succ]
  refine takeB hfnR (by kernel_rfl) 47 (v := ?_) rfl (by kernel_rfl) (fun _ _ _ h => h) (by kernel_rfl) hCells (Or.inl ⟨by rfl, ?_⟩) ?_
  rotate_left 1
  · intro w hSw; (try dsimp only at hSw); go_simp; (try with_reducible rfl)
  try simp only [Act.put, List.setIfInBounds_toArray, List.set_cons_zero, List.set_cons_succ]
  refine takeB hfnR (by kernel_rfl) 48 (v := ?_) rfl (by kernel_rfl) (fun _ _ _ h => h) (by kernel_rfl) hCells (Or.inl ⟨by rfl, ?_⟩) ?_
  rotate_left 1
  · intro w hSw; (try dsimp only at hSw); go_simp; (try with_reducible rfl)
  try simp only [Act.put, List.setIfInBounds_toArray, List.set_cons_zero, List.set_cons_succ]
  refine takeB hfnR (by kernel_rfl) 49 (v := ?_) rfl (by kernel_rfl) (fun _ _ _ h => h) (by kernel_rfl) hCells (Or.inl ⟨by rfl, ?_⟩) ?_
  rotate_left 1
  · intro w hSw; (try dsimp only at hSw); go_simp; (try with_reducible rfl)
  try simp only [Act.put, List.setIfInBounds_toArray, List.set_cons_zero, List.set_cons_succ]
  refine takeB hfnR (by kernel_rfl) 50 (v := ?_) rfl (by kernel_rfl) (fun _ _ _ h => h) (by kernel_rfl) hCells (Or.inl ⟨by rfl, ?_⟩) ?_
  rotate_left 1
  · intro w hSw; (try dsimp only at hSw); go_simp; (try with_reducible rfl)
  try simp only [Act.put, List.setIfInBounds_toArray, List.set_cons_zero, List.set_cons_succ]
  refine takeB hfnR (by kernel_rfl) 51 (v := ?_) rfl (by kernel_rfl) (fun _ _ _ h => h) (by kernel_rfl) hCells (Or.inl ⟨by rfl, ?_⟩) ?_
  rotate_left 1
  · intro w hSw; (try dsimp only at hSw); go_simp; (try with_reducible rfl)
  try simp only [Act.put, List.setIfInBounds_toArray, List.set_cons_zero, List.set_cons_succ]
  refine takeB hfnR (by kernel_rfl) 52 (v := ?_) rfl (by kernel_rfl) (fun _ _ _ h => h) (by kernel_rfl) hCells (Or.inl ⟨by rfl, ?_⟩) ?_
  rotate_left 1
  · intro w hSw; (try dsimp only at hSw); go_simp; (try with_reducible rfl)
  try simp only [Act.put, List.setIfInBounds_toArray, List.set_cons_zero, List.set_cons_succ]
  refine takeB hfnR (by kernel_rfl) 53 (v := ?_) rfl (by kernel_rfl) (fun _ _ _ h => h) (by kernel_rfl) hCells (Or.inl ⟨by rfl, ?_⟩) ?_
  rotate_left 1
  · intro w hSw; (try dsimp only at hSw); go_simp; (try with_reducible rfl)
  try simp only [Act.put, List.setIfInBounds_toArray, List.set_cons_zero, List.set_cons_succ]
  refine takeB hfnR (by kernel_rfl) 54 (v := ?_) rfl (by kernel_rfl) (fun _ _ _ h => h) (by kernel_rfl) hCells (Or.inl ⟨by rfl, ?_⟩) ?_
  rotate_left 1
  · intro w hSw; (try dsimp only at hSw); go_simp; (try with_reducible rfl)
  try simp only [Act.put, List.setIfInBounds_toArray, List.set_cons_zero, List.set_cons_succ]
  refine wpAnyJ_done (by kernel_rfl) (NoPan.normal ?_) _
  go_wp2_with fail
  go_ret
  exact ⟨rfl, HK.out.2.2⟩
end Go.Proofs.Cr
