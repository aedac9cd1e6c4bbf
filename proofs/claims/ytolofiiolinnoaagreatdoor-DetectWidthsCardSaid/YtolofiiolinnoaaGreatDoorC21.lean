/- Contracts of functions that the laws reach, and plain lemmas. Part 21. -/
import Derived.Test.YtolofiiolinnoaaGreatDoorC16
set_option linter.all false
namespace Go.Proofs.Cr
open Go.RowKit Go.Shelf
attribute [local go_sem] Oper.semAt_some

/-- The reference's 'in'. -/
theorem in06_any (n lo hi : Int) (w : World) : Calls Tryz.prog 51 #[.int .i64 n, .int .i64 lo, .int .i64 hi] w fun e w' => e = .returned (.bool (decide (lo ≤ n) && decide (n ≤ hi))) ∧ w' = w := by
  by_cases h1 : lo ≤ n
  · have E1 := Lib.hid (decide_eq_true h1)
    by_cases h2 : n ≤ hi
    · have E2 := Lib.hid (decide_eq_true h2)
      go_enter Tryz.func51, Tryz.ntmps51
      go_wp2
      go_ret
      exact ⟨by first | (rw [E1.out, E2.out]; rfl) | (rw [E2.out]; rfl) | rfl, rfl⟩
    · have E2 := Lib.hid (decide_eq_false h2)
      go_enter Tryz.func51, Tryz.ntmps51
      go_wp2
      go_ret
      exact ⟨by first | (rw [E1.out, E2.out]; rfl) | (rw [E2.out]; rfl) | rfl, rfl⟩
  · have E1 := Lib.hid (decide_eq_false h1)
    go_enter Tryz.func51, Tryz.ntmps51
    go_wp2
    go_ret
    exact ⟨by first | (rw [E1.out]; rfl) | rfl, rfl⟩
/-- Does a row clash with an older one, as the reference asks? -/
def clashAt (o s : Sg) : Bool := decide (s.se = o.se ∧ s.ob = o.ob ∧ s.li = o.li) && (decide (s.sea = o.sea) || (decide (o.sea < s.sea) && decide (o.wi < s.wi)) || (decide (s.sea < o.sea) && decide (s.wi < o.wi)))
theorem clash_at (o s : Sg) : clashAt o s = (decide (key3 o = key3 s) && clashS s o) := by
  have e1 : decide (s.se = o.se ∧ s.ob = o.ob ∧ s.li = o.li) = decide (key3 o = key3 s) := by
    simp only [key3, Prod.mk.injEq, decide_eq_decide]
    constructor <;> rintro ⟨a, b, c⟩ <;> exact ⟨a.symm, b.symm, c.symm⟩
  unfold clashAt clashS
  rw [e1]
  congr 1
  rw [Bool.eq_iff_iff]
  simp only [Bool.or_eq_true, Bool.and_eq_true, decide_eq_true_eq]
  generalize hx : s.sea - o.sea = x
  generalize hy : s.wi - o.wi = y
  constructor
  · rintro ((h | ⟨h1, h2⟩) | ⟨h1, h2⟩)
    · exact .inr h
    · exact .inl (Int.mul_pos (by omega) (by omega))
    · left
      have : 0 < -x * -y := Int.mul_pos (by omega) (by omega)
      rwa [Int.neg_mul_neg] at this
  · rintro (h | h)
    · rcases Int.lt_trichotomy x 0 with hx0 | hx0 | hx0
      · right
        refine ⟨by omega, ?_⟩
        apply Int.not_le.1
        intro hle
        have : 0 ≤ -x * y := Int.mul_nonneg (by omega) (by omega)
        rw [Int.neg_mul] at this
        omega
      · rw [hx0, Int.zero_mul] at h; omega
      · left; right
        refine ⟨by omega, ?_⟩
        apply Int.not_le.1
        intro hle
        have : 0 ≤ x * -y := Int.mul_nonneg (by omega) (by omega)
        rw [Int.mul_neg] at this
        omega
    · exact .inl (.inl h)
theorem FitAt_clash {L : List Sg} {k : Nat} : FitAt L k ↔ okS (L.getD k .z) = true ∧ ∀ j, j < k → clashAt (L.getD j .z) (L.getD k .z) = false := by
  constructor
  · rintro ⟨h1, h2⟩
    refine ⟨h1, fun j hj => ?_⟩
    rw [clash_at]
    by_cases hk : key3 (L.getD j .z) = key3 (L.getD k .z)
    · rw [h2 j hj hk, Bool.and_false]
    · rw [decide_eq_false hk, Bool.false_and]
  · rintro ⟨h1, h2⟩
    refine ⟨h1, fun j hj hk => ?_⟩
    have := h2 j hj
    rw [clash_at, decide_eq_true hk, Bool.true_and] at this
    exact this
/-- What the reference's 'Table' answers. -/
def TabE (L : List Sg) (e : Ending) : Prop := (e = .returned (.bool true) ∧ TableP L) ∨ (e = .returned (.bool false) ∧ ¬ TableP L)
theorem TabE.yes {L : List Sg} (h : TableP L) : TabE L (.returned (.bool true)) := .inl ⟨rfl, h⟩
theorem TabE.no {L : List Sg} (h : ¬ TableP L) : TabE L (.returned (.bool false)) := .inr ⟨rfl, h⟩
set_option maxRecDepth 100000 in
set_option maxHeartbeats 8000000 in
/-- The reference's 'Table'. -/
theorem Table_any (A : Option Addr) (c : Nat) (L : List Sg) (w : World) (hr : RdS w A L) :
    Calls Tryz.prog 48 #[.slice A L.length c] w fun e w' => TabE L e ∧ Below w.heap.size w w' := by
  obtain ⟨N, hN⟩ : ∃ N, N = L.length := ⟨_, rfl⟩
  have hr2 := hr.2
  have hl9 := hr.1
  rw [← hN] at hl9 hr2 ⊢
  have HN := Lib.hid hN
  have HR := Lib.hid hr2
  clear hr hr2 hN
  go_enter Tryz.func48, Tryz.ntmps48
  go_wp2_with fail
  go_loopw [3] (fun i wr => ∃ k : Nat, k ≤ N ∧ k ≤ 257 ∧ i = .int .i64 (k : Int) ∧ Below w.heap.size w wr ∧ Hid (∀ j, j < k → FitAt L j))
    (fun i _ => (N - intOf i).toNat)
  case atStart => exact ⟨0, Nat.zero_le _, by omega, rfl, Below.refl _ _, Lib.hid (fun j hj => by omega)⟩
  case round =>
    obtain ⟨k, hk, hk7, rfl, hB, hF⟩ := hrel
    have HB := Lib.hid hB
    by_cases hlt : k < N ∧ k ≤ 256
    · obtain ⟨b, off, rfl, hb, hcs⟩ := HR.out (by omega)
      have hcx := ((hcs k hlt.1).below HB.out hb).cells
      obtain ⟨s, hs⟩ : ∃ s, s = L.getD k .z := ⟨_, rfl⟩
      rw [← hs] at hcx
      have HS := Lib.hid hs
      have hG1 := Blk.new wr (scs s) 30
      have HB1 := Lib.hid (HB.out.alloc hB.size (.cells (scs s) 30))
      have hkl : (k : Int) < N := by omega
      have hk256 : (k : Int) ≤ 256 := by omega
      have hk0 : ¬ (k : Int) < 0 := by omega
      obtain ⟨⟨⟨h0, h1⟩, h2, h3⟩, h4⟩ := hcx
      obtain ⟨⟨⟨⟨z0, z1⟩, z2, z3⟩, z4⟩, ⟨⟨f0, f1⟩, f2, f3⟩, f4⟩ := hG1.sg
      clear hs hB
      simp only [scs] at *
      obtain ⟨d0, e0⟩ : ∃ d, d = inB s.se 0 63 := ⟨_, rfl⟩
      have HD0 := Lib.hid e0
      unfold inB at e0
      have TR0 := Lib.hid (fun W => in06_any s.se 0 63 W)
      rw [← e0] at TR0
      clear e0
      go_wp2_with fail
      refine (TR0.out _).mono ?_
      rintro e w20 ⟨rfl, rfl⟩
      cases d0 with
      | false =>
        go_wp2_with fail
        go_ret
        exact ⟨(TabE.no fun hT => by
          have h := (hT.2 k (by have := HN.out; omega)).1
          rw [← HS.out] at h
          simp [okS, okK, key3, ← HD0.out] at h), HB1.out⟩
      | true =>
        obtain ⟨d1, e1⟩ : ∃ d, d = inB s.ob 0 63 := ⟨_, rfl⟩
        have HD1 := Lib.hid e1
        unfold inB at e1
        have TR1 := Lib.hid (fun W => in06_any s.ob 0 63 W)
        rw [← e1] at TR1
        clear e1
        go_wp2_with fail
        refine (TR1.out _).mono ?_
        rintro e w21 ⟨rfl, rfl⟩
        cases d1 with
        | false =>
          go_wp2_with fail
          go_ret
          exact ⟨(TabE.no fun hT => by
            have h := (hT.2 k (by have := HN.out; omega)).1
            rw [← HS.out] at h
            simp [okS, okK, key3, ← HD1.out] at h), HB1.out⟩
        | true =>
          obtain ⟨d2, e2⟩ : ∃ d, d = inB s.li 0 63 := ⟨_, rfl⟩
          have HD2 := Lib.hid e2
          unfold inB at e2
          have TR2 := Lib.hid (fun W => in06_any s.li 0 63 W)
          rw [← e2] at TR2
          clear e2
          go_wp2_with fail
          refine (TR2.out _).mono ?_
          rintro e w22 ⟨rfl, rfl⟩
          cases d2 with
          | false =>
            go_wp2_with fail
            go_ret
            exact ⟨(TabE.no fun hT => by
              have h := (hT.2 k (by have := HN.out; omega)).1
              rw [← HS.out] at h
              simp [okS, okK, key3, ← HD2.out] at h), HB1.out⟩
          | true =>
            obtain ⟨d3, e3⟩ : ∃ d, d = inB s.sea 0 9 := ⟨_, rfl⟩
            have HD3 := Lib.hid e3
            unfold inB at e3
            have TR3 := Lib.hid (fun W => in06_any s.sea 0 9 W)
            rw [← e3] at TR3
            clear e3
            go_wp2_with fail
            refine (TR3.out _).mono ?_
            rintro e w23 ⟨rfl, rfl⟩
            cases d3 with
            | false =>
              go_wp2_with fail
              go_ret
              exact ⟨(TabE.no fun hT => by
                have h := (hT.2 k (by have := HN.out; omega)).1
                rw [← HS.out] at h
                simp [okS, okK, key3, ← HD3.out] at h), HB1.out⟩
            | true =>
              obtain ⟨d4, e4⟩ : ∃ d, d = inB s.wi 0 100000 := ⟨_, rfl⟩
              have HD4 := Lib.hid e4
              unfold inB at e4
              have TR4 := Lib.hid (fun W => in06_any s.wi 0 100000 W)
              rw [← e4] at TR4
              clear e4
              go_wp2_with fail
              refine (TR4.out _).mono ?_
              rintro e w24 ⟨rfl, rfl⟩
              cases d4 with
              | false =>
                go_wp2_with fail
                go_ret
                exact ⟨(TabE.no fun hT => by
                  have h := (hT.2 k (by have := HN.out; omega)).1
                  rw [← HS.out] at h
                  simp [okS, okK, key3, ← HD4.out] at h), HB1.out⟩
              | true =>
                have HOKS : Hid (okS s = true) := Lib.hid (by simp only [okS, okK, key3, ← HD0.out, ← HD1.out, ← HD2.out, ← HD3.out, ← HD4.out]; rfl)
                go_wp2_with fail
                go_loopw [5] (fun i wr2 => ∃ j : Nat, j ≤ k ∧ i = .int .i64 (j : Int) ∧ Below (wr.alloc (.cells (scs s) 30)).heap.size (wr.alloc (.cells (scs s) 30)) wr2 ∧ Hid (∀ r, r < j → clashAt (L.getD r .z) s = false))
                  (fun i _ => (k - intOf i).toNat)
                case atStart => exact ⟨0, Nat.zero_le _, rfl, Below.refl _ _, Lib.hid (fun r hr => by omega)⟩
                case round =>
                  obtain ⟨j, hj, rfl, hB3, hC⟩ := hrel
                  have HB3 := Lib.hid (HB1.out.trans (hB3.mono HB1.out.size))
                  by_cases hjk : j < k
                  · have hcy := ((hcs j (by omega)).below HB3.out hb).cells
                    obtain ⟨o, ho⟩ : ∃ o, o = L.getD j .z := ⟨_, rfl⟩
                    rw [← ho] at hcy
                    have HO := Lib.hid ho
                    have HB2 := Lib.hid (hB3.alloc hB3.size (.cells (scs o) 30))
                    have hGo := Blk.new wr (scs o) 30
                    have hGs := (hG1.pass hB3).alloc (.cells (scs o) 30)
                    have hjl : (j : Int) < (k : Int) := by omega
                    have hjN : (j : Int) < (N : Int) := by omega
                    have hj0 : ¬ (j : Int) < 0 := by omega
                    obtain ⟨⟨⟨h0, h1⟩, h2, h3⟩, h4⟩ := hcy
                    obtain ⟨⟨⟨⟨y0, y1⟩, y2, y3⟩, y4⟩, ⟨⟨g0, g1⟩, g2, g3⟩, g4⟩ := hGo.sg
                    obtain ⟨⟨⟨⟨z0, z1⟩, z2, z3⟩, z4⟩, _⟩ := Blk.sg (s := s) hGs
                    simp only [scs] at y0 y1 y2 y3 y4 g0 g1 g2 g3 g4 z0 z1 z2 z3 z4
                    have HB2 := Lib.hid (show Below w.heap.size w (wr.alloc (.cells (scs o) 30)) from HB3.out.alloc HB3.out.size _)
                    have HB2' := Lib.hid (hB3.alloc hB3.size (.cells (scs o) 30))
                    clear ho hB3 hGo hGs
                    by_cases qse : (s.se == o.se) = true
                    ·
                      have HQse := Lib.hid qse
                      by_cases qob : (s.ob == o.ob) = true
                      ·
                        have HQob := Lib.hid qob
                        by_cases qli : (s.li == o.li) = true
                        ·
                          have HQli := Lib.hid qli
                          by_cases qsea : (s.sea == o.sea) = true
                          ·
                            have HQsea := Lib.hid qsea
                            have HYS : Hid (clashAt o s = true) := Lib.hid (by unfold clashAt; have a := HQse.out; have b := HQob.out; have c := HQli.out; have d := HQsea.out; simp at a b c d; simp [a, b, c, d])
                            go_wp2_with fail
                            go_ret
                            exact ⟨(TabE.no fun hT => by
                              have h := (FitAt_clash.1 (hT.2 k (by have := HN.out; omega))).2 j hjk
                              rw [← HS.out, ← HO.out, HYS.out] at h
                              cases h), HB2.out⟩
                          ·
                            have qsea : (s.sea == o.sea) = false := by simpa using qsea
                            have HQsea := Lib.hid qsea
                            by_cases g1 : o.sea < s.sea
                            ·
                              have G1A := Lib.hid g1
                              have g0 : ¬ s.sea < o.sea := by omega
                              by_cases g2 : o.wi < s.wi
                              ·
                                have G2A := Lib.hid g2
                                have HYS : Hid (clashAt o s = true) := Lib.hid (by unfold clashAt; have a := HQse.out; have b := HQob.out; have c := HQli.out; simp at a b c; simp [a, b, c, G1A.out, G2A.out])
                                go_wp2_with fail
                                go_ret
                                exact ⟨(TabE.no fun hT => by
                                  have h := (FitAt_clash.1 (hT.2 k (by have := HN.out; omega))).2 j hjk
                                  rw [← HS.out, ← HO.out, HYS.out] at h
                                  cases h), HB2.out⟩
                              ·
                                have G2A := Lib.hid g2
                                have HNO : Hid (clashAt o s = false) := Lib.hid (by unfold clashAt; have d := HQsea.out; have g := G1A.out; have g2 := G2A.out; simp at d; simp [d, g2]; omega)
                                go_wp2_with fail
                                go_roundw
                                case rel =>
                                  have hj1 : j + 1 ≤ k := hjk
                                  refine ⟨j + 1, hj1, by simp, HB2'.out, Lib.hid (fun r hr => ?_)⟩
                                  rcases Nat.lt_or_eq_of_le (Nat.le_of_lt_succ hr) with h | h
                                  · exact hC.out r h
                                  · rw [h, ← HO.out]; exact HNO.out
                                case measure =>
                                  simp [intOf]
                                  omega
                            ·
                              have G1A := Lib.hid g1
                              have g0 : s.sea < o.sea := by have := HQsea.out; simp at this; omega
                              have G0A := Lib.hid g0
                              by_cases g2 : s.wi < o.wi
                              ·
                                have G2A := Lib.hid g2
                                have HYS : Hid (clashAt o s = true) := Lib.hid (by unfold clashAt; have a := HQse.out; have b := HQob.out; have c := HQli.out; simp at a b c; simp [a, b, c, G0A.out, G2A.out])
                                go_wp2_with fail
                                go_ret
                                exact ⟨(TabE.no fun hT => by
                                  have h := (FitAt_clash.1 (hT.2 k (by have := HN.out; omega))).2 j hjk
                                  rw [← HS.out, ← HO.out, HYS.out] at h
                                  cases h), HB2.out⟩
                              ·
                                have G2A := Lib.hid g2
                                have HNO : Hid (clashAt o s = false) := Lib.hid (by unfold clashAt; have d := HQsea.out; have g := G1A.out; have g2 := G2A.out; simp at d; simp [d, g, g2])
                                go_wp2_with fail
                                go_roundw
                                case rel =>
                                  have hj1 : j + 1 ≤ k := hjk
                                  refine ⟨j + 1, hj1, by simp, HB2'.out, Lib.hid (fun r hr => ?_)⟩
                                  rcases Nat.lt_or_eq_of_le (Nat.le_of_lt_succ hr) with h | h
                                  · exact hC.out r h
                                  · rw [h, ← HO.out]; exact HNO.out
                                case measure =>
                                  simp [intOf]
                                  omega
                        ·
                          have qli : (s.li == o.li) = false := by simpa using qli
                          have HQli := Lib.hid qli
                          have HNO : Hid (clashAt o s = false) := Lib.hid (by unfold clashAt; have c := HQli.out; simp at c; simp [c])
                          go_wp2_with fail
                          go_roundw
                          case rel =>
                            have hj1 : j + 1 ≤ k := hjk
                            refine ⟨j + 1, hj1, by simp, HB2'.out, Lib.hid (fun r hr => ?_)⟩
                            rcases Nat.lt_or_eq_of_le (Nat.le_of_lt_succ hr) with h | h
                            · exact hC.out r h
                            · rw [h, ← HO.out]; exact HNO.out
                          case measure =>
                            simp [intOf]
                            omega
                      ·
                        have qob : (s.ob == o.ob) = false := by simpa using qob
                        have HQob := Lib.hid qob
                        have HNO : Hid (clashAt o s = false) := Lib.hid (by unfold clashAt; have c := HQob.out; simp at c; simp [c])
                        go_wp2_with fail
                        go_roundw
                        case rel =>
                          have hj1 : j + 1 ≤ k := hjk
                          refine ⟨j + 1, hj1, by simp, HB2'.out, Lib.hid (fun r hr => ?_)⟩
                          rcases Nat.lt_or_eq_of_le (Nat.le_of_lt_succ hr) with h | h
                          · exact hC.out r h
                          · rw [h, ← HO.out]; exact HNO.out
                        case measure =>
                          simp [intOf]
                          omega
                    ·
                      have qse : (s.se == o.se) = false := by simpa using qse
                      have HQse := Lib.hid qse
                      have HNO : Hid (clashAt o s = false) := Lib.hid (by unfold clashAt; have c := HQse.out; simp at c; simp [c])
                      go_wp2_with fail
                      go_roundw
                      case rel =>
                        have hj1 : j + 1 ≤ k := hjk
                        refine ⟨j + 1, hj1, by simp, HB2'.out, Lib.hid (fun r hr => ?_)⟩
                        rcases Nat.lt_or_eq_of_le (Nat.le_of_lt_succ hr) with h | h
                        · exact hC.out r h
                        · rw [h, ← HO.out]; exact HNO.out
                      case measure =>
                        simp [intOf]
                        omega
                  · have hjk2 : j = k := by omega
                    subst hjk2
                    have HFK : Hid (FitAt L j) := Lib.hid (FitAt_clash.2 ⟨by rw [← HS.out]; exact HOKS.out, fun r hr => by rw [← HS.out]; exact hC.out r hr⟩)
                    clear hB3
                    go_wp2_with fail
                    go_roundw
                    case rel =>
                      exact ⟨j + 1, by omega, by omega, by simp, HB3.out, Lib.hid (fun r hr => by
                        rcases Nat.lt_or_eq_of_le (Nat.le_of_lt_succ hr) with h | h
                        · exact hF.out r h
                        · rw [h]; exact HFK.out)⟩
                    case measure =>
                      simp [intOf]
                      omega
    · clear hB
      by_cases h256 : N ≤ 256
      · have hkk : k = N := by omega
        subst hkk
        have hn : ¬ (k : Int) < (k : Int) := by omega
        have h2 : (k : Int) ≤ 256 := by omega
        go_wp2_with fail
        go_ret
        exact ⟨TabE.yes ⟨by have := HN.out; omega, fun j hj => hF.out j (by have := HN.out; omega)⟩, HB.out⟩
      · have h2 : ¬ (N : Int) ≤ 256 := by omega
        have H2 := Lib.hid h256
        have hk256 : ¬ (k : Int) ≤ 256 := by omega
        by_cases hkn : k < N
        · have hkN : (k : Int) < (N : Int) := by omega
          go_wp2_with fail
          go_ret
          exact ⟨(TabE.no fun hT => by have h := hT.1; have h3 := HN.out; have h4 := H2.out; omega), HB.out⟩
        · have hkN : ¬ (k : Int) < (N : Int) := by omega
          go_wp2_with fail
          go_ret
          exact ⟨(TabE.no fun hT => by have h := hT.1; have h3 := HN.out; have h4 := H2.out; omega), HB.out⟩
end Go.Proofs.Cr
