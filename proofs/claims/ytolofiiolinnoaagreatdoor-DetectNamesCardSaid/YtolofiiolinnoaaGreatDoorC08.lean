/- Contracts of functions that the laws reach, and plain lemmas. Part 8. -/
import Derived.Defers
import Derived.Recover
import Derived.Test.YtolofiiolinnoaaGreatDoorC07
set_option linter.all false
namespace Go.Proofs.Cr

/-- A valid fraction and its value. -/
def Fr (a b : ByteArray) (q : Rat) : Prop := 0 ≤ q ∧ q.num.natAbs < 10 ^ 600 ∧ q.den < 10 ^ 600 ∧ a = numB q.num.natAbs ∧ b = numB q.den
def fits (q : Rat) : Prop := q.num.natAbs < 10 ^ 600 ∧ q.den < 10 ^ 600
/-- A value as a fraction, or the error that it does not fit. -/
def fitQ (q : Rat) : ByteArray × ByteArray × Int := if q.num.natAbs < 10 ^ 600 ∧ q.den < 10 ^ 600 then (numB q.num.natAbs, numB q.den, 0) else (⟨#[]⟩, ⟨#[]⟩, 4)
theorem natAbs_mkRat (n d : Nat) (hd : 0 < d) : (mkRat n d).num.natAbs = n / Nat.gcd n d := by
  rw [Rat.num_mkRat, if_neg (by omega)]
  rw [Int.natAbs_natCast, ← Int.natCast_ediv, Int.natAbs_natCast, Nat.gcd_comm]
theorem den_mkRat' (n d : Nat) (hd : 0 < d) : (mkRat n d).den = d / Nat.gcd n d := by
  rw [Rat.den_mkRat, if_neg (by omega), Int.natAbs_natCast, Nat.gcd_comm]
theorem partS_q (n d : Nat) (hd : 0 < d) : partS n d = fitQ (mkRat n d) := by
  unfold partS fitQ
  rw [natAbs_mkRat n d hd, den_mkRat' n d hd]
  generalize (10 : Nat) ^ 600 = B
  by_cases h : n / Nat.gcd n d < B ∧ d / Nat.gcd n d < B
  · rw [if_pos h, if_neg (by omega)]
  · rw [if_neg h, if_pos (by omega)]
theorem Fr.nvs {a b : ByteArray} {q : Rat} (h : Fr a b q) : (nv a : Int) = q.num ∧ nv b = q.den := by
  obtain ⟨h1, _, _, rfl, rfl⟩ := h
  rw [nv_numB, nv_numB]
  exact ⟨by have := Rat.num_nonneg.2 h1; omega, rfl⟩
theorem Fr.chk {a b : ByteArray} {q : Rat} (h : Fr a b q) : Cr.chk a b = true := by
  have hn := h.nvs
  obtain ⟨h1, h2, h3, rfl, rfl⟩ := h
  simp only [Cr.chk, rightB_numB, nv_numB, Bool.and_eq_true, decide_eq_true_eq]
  exact ⟨h2, h3, q.den_nz, q.reduced⟩
theorem Fr.mk {a b : ByteArray} {q : Rat} (h : Fr a b q) : mkRat (nv a) (nv b) = q := by
  rw [h.nvs.1, h.nvs.2]; exact Rat.mkRat_self q
theorem Fr.pos {a b : ByteArray} {q : Rat} (h : Fr a b q) : 0 < nv b := by rw [h.nvs.2]; exact q.den_pos
/-- The value of a fraction. -/
def qv (a b : ByteArray) : Rat := mkRat (nv a) (nv b)
theorem Fr.qv {a b : ByteArray} {q : Rat} (h : Fr a b q) : Cr.qv a b = q := h.mk
theorem fr_of_chk {a b : ByteArray} (h : chk a b = true) : Fr a b (qv a b) := by
  obtain ⟨h1, h2, h3, h4⟩ := chk_ok h
  have hd := Nat.pos_of_ne_zero h3
  have en : (qv a b).num.natAbs = nv a := by unfold qv; rw [natAbs_mkRat _ _ hd, h4, Nat.div_one]
  have ed : (qv a b).den = nv b := by unfold qv; rw [den_mkRat' _ _ hd, h4, Nat.div_one]
  refine ⟨?_, ?_, ?_, ?_, ?_⟩
  · unfold qv; rw [← Rat.divInt_ofNat]; exact Rat.divInt_nonneg (by omega) (by omega)
  · rw [en]; exact nv_lt h1
  · rw [ed]; exact nv_lt h2
  · rw [en, numB_nv h1]
  · rw [ed, numB_nv h2]
theorem fr_fit {q : Rat} (h0 : 0 ≤ q) (h : fits q) : Fr (numB q.num.natAbs) (numB q.den) q := ⟨h0, h.1, h.2, rfl, rfl⟩
theorem fitQ_yes {q : Rat} (h : fits q) : fitQ q = (numB q.num.natAbs, numB q.den, 0) := if_pos h
theorem fitQ_no {q : Rat} (h : ¬ fits q) : fitQ q = (⟨#[]⟩, ⟨#[]⟩, 4) := if_neg h
theorem Fr.inj {a b c d : ByteArray} {q : Rat} (h : Fr a b q) (k : Fr c d q) : a = c ∧ b = d := by
  obtain ⟨_, _, _, rfl, rfl⟩ := h
  obtain ⟨_, _, _, rfl, rfl⟩ := k
  exact ⟨rfl, rfl⟩
theorem Fr.fun {a b : ByteArray} {p q : Rat} (h : Fr a b p) (k : Fr a b q) : p = q := h.qv.symm.trans k.qv
section
variable {a b c d : ByteArray} {p q : Rat}
theorem lt_nat (h : Fr a b p) (k : Fr c d q) : p < q ↔ nv a * nv d < nv c * nv b := by
  rw [Rat.lt_iff, ← h.nvs.1, ← k.nvs.1, ← h.nvs.2, ← k.nvs.2]
  omega
theorem addS_q (h : Fr a b p) (k : Fr c d q) : addS a b c d = fitQ (p + q) := by
  rw [addS, twoS, if_pos ⟨h.chk, k.chk⟩, addP, partS_q _ _ (Nat.mul_pos h.pos k.pos), Rat.add_def', ← h.nvs.1, ← k.nvs.1, ← h.nvs.2, ← k.nvs.2]
  congr 1
theorem mulS_q (h : Fr a b p) (k : Fr c d q) : mulS a b c d = fitQ (p * q) := by
  rw [mulS, twoS, if_pos ⟨h.chk, k.chk⟩, mulP, partS_q _ _ (Nat.mul_pos h.pos k.pos), Rat.mul_def', ← h.nvs.1, ← k.nvs.1, ← h.nvs.2, ← k.nvs.2]
  congr 1
theorem subS_q (h : Fr a b p) (k : Fr c d q) : subS a b c d = if p < q then (⟨#[]⟩, ⟨#[]⟩, 11) else fitQ (p - q) := by
  rw [subS, twoS, if_pos ⟨h.chk, k.chk⟩, subP]
  by_cases hl : p < q
  · rw [if_pos hl, if_pos ((lt_nat h k).1 hl)]
  · have hn : ¬ (nv a * nv d < nv c * nv b) := fun x => hl ((lt_nat h k).2 x)
    rw [if_neg hl, if_neg hn, partS_q _ _ (Nat.mul_pos h.pos k.pos), Rat.sub_def', ← h.nvs.1, ← k.nvs.1, ← h.nvs.2, ← k.nvs.2]
    congr 2
    omega
theorem divS_q (h : Fr a b p) (k : Fr c d q) : divS a b c d = if q = 0 then (⟨#[]⟩, ⟨#[]⟩, 10) else fitQ (p / q) := by
  rw [divS, twoS, if_pos ⟨h.chk, k.chk⟩, divP]
  have hz : q = 0 ↔ nv c = 0 := by
    rw [← Rat.num_eq_zero, ← k.nvs.1]; omega
  by_cases hq : q = 0
  · rw [if_pos hq, if_pos (hz.1 hq)]
  · have hc := fun x => hq (hz.2 x)
    rw [if_neg hq, if_neg hc, partS_q _ _ (Nat.mul_pos h.pos (Nat.pos_of_ne_zero hc))]
    congr 1
    have e1 : p = Rat.divInt (nv a : Int) (nv b : Int) := by rw [Rat.divInt_ofNat]; exact h.mk.symm
    rw [Rat.div_def, Rat.inv_def, e1, Rat.divInt_mul_divInt, ← k.nvs.1, ← k.nvs.2, ← Int.natCast_mul, ← Int.natCast_mul, Rat.divInt_ofNat]
theorem cmpS_q (h : Fr a b p) (k : Fr c d q) : cmpS a b c d = if p < q then -1 else if q < p then 1 else 0 := by
  rw [cmpS, if_pos ⟨h.chk, k.chk⟩, cmpN]
  have e1 := lt_nat h k
  have e2 := lt_nat k h
  by_cases hl : p < q
  · rw [if_pos hl, if_pos (e1.1 hl)]
  · rw [if_neg hl, if_neg (fun x => hl (e1.2 x))]
    by_cases hr : q < p
    · rw [if_pos hr, if_pos (e2.1 hr)]
    · rw [if_neg hr, if_neg (fun x => hr (e2.2 x))]
end
end Go.Proofs.Cr
namespace Go.Proofs.Cr
open Go.RowKit Go.Shelf
attribute [local go_sem] Oper.semAt_some

theorem itoa_any (n : Nat) (hn : n < 9223372036854775808) (w : World) (hT : TabW w) :
    Calls Tryz.prog 50 #[.int .i64 (n : Int)] w fun e w' => e = .returned (.string (numB n)) ∧ Below w.heap.size w w' := by
  refine (Tryz.strconv_Itoa n (by omega) (by omega) w hT).mono ?_
  rintro e w' ⟨rfl, k, os, rfl⟩
  refine ⟨?_, grow_below w k os⟩
  rw [Lib.itoa_nonneg]
  rfl
theorem pow19_le {k : Nat} (hk : 19 ≤ k) : (9223372036854775808 : Nat) < 10 ^ k :=
  Nat.lt_of_lt_of_le (by decide : (9223372036854775808 : Nat) < 10 ^ 19) (Nat.pow_le_pow_right (by decide) hk)
theorem pow19_lt : (9223372036854775808 : Nat) < 10 ^ 600 := pow19_le (k := 600) (by decide)
def makeS (a b : ByteArray) : ByteArray × ByteArray × Int := if nv b = 0 then (⟨#[]⟩, ⟨#[]⟩, 10) else partS (nv a) (nv b)
set_option maxRecDepth 100000 in
set_option maxHeartbeats 1000000 in
theorem make_any (a b : ByteArray) (w : World) (ha : rightB a = true) (hb : rightB b = true) (hT : TabW w) :
    Calls Tryz.prog 114 #[.string a, .string b] w (PartPost (makeS a b) w) := by
  have hR1 := Blk.new w #[.string ⟨#[]⟩, .string ⟨#[]⟩] 46
  have HW1 := Lib.hid (below_alloc w (.cells #[.string ⟨#[]⟩, .string ⟨#[]⟩] 46))
  have RA := Lib.hid (fun W => right_any a W)
  have RB := Lib.hid (fun W => right_any b W)
  rw [ha] at RA
  rw [hb] at RB
  have OA := Lib.hid (fun W => of_any' a W (rightB_ok ha).1.2.1 (Nat.le_trans (rightB_ok ha).2 (by decide)))
  have OB := Lib.hid (fun W => of_any' b W (rightB_ok hb).1.2.1 (Nat.le_trans (rightB_ok hb).2 (by decide)))
  have LL := Lib.hid (And.intro (limbs_of_right ha) (limbs_of_right hb))
  have HT := Lib.hid hT
  have hbz : (b.toList == [48]) = decide (nv b = 0) := zero_eq hb
  unfold makeS
  by_cases hz : nv b = 0
  · rw [if_pos hz]
    have e0 : (b.toList == [48]) = true := by rw [hbz]; simp [hz]
    clear ha hb hT hbz hz OA OB LL
    go_enter Tryz.func114, Tryz.ntmps114
    go_wp2_with fail
    refine (RA.out _).mono ?_; rintro e w2 ⟨rfl, hb2⟩; have hR2 := hR1.pass hb2; have HB2 := Lib.hid (HW1.out.trans (hb2.mono HW1.out.size)); clear hb2 hR1
    go_wp2_with fail
    refine (RB.out _).mono ?_; rintro e w3 ⟨rfl, hb3⟩; have hR3 := hR2.pass hb3; have HB3 := Lib.hid (HB2.out.trans (hb3.mono HB2.out.size)); clear hb3 hR2
    obtain ⟨⟨r0, r1⟩, f0, f1⟩ := hR3.two
    go_wp2_with fail
    refine bodyPost_ret (results_ct (g := w.heap.size) rfl rfl ((hR3.set 0 _).set 1 _) Tryz.underlying46 rfl (by kernel_rfl)) rfl ?_
    exact ⟨by simp [pv], (HB3.out.setCell (by simp) _).setCell (by simp) _⟩
  · rw [if_neg hz]
    have e0 : (b.toList == [48]) = false := by rw [hbz]; simp [hz]
    have HZ := Lib.hid (Nat.pos_of_ne_zero hz)
    generalize hp : partS (nv a) (nv b) = p
    have HP := Lib.hid hp
    obtain ⟨p1, p2, p3⟩ := p
    clear ha hb hT hbz hz hp
    go_enter Tryz.func114, Tryz.ntmps114
    go_wp2_with fail
    refine (RA.out _).mono ?_; rintro e w2 ⟨rfl, hb2⟩; have hR2 := hR1.pass hb2; have HB2 := Lib.hid (HW1.out.trans (hb2.mono HW1.out.size)); clear hb2 hR1
    go_wp2_with fail
    refine (RB.out _).mono ?_; rintro e w3 ⟨rfl, hb3⟩; have hR3 := hR2.pass hb3; have HB3 := Lib.hid (HB2.out.trans (hb3.mono HB2.out.size)); clear hb3 hR2
    go_wp2_with fail
    refine (OA.out _).mono ?_; rintro e w4 ⟨A1, l1, c1, rfl, hl1, ho1, hb4⟩; have hR4 := hR3.pass hb4; have HB4 := Lib.hid (HB3.out.trans (hb4.mono HB3.out.size)); have N1 := Lib.hid (NumV.of_owns ho1 (by have := LL.out.1; omega)); clear hb4 hR3 ho1 hl1
    go_wp2_with fail
    refine (OB.out _).mono ?_; rintro e w5 ⟨A2, l2, c2, rfl, hl2, ho2, hb5⟩; have hR5 := hR4.pass hb5; have HB5 := Lib.hid (HB4.out.trans (hb5.mono HB4.out.size)); have N2 := Lib.hid (NumV.of_owns ho2 (by have := LL.out.2; omega)); have N1' := Lib.hid (N1.out.pass hb5); clear hb5 hR4 ho2 hl2
    have TP := Lib.hid (part_any _ _ _ _ w5 N1'.out N2.out (by have := LL.out.1; omega) (by have := LL.out.2; omega) HZ.out (HT.out.below HB5.out (Nat.le_refl _)))
    rw [HP.out] at TP
    go_wp2_with fail
    refine TP.out.mono ?_; rintro e w6 ⟨he, hb6⟩; simp only [pv] at he; subst he; have hR6 := hR5.pass hb6; have HB6 := Lib.hid (HB5.out.trans (hb6.mono HB5.out.size)); clear hb6 hR5
    obtain ⟨⟨r0, r1⟩, f0, f1⟩ := hR6.two
    go_wp2_with fail
    refine bodyPost_ret (results_ct (g := w.heap.size) rfl rfl ((hR6.set 0 _).set 1 _) Tryz.underlying46 rfl (by kernel_rfl)) rfl ?_
    exact ⟨by simp [pv], (HB6.out.setCell (by simp) _).setCell (by simp) _⟩
/-- 'weight.Of'. -/
theorem natOf_any (n : Nat) (hn : n < 9223372036854775808) (w : World) (hT : TabW w) :
    Calls Tryz.prog 113 #[.int .i64 (n : Int)] w fun e w' => e = .returned (.tuple #[.string (numB n), .int .i64 0]) ∧ Below w.heap.size w w' := by
  have TI := Lib.hid (itoa_any n hn w hT)
  have h0 : ((n : Int) < 0) = False := by simp
  clear hT hn
  go_enter Tryz.func113, Tryz.ntmps113
  go_wp2_with fail
  refine TI.out.mono ?_; rintro e w2 ⟨rfl, hb2⟩
  go_wp2_with fail
  go_ret2
  exact ⟨rfl, hb2⟩
def ratioS (x y : Nat) : ByteArray × ByteArray × Int := if y = 0 then (⟨#[]⟩, ⟨#[]⟩, 10) else partS x y
theorem right_small {n : Nat} (hn : n < 9223372036854775808) : rightB (numB n) = true := by
  rw [rightB_numB, decide_eq_true_eq]
  exact Nat.lt_trans hn pow19_lt
set_option maxRecDepth 100000 in
set_option maxHeartbeats 1000000 in
/-- 'weight.Ratio'. -/
theorem ratio_any (x y : Nat) (hx : x < 9223372036854775808) (hy : y < 9223372036854775808) (w : World) (hT : TabW w) :
    Calls Tryz.prog 72 #[.int .i64 (x : Int), .int .i64 (y : Int)] w (PartPost (ratioS x y) w) := by
  have hR1 := Blk.new w #[.string ⟨#[]⟩, .string ⟨#[]⟩] 46
  have HW1 := Lib.hid (below_alloc w (.cells #[.string ⟨#[]⟩, .string ⟨#[]⟩] 46))
  have OX := Lib.hid (fun W h => natOf_any x hx W h)
  have OY := Lib.hid (fun W h => natOf_any y hy W h)
  have MK := Lib.hid (fun W h => make_any (numB x) (numB y) W (right_small hx) (right_small hy) h)
  have HT := Lib.hid hT
  rw [show makeS (numB x) (numB y) = ratioS x y by unfold makeS ratioS; rw [nv_numB, nv_numB]] at MK
  generalize ratioS x y = p at MK ⊢
  obtain ⟨p1, p2, p3⟩ := p
  clear hT hx hy
  go_enter Tryz.func72, Tryz.ntmps72
  go_wp2_with fail
  refine (OX.out _ (HT.out.below HW1.out (Nat.le_refl _))).mono ?_; rintro e w2 ⟨rfl, hb2⟩; have hR2 := hR1.pass hb2; have HB2 := Lib.hid (HW1.out.trans (hb2.mono HW1.out.size)); clear hb2 hR1
  go_wp2_with fail
  refine (OY.out _ (HT.out.below HB2.out (Nat.le_refl _))).mono ?_; rintro e w3 ⟨rfl, hb3⟩; have hR3 := hR2.pass hb3; have HB3 := Lib.hid (HB2.out.trans (hb3.mono HB2.out.size)); clear hb3 hR2
  go_wp2_with fail
  refine (MK.out _ (HT.out.below HB3.out (Nat.le_refl _))).mono ?_; rintro e w4 ⟨he, hb4⟩; simp only [pv] at he; subst he; have hR4 := hR3.pass hb4; have HB4 := Lib.hid (HB3.out.trans (hb4.mono HB3.out.size)); clear hb4 hR3
  obtain ⟨⟨r0, r1⟩, f0, f1⟩ := hR4.two
  go_wp2_with fail
  refine bodyPost_ret (results_ct (g := w.heap.size) rfl rfl ((hR4.set 0 _).set 1 _) Tryz.underlying46 rfl (by kernel_rfl)) rfl ?_
  exact ⟨by simp [pv], (HB4.out.setCell (by simp) _).setCell (by simp) _⟩
theorem mkRat_fits (x y : Nat) (hx : x < 9223372036854775808) (hy : y < 9223372036854775808) : fits (mkRat x y) := by
  by_cases h : y = 0
  · subst h
    rw [Rat.mkRat_zero]
    exact ⟨Nat.lt_trans (by decide : (0 : Rat).num.natAbs < 9223372036854775808) pow19_lt, Nat.lt_trans (by decide : (0 : Rat).den < 9223372036854775808) pow19_lt⟩
  · have hp := Nat.pos_of_ne_zero h
    unfold fits
    rw [natAbs_mkRat _ _ hp, den_mkRat' _ _ hp]
    exact ⟨Nat.lt_of_le_of_lt (Nat.div_le_self _ _) (Nat.lt_trans hx pow19_lt), Nat.lt_of_le_of_lt (Nat.div_le_self _ _) (Nat.lt_trans hy pow19_lt)⟩
theorem ratioS_q (x y : Nat) (hx : x < 9223372036854775808) (hy : y < 9223372036854775808) (h0 : 0 < y) : ratioS x y = (numB (mkRat x y).num.natAbs, numB (mkRat x y).den, 0) := by
  rw [ratioS, if_neg (by omega), partS_q _ _ h0, fitQ_yes (mkRat_fits x y hx hy)]
theorem mkRat_nonneg (x y : Nat) : 0 ≤ mkRat x y := by rw [← Rat.divInt_ofNat]; exact Rat.divInt_nonneg (by omega) (by omega)
theorem ratio_fr (x y : Nat) (hx : x < 9223372036854775808) (hy : y < 9223372036854775808) : Fr (numB (mkRat x y).num.natAbs) (numB (mkRat x y).den) (mkRat x y) := fr_fit (mkRat_nonneg x y) (mkRat_fits x y hx hy)
end Go.Proofs.Cr
namespace Go.Proofs.Cr
open Go.RowKit Go.Shelf
attribute [local go_sem] Oper.semAt_some

def mis (e : Int) : List PanicEntry := [{ v := .iface 133 (.agg #[.int .i64 e]), recovered := false }]
set_option maxRecDepth 100000 in
set_option maxHeartbeats 1000000 in
theorem must_ok (a b : ByteArray) (w : World) :
    Calls Tryz.prog 77 #[.agg #[.string a, .string b], .int .i64 0] w fun e w' => e = .returned (.agg #[.string a, .string b]) ∧ Below w.heap.size w w' := by
  obtain ⟨hA1, hR1, hW1⟩ := two_new w #[.string a, .string b] #[.string ⟨#[]⟩, .string ⟨#[]⟩] 46 46
  obtain ⟨_, hR2, hW2⟩ := two_new w #[.string a, .string b] #[.string a, .string b] 46 46
  have HW2 := Lib.hid hW2
  have HR2 := Lib.hid hR2
  obtain ⟨⟨x0, x1⟩, _, _⟩ := hA1.two
  obtain ⟨⟨r0, r1⟩, f0, f1⟩ := hR1.two
  clear hW1 hW2 hR2
  go_enter Tryz.func77, Tryz.ntmps77
  go_wp2_with fail
  refine bodyPost_ret (results_c1 (g := w.heap.size + 1) rfl rfl HR2.out Tryz.underlying46 rfl (by kernel_rfl)) rfl ?_
  exact ⟨rfl, HW2.out⟩
set_option maxRecDepth 100000 in
set_option maxHeartbeats 1000000 in
theorem must_err (a b : ByteArray) (x : Int) (hx : x ≠ 0) (w : World) :
    Calls Tryz.prog 77 #[.agg #[.string a, .string b], .int .i64 x] w fun e w' => e = .panicked (mis x) ∧ Below w.heap.size w w' := by
  obtain ⟨hA1, hR1, hW1⟩ := two_new w #[.string a, .string b] #[.string ⟨#[]⟩, .string ⟨#[]⟩] 46 46
  have HW1 := Lib.hid hW1
  have h0 : (x != 0) = true := by simp [hx]
  clear hW1 hx
  go_enter Tryz.func77, Tryz.ntmps77
  go_wp2_with fail
  exact ⟨rfl, rfl, HW1.out⟩
theorem tmps112 (x y v : Value) : (#[x, y] ++ ((Array.replicate 16 undef).setIfInBounds 3 v).setIfInBounds 0 v : Array Value) = #[x, y, v, undef, undef, v, undef, undef, undef, undef, undef, undef, undef, undef, undef, undef, undef, undef] := by kernel_rfl
set_option maxRecDepth 100000 in
set_option maxHeartbeats 1000000 in
theorem tried1_idle (p q : Addr) (w : World) :
    CallsD Tryz.prog 112 #[.pointer (some p), .pointer (some q)] .returning w fun e u' w' => e = .returned (.tuple #[]) ∧ u' = .returning ∧ Below w.heap.size w w' := by
  refine callsD_of_wpS Tryz.func112 rfl fun c₀ cs hu => ?_
  apply wpS_seq
  apply wpS_region
  simp [wpOpsS, go_sem, recoverD, hu, Tryz.ntmps112, Exit.thenS]
  refine wpS_of_wp ?_
  rw [tmps112]
  have ha1 : ∀ w : World, (Instr.typeAssert .nilIface 20 133 true).run Tryz.prog w = .ok (.tuple #[.agg #[.int .i64 0], .bool false]) w := fun _ => by kernel_rfl
  go_wp2_with fail
  refine ⟨rfl, .returning, ?_, .tuple #[], by simp [results, Tryz.f112], rfl, rfl, below_alloc _ _⟩
  rw [← hu]
set_option maxRecDepth 100000 in
set_option maxHeartbeats 1000000 in
theorem tried1_caught (b2 b3 n : Nat) (x y z : Value) (e : Int) (older : List PanicEntry) (w : World) (h2 : Blk w b2 #[x, y] 46) (h3 : Blk w b3 #[z] 24) (hn2 : n ≤ b2) (hn3 : n ≤ b3) (h23 : b2 ≠ b3) :
    CallsD Tryz.prog 112 #[.pointer (some ⟨b2, 0, none⟩), .pointer (some ⟨b3, 0, none⟩)] (.panicking ({ v := .iface 133 (.agg #[.int .i64 e]), recovered := false } :: older)) w fun en u' w' =>
      en = .returned (.tuple #[]) ∧ u' = .panicking ({ v := .iface 133 (.agg #[.int .i64 e]), recovered := true } :: older) ∧ Blk w' b2 #[.string ⟨#[]⟩, .string ⟨#[]⟩] 46 ∧ Blk w' b3 #[.int .i64 e] 24 ∧ Below n w w' := by
  refine callsD_of_wpS Tryz.func112 rfl fun c₀ cs hu => ?_
  apply wpS_seq
  apply wpS_region
  simp [wpOpsS, go_sem, recoverD, hu, Tryz.ntmps112, Exit.thenS]
  refine wpS_of_wp ?_
  rw [tmps112]
  have ha2 : ∀ w : World, (Instr.typeAssert (.iface 133 (.agg #[.int .i64 e])) 20 133 true).run Tryz.prog w = .ok (.tuple #[.agg #[.int .i64 e], .bool true]) w := fun _ => by kernel_rfl
  go_wp2_with fail
  have hm : Tryz.prog.follows .mixedOrders = true := by kernel_rfl
  have hfnR : ∀ f, Fence.wide.fn f := fun _ => trivial
  have l2 := h2.lt
  have l3 := h3.lt
  have k2 : Blk (w.alloc (.cells #[.int .i64 e] 133)).drew b2 #[x, y] 46 := (h2.alloc _).drew
  have k3 : Blk (w.alloc (.cells #[.int .i64 e] 133)).drew b3 #[z] 24 := (h3.alloc _).drew
  have HB := Lib.hid ((below_alloc w (.cells #[.int .i64 e] 133)).drew.mono (Nat.le_of_lt (Nat.lt_of_le_of_lt hn2 l2)))
  refine wp_region_J (fun W => W.cell? ⟨w.heap.size, 0, none⟩ = some (.int .i64 e)) [] hm ?hCells0 (fun hCells => ?_)
  case hCells0 => exact ((Blk.new w #[.int .i64 e] 133).cell 0)
  refine takeJ hfnR (by kernel_rfl) 0 (v := ?_) rfl (by kernel_rfl) (fun _ _ _ h => h) (by kernel_rfl) hCells (Or.inl ⟨by rfl, ?_⟩) ?_
  rotate_left 1
  · intro w hSw; (try dsimp only at hSw); go_simp; (try with_reducible rfl)
  try simp only [Act.put, List.setIfInBounds_toArray, List.set_cons_zero, List.set_cons_succ]
  refine takeJ hfnR (by kernel_rfl) 1 (v := ?_) rfl (by kernel_rfl) (fun _ _ _ h => h) (by kernel_rfl) hCells (Or.inl ⟨by rfl, ?_⟩) ?_
  rotate_left 1
  · intro w hSw; (try dsimp only at hSw); go_simp; (try with_reducible rfl)
  try simp only [Act.put, List.setIfInBounds_toArray, List.set_cons_zero, List.set_cons_succ]
  refine takeJ hfnR (by kernel_rfl) 2 (v := ?_) rfl (by kernel_rfl) (fun _ _ _ h => h) (by kernel_rfl) hCells (Or.inl ⟨by rfl, ?_⟩) ?_
  rotate_left 1
  · intro w hSw; (try dsimp only at hSw); go_simp; (try with_reducible rfl)
  try simp only [Act.put, List.setIfInBounds_toArray, List.set_cons_zero, List.set_cons_succ]
  obtain ⟨⟨r0, r1⟩, f0, f1⟩ := k2.two
  have f3 := k3.free 0
  have r3 : (w.alloc (.cells #[.int .i64 e] 133)).drew.cell? ⟨b3, 0, none⟩ = some z := k3.cell 0
  generalize (w.alloc (.cells #[.int .i64 e] 133)).drew = W at *
  refine oneJ 3 (by kernel_rfl) rfl (fun K hK => ?_)
  go_simp
  refine hK.out _ _ (holdJ ?_ (fun hCells => ?_))
  · clear hK; (try dsimp only); (exact far2 hCells (by omega))
  clear hK K
  try simp only [Act.put, List.setIfInBounds_toArray, List.set_cons_zero, List.set_cons_succ]
  refine oneJ 4 (by kernel_rfl) rfl (fun K hK => ?_)
  go_simp
  refine hK.out _ _ (holdJ ?_ (fun hCells => ?_))
  · clear hK; (try dsimp only); (exact (World.cell?_setCell_other _ _ _ _ (by simp <;> omega)).trans hCells)
  clear hK K
  try simp only [Act.put, List.setIfInBounds_toArray, List.set_cons_zero, List.set_cons_succ]
  refine wpAnyJ_done (by kernel_rfl) (NoPan.normal ?_) _
  refine ⟨rfl, _, rfl, .tuple #[], by simp [results, Tryz.f112], rfl, rfl, ((k2.set 0 _).set 1 _).far (by simp <;> omega) _, ((k3.far (by simp <;> omega) _).far (by simp <;> omega) _).set 0 _, ((HB.out.setCell (by simp <;> omega) _).setCell (by simp <;> omega) _).setCell (by simp <;> omega) _⟩
end Go.Proofs.Cr
namespace Go.Proofs.Cr
open Go.RowKit Go.Shelf
attribute [local go_sem] Oper.semAt_some

/-- What a tried closure does: a fraction, or the panic that says why there is none. -/
def TryPost (p : ByteArray × ByteArray × Int) (W : World) (e : Ending) (w' : World) : Prop :=
  ((e = .returned (.agg #[.string p.1, .string p.2.1]) ∧ p.2.2 = 0) ∨ (e = .panicked (mis p.2.2) ∧ p.1 = ⟨#[]⟩ ∧ p.2.1 = ⟨#[]⟩)) ∧ Below W.heap.size W w'
theorem load24 {w : World} {g : Nat} {x : Value} {t : TypeId} (h : Blk w g #[x] t) : (loadVar 24 ⟨g, 0, none⟩).run Tryz.prog w = .ok x w := by
  have := h.cell 0
  have e : w.cell? ⟨g, 0, none⟩ = some x := this
  simp [loadVar, go_sem, e]
theorem results_cc {P : Program} {fn : Func} {p q : Tmp} {ty : TypeId} {tmps : Array Value} {w : World} {g g2 : Nat} {t : TypeId} {cs : Array Value} {x : Value} {d : TypeDesc} (h : fn.results = #[.cell p ty, .cell q 24])
    (hp : tmps.getD p undef = .pointer (some ⟨g, 0, none⟩)) (hg : Blk w g cs t) (hq : tmps.getD q undef = .pointer (some ⟨g2, 0, none⟩))
    (hu : P.underlying ty = some d) (hd : (match d with | .struct _ | .array _ _ => true | _ => false) = true) (hi : (P.info? ty).map (·.size) = some cs.size)
    (hl : (loadVar 24 ⟨g2, 0, none⟩).run P w = .ok x w) :
    (results fn tmps).run P w = .ok (.tuple #[.agg cs, x]) w := by
  have hp' : tmps[p]?.getD undef = .pointer (some ⟨g, 0, none⟩) := by simpa using hp
  have hq' : tmps[q]?.getD undef = .pointer (some ⟨g2, 0, none⟩) := by simpa using hq
  simp [results, h, hp', hq', asAddr, run_loadVar_row w g t ty cs (0, 0) d hg hu hd hi, hl]
set_option maxRecDepth 100000 in
set_option maxHeartbeats 1000000 in
theorem tried_any (K : Nat) (caps : Array Value) (p : ByteArray × ByteArray × Int) (w : World) (eK : ∀ args w, (callFunc K args).run Tryz.prog w = .ok (.enter K args) w)
    (hC : ∀ W, Below w.heap.size w W → Calls Tryz.prog K caps W (TryPost p W)) :
    Calls Tryz.prog 68 #[.func (.func K) #[] caps] w (PartPost p w) := by
  obtain ⟨hA1, hB1, hW1⟩ := two_new w #[.string ⟨#[]⟩, .string ⟨#[]⟩] #[.int .i64 0] 46 24
  have hmf : ∀ (fn : Fn) (first cap : Array Value) (w : World), (Instr.makeFunc fn first cap).run Tryz.prog w = .ok (.func fn first cap) w := fun _ _ _ _ => rfl
  have HC := Lib.hid (hC _ hW1)
  have HW1 := Lib.hid hW1
  obtain ⟨p1, p2, p3⟩ := p
  clear hC hW1
  go_enter_defers Tryz.func68, Tryz.ntmps68
  go_wp2_with fail
  refine HC.out.mono ?_
  rintro e w2 ⟨⟨rfl, h0⟩ | ⟨rfl, h1, h2⟩, hb2⟩
  · have hA2 := hA1.pass hb2
    have hB2 := hB1.pass hb2
    have HB2 := Lib.hid (HW1.out.trans (hb2.mono HW1.out.size))
    have h0 : p3 = 0 := h0
    subst h0
    clear hb2 hA1 hB1
    obtain ⟨⟨r0, r1⟩, f0, f1⟩ := hA2.two
    have r2 : w2.cell? ⟨w.heap.size + 1, 0, none⟩ = some (.int .i64 0) := hB2.cell 0
    have f2 := hB2.free 0
    go_wp2_with fail
    refine leaves_cons (f := 112) (args := #[.pointer (some ⟨w.heap.size, 0, none⟩), .pointer (some ⟨w.heap.size + 1, 0, none⟩)]) (by simp) (by simp [go_sem]) ?_
    refine (tried1_idle _ _ _).mono ?_
    rintro e u' w'' ⟨rfl, rfl, hb3⟩
    have hA3 := (((hA2.set 0 (.string p1)).set 1 (.string p2)).far (p := ⟨w.heap.size + 1, 0, none⟩) (by simp) (.int .i64 0)).pass hb3
    have hB3 := (((hB2.far (p := ⟨w.heap.size, 0, none⟩) (by simp) (.string p1)).far (p := ⟨w.heap.size, 1, none⟩) (by simp) (.string p2)).set 0 (.int .i64 0)).pass hb3
    have HB3 := (((HB2.out.setCell (p := ⟨w.heap.size, 0, none⟩) (by simp) (.string p1)).setCell (p := ⟨w.heap.size, 1, none⟩) (by simp) (.string p2)).setCell (p := ⟨w.heap.size + 1, 0, none⟩) (by simp) (.int .i64 0))
    refine ⟨_, results_cc (g := w.heap.size) (g2 := w.heap.size + 1) rfl rfl hA3 rfl Tryz.underlying46 rfl (by kernel_rfl) (load24 hB3), rfl, HB3.trans (hb3.mono HB3.size)⟩
  · have h1 : p1 = ⟨#[]⟩ := h1
    have h2 : p2 = ⟨#[]⟩ := h2
    subst h1
    subst h2
    have hA2 := hA1.pass hb2
    have hB2 := hB1.pass hb2
    have HB2 := Lib.hid (HW1.out.trans (hb2.mono HW1.out.size))
    refine leaves_cons (f := 112) (args := #[.pointer (some ⟨w.heap.size, 0, none⟩), .pointer (some ⟨w.heap.size + 1, 0, none⟩)]) (by simp) (by simp [go_sem]) ?_
    refine (tried1_caught w.heap.size (w.heap.size + 1) w.heap.size _ _ _ p3 [] w2 hA2 hB2 (by omega) (by omega) (by omega)).mono ?_
    rintro e u' w'' ⟨rfl, rfl, hA3, hB3, hb3⟩
    refine ⟨_, results_cc (g := w.heap.size) (g2 := w.heap.size + 1) rfl rfl hA3 rfl Tryz.underlying46 rfl (by kernel_rfl) (load24 hB3), rfl, HB2.out.trans hb3⟩
end Go.Proofs.Cr
namespace Go.Proofs.Cr
open Go.RowKit Go.Shelf
attribute [local go_sem] Oper.semAt_some

/-- The strings of a value. -/
def qN (q : Rat) : ByteArray := numB q.num.natAbs
def qD (q : Rat) : ByteArray := numB q.den
def okQ (q : Rat) : Prop := 0 ≤ q ∧ fits q
theorem okQ.fr {q : Rat} (h : okQ q) : Fr (qN q) (qD q) q := fr_fit h.1 h.2
theorem Fr.ok {a b : ByteArray} {q : Rat} (h : Fr a b q) : okQ q ∧ a = qN q ∧ b = qD q := ⟨⟨h.1, h.2.1, h.2.2.1⟩, h.2.2.2.1, h.2.2.2.2⟩
def GotQ (q : Rat) (w : World) (e : Ending) (w' : World) : Prop := e = .returned (.tuple #[.agg #[.string (qN q), .string (qD q)], .int .i64 0]) ∧ Below w.heap.size w w'
theorem got_of {q : Rat} {w : World} {e : Ending} {w' : World} (hq : okQ q) (h : PartPost (fitQ q) w e w') : GotQ q w e w' := by
  rw [fitQ_yes hq.2] at h
  exact h
theorem add_q (p q : Rat) (hp : okQ p) (hq : okQ q) (hr : okQ (p + q)) {w : World} (hT : TabW w) :
    Calls Tryz.prog 27 #[.agg #[.string (qN p), .string (qD p)], .agg #[.string (qN q), .string (qD q)]] w (GotQ (p + q) w) := by
  refine (add_any _ _ _ _ w hT).mono ?_
  rw [addS_q hp.fr hq.fr]
  exact fun e w' h => got_of hr h
theorem mul_q (p q : Rat) (hp : okQ p) (hq : okQ q) (hr : okQ (p * q)) {w : World} (hT : TabW w) :
    Calls Tryz.prog 29 #[.agg #[.string (qN p), .string (qD p)], .agg #[.string (qN q), .string (qD q)]] w (GotQ (p * q) w) := by
  refine (mul_any _ _ _ _ w hT).mono ?_
  rw [mulS_q hp.fr hq.fr]
  exact fun e w' h => got_of hr h
theorem sub_q (p q : Rat) (hp : okQ p) (hq : okQ q) (hr : okQ (p - q)) {w : World} (hT : TabW w) :
    Calls Tryz.prog 41 #[.agg #[.string (qN p), .string (qD p)], .agg #[.string (qN q), .string (qD q)]] w (GotQ (p - q) w) := by
  refine (sub_any _ _ _ _ w hT).mono ?_
  rw [subS_q hp.fr hq.fr, if_neg (by have := hr.1; rw [← Rat.le_iff_sub_nonneg] at this; exact Rat.not_lt.2 this)]
  exact fun e w' h => got_of hr h
theorem div_q (p q : Rat) (hp : okQ p) (hq : okQ q) (h0 : q ≠ 0) (hr : okQ (p / q)) {w : World} (hT : TabW w) :
    Calls Tryz.prog 104 #[.agg #[.string (qN p), .string (qD p)], .agg #[.string (qN q), .string (qD q)]] w (GotQ (p / q) w) := by
  refine (div_any _ _ _ _ w hT).mono ?_
  rw [divS_q hp.fr hq.fr, if_neg h0]
  exact fun e w' h => got_of hr h
theorem not_q (q : Rat) (hq : okQ q) (hr : okQ (1 - q)) {w : World} (hT : TabW w) :
    Calls Tryz.prog 93 #[.agg #[.string (qN q), .string (qD q)]] w (GotQ (1 - q) w) := by
  refine (not_any _ _ w hT).mono ?_
  have h1 : okQ 1 := ⟨by decide, Nat.lt_trans (by decide : (1 : Rat).num.natAbs < 9223372036854775808) pow19_lt, Nat.lt_trans (by decide : (1 : Rat).den < 9223372036854775808) pow19_lt⟩
  have e1 : (⟨#[49]⟩ : ByteArray) = qN 1 := by kernel_rfl
  have e2 : (⟨#[49]⟩ : ByteArray) = qD 1 := by kernel_rfl
  rw [show notS (qN q) (qD q) = subS (qN 1) (qD 1) (qN q) (qD q) by rw [← e1, ← e2]; rfl]
  rw [subS_q h1.fr hq.fr, if_neg (by have := hr.1; rw [← Rat.le_iff_sub_nonneg] at this; exact Rat.not_lt.2 this)]
  exact fun e w' h => got_of hr h
def cmpQ (p q : Rat) : Int := if p < q then -1 else if q < p then 1 else 0
theorem cmp_q (p q : Rat) (hp : okQ p) (hq : okQ q) (w : World) :
    Calls Tryz.prog 31 #[.agg #[.string (qN p), .string (qD p)], .agg #[.string (qN q), .string (qD q)]] w fun e w' => e = .returned (.int .i64 (cmpQ p q)) ∧ Below w.heap.size w w' := by
  refine (compare_any _ _ _ _ w).mono ?_
  rw [cmpS_q hp.fr hq.fr]
  exact fun e w' h => h
end Go.Proofs.Cr
