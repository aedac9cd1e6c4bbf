/- Contracts of functions that the laws reach, and plain lemmas. Part 14. -/
import Derived.Maps.Keyed
import Derived.Maps.AppendAt
import Derived.DeepKeys4
import Derived.Test.YtolofiiolinnoaaGreatDoorC13
set_option linter.all false
/- Plain: valid tables of sweep widths, groups of rows of one kind, and the least row. -/
namespace Go.Proofs.Cr

/-- A row of a table: sensor, object, light, sea, width. -/
structure Sg where
  se : Int
  ob : Int
  li : Int
  sea : Int
  wi : Int
deriving DecidableEq
def Sg.z : Sg := ⟨0, 0, 0, 0, 0⟩
/-- What a row is of. -/
def key3 (s : Sg) : Int × Int × Int := (s.se, s.ob, s.li)
def okK (κ : Int × Int × Int) : Bool := inB κ.1 0 63 && (inB κ.2.1 0 63 && inB κ.2.2 0 63)
def okS (s : Sg) : Bool := okK (key3 s) && (inB s.sea 0 9 && inB s.wi 0 100000)
def clashS (a b : Sg) : Bool := decide (0 < (a.sea - b.sea) * (a.wi - b.wi)) || decide (a.sea = b.sea)
/-- A row fits those before it. -/
def FitAt (L : List Sg) (k : Nat) : Prop := okS (L.getD k .z) = true ∧ ∀ j, j < k → key3 (L.getD j .z) = key3 (L.getD k .z) → clashS (L.getD k .z) (L.getD j .z) = false
/-- A valid table. -/
def TableP (L : List Sg) : Prop := L.length ≤ 256 ∧ ∀ k, k < L.length → FitAt L k
/-- The rows of one kind among the first k. -/
def grpL (L : List Sg) (k : Nat) (κ : Int × Int × Int) : List Sg := (L.take k).filter (fun s => decide (key3 s = κ))

theorem grp_zero (L : List Sg) (κ : Int × Int × Int) : grpL L 0 κ = [] := rfl
theorem take_snoc {α : Type} (L : List α) (z : α) {k : Nat} (h : k < L.length) : L.take (k + 1) = L.take k ++ [L.getD k z] := by
  rw [List.take_succ_eq_append_getElem h]
  simp [List.getD_eq_getElem?_getD, h]
theorem grp_same (L : List Sg) {k : Nat} (h : k < L.length) : grpL L (k + 1) (key3 (L.getD k .z)) = grpL L k (key3 (L.getD k .z)) ++ [L.getD k .z] := by
  unfold grpL
  rw [take_snoc L .z h, List.filter_append]
  simp
theorem grp_other (L : List Sg) {k : Nat} (h : k < L.length) {κ : Int × Int × Int} (hne : κ ≠ key3 (L.getD k .z)) : grpL L (k + 1) κ = grpL L k κ := by
  unfold grpL
  rw [take_snoc L .z h, List.filter_append]
  have : decide (key3 (L.getD k .z) = κ) = false := decide_eq_false (fun e => hne e.symm)
  rw [List.filter_cons, this]
  simp
theorem grp_mem (L : List Sg) {k : Nat} (hk : k ≤ L.length) {κ : Int × Int × Int} {x : Sg} : x ∈ grpL L k κ ↔ ∃ j, j < k ∧ L.getD j .z = x ∧ key3 x = κ := by
  unfold grpL
  rw [List.mem_filter, List.mem_take_iff_getElem]
  simp only [decide_eq_true_eq]
  constructor
  · rintro ⟨⟨j, hj, rfl⟩, h2⟩
    have : j < L.length := by omega
    exact ⟨j, by omega, by simp [List.getD_eq_getElem?_getD, this], h2⟩
  · rintro ⟨j, hj, rfl, h2⟩
    have : j < L.length := by omega
    exact ⟨⟨j, by omega, by simp [List.getD_eq_getElem?_getD, this]⟩, h2⟩
theorem grp_len (L : List Sg) (k : Nat) (κ : Int × Int × Int) : (grpL L k κ).length ≤ k := by
  unfold grpL
  exact Nat.le_trans (List.length_filter_le _ _) (by simp; omega)
theorem grp_key {L : List Sg} {k : Nat} {κ : Int × Int × Int} {x : Sg} (h : x ∈ grpL L k κ) : key3 x = κ := by
  unfold grpL at h
  simpa using (List.mem_filter.1 h).2
/-- A row fits, by the group of its kind. -/
theorem fit_grp (L : List Sg) {k : Nat} (hk : k < L.length) (hok : okS (L.getD k .z) = true) : FitAt L k ↔ ∀ x ∈ grpL L k (key3 (L.getD k .z)), clashS (L.getD k .z) x = false := by
  constructor
  · rintro ⟨_, h⟩ x hx
    obtain ⟨j, hj, rfl, h2⟩ := (grp_mem L (Nat.le_of_lt hk)).1 hx
    exact h j hj h2
  · intro h
    exact ⟨hok, fun j hj hkey => h _ ((grp_mem L (Nat.le_of_lt hk)).2 ⟨j, hj, rfl, hkey⟩)⟩

/-- Is a row one of those that are asked for? -/
def candS (κ : Int × Int × Int) (sea : Int) (s : Sg) : Bool := decide (key3 s = κ) && decide (sea ≤ s.sea)
def LeastR (L : List Sg) (κ : Int × Int × Int) (sea : Int) (p : Int × Int) : Prop :=
  ((∀ s ∈ L, candS κ sea s = false) ∧ p = (0, 7)) ∨ ∃ s ∈ L, candS κ sea s = true ∧ (∀ t ∈ L, candS κ sea t = true → s.sea ≤ t.sea) ∧ p = (s.wi, 0)
/-- The sweep width, or the error. -/
def WidthR (L : List Sg) (κ : Int × Int × Int) (sea : Int) (p : Int × Int) : Prop := (¬ TableP L ∧ p = (0, 2)) ∨ (TableP L ∧ LeastR L κ sea p)

theorem mem_at {L : List Sg} {s : Sg} (h : s ∈ L) : ∃ j, j < L.length ∧ L.getD j .z = s := by
  obtain ⟨j, hj, rfl⟩ := List.getElem_of_mem h
  exact ⟨j, hj, by simp [List.getD_eq_getElem?_getD, hj]⟩
/-- Of one kind and one sea there is one row. -/
theorem table_one {L : List Sg} (h : TableP L) {s t : Sg} (hs : s ∈ L) (ht : t ∈ L) (hk : key3 s = key3 t) (he : s.sea = t.sea) : s = t := by
  obtain ⟨i, hi, rfl⟩ := mem_at hs
  obtain ⟨j, hj, rfl⟩ := mem_at ht
  rcases Nat.lt_trichotomy i j with hl | hl | hl
  · have := (h.2 j hj).2 i hl hk
    simp only [clashS, Bool.or_eq_false_iff, decide_eq_false_iff_not] at this
    exact absurd he.symm this.2
  · rw [hl]
  · have := (h.2 i hi).2 j hl hk.symm
    simp only [clashS, Bool.or_eq_false_iff, decide_eq_false_iff_not] at this
    exact absurd he this.2
/-- In a greater sea the width is no greater. -/
theorem table_less {L : List Sg} (h : TableP L) {s t : Sg} (hs : s ∈ L) (ht : t ∈ L) (hk : key3 s = key3 t) (he : s.sea < t.sea) : t.wi ≤ s.wi := by
  have key : ∀ (a b : Sg), clashS a b = false → (a.sea < b.sea → b.wi ≤ a.wi) ∧ (b.sea < a.sea → a.wi ≤ b.wi) := by
    intro a b hc
    simp only [clashS, Bool.or_eq_false_iff, decide_eq_false_iff_not] at hc
    obtain ⟨hc, _⟩ := hc
    constructor
    · intro hl
      apply Int.not_lt.1
      intro hw
      apply hc
      have : 0 < (b.sea - a.sea) * (b.wi - a.wi) := Int.mul_pos (by omega) (by omega)
      have e : (a.sea - b.sea) * (a.wi - b.wi) = (b.sea - a.sea) * (b.wi - a.wi) := by
        rw [← Int.neg_sub b.sea, ← Int.neg_sub b.wi, Int.neg_mul_neg]
      omega
    · intro hl
      apply Int.not_lt.1
      intro hw
      exact hc (Int.mul_pos (by omega) (by omega))
  obtain ⟨i, hi, rfl⟩ := mem_at hs
  obtain ⟨j, hj, rfl⟩ := mem_at ht
  rcases Nat.lt_trichotomy i j with hl | hl | hl
  · exact (key _ _ ((h.2 j hj).2 i hl hk)).2 he
  · subst hl; omega
  · exact (key _ _ ((h.2 i hi).2 j hl hk.symm)).1 he
theorem cand_key {κ : Int × Int × Int} {sea : Int} {s : Sg} (h : candS κ sea s = true) : key3 s = κ ∧ sea ≤ s.sea := by
  simpa [candS] using h
theorem width_one {L : List Sg} {κ : Int × Int × Int} {sea : Int} {p q : Int × Int} (hp : WidthR L κ sea p) (hq : WidthR L κ sea q) : p = q := by
  rcases hp with ⟨h1, rfl⟩ | ⟨h1, hp⟩ <;> rcases hq with ⟨h2, rfl⟩ | ⟨h2, hq⟩
  · rfl
  · exact (h1 h2).elim
  · exact (h2 h1).elim
  · rcases hp with ⟨h3, rfl⟩ | ⟨s, hs, hc, hm, rfl⟩ <;> rcases hq with ⟨h4, rfl⟩ | ⟨t, ht, hd, hn, rfl⟩
    · rfl
    · rw [h3 t ht] at hd; cases hd
    · rw [h4 s hs] at hc; cases hc
    · have e1 := hm t ht hd
      have e2 := hn s hs hc
      have := table_one h1 hs ht ((cand_key hc).1.trans (cand_key hd).1.symm) (by omega)
      rw [this]
/-- The law of seas. -/
theorem width_worse {L : List Sg} {κ : Int × Int × Int} {lo hi : Int} (hlh : lo ≤ hi) {p q : Int × Int} (hp : WidthR L κ lo p) (hq : WidthR L κ hi q) :
    (q.2 ≠ 0 → p.2 = q.2 ∨ q.2 = 7) ∧ (q.2 = 0 → p.2 = 0 ∧ q.1 ≤ p.1 ∧ p.1 ≤ 100000 ∧ 0 ≤ q.1) := by
  rcases hp with ⟨h1, rfl⟩ | ⟨h1, hp⟩ <;> rcases hq with ⟨h2, rfl⟩ | ⟨h2, hq⟩
  · simp
  · exact (h1 h2).elim
  · exact (h2 h1).elim
  · rcases hq with ⟨h4, rfl⟩ | ⟨t, ht, hd, hn, rfl⟩
    · simp
    · refine ⟨fun e => (e rfl).elim, fun _ => ?_⟩
      have hd2 := cand_key hd
      have hd3 : candS κ lo t = true := by simp [candS, hd2.1]; omega
      rcases hp with ⟨h3, rfl⟩ | ⟨s, hs, hc, hm, rfl⟩
      · rw [h3 t ht] at hd3; cases hd3
      · have e1 := hm t ht hd3
        have hok : ∀ x ∈ L, 0 ≤ x.wi ∧ x.wi ≤ 100000 := by
          intro x hx
          obtain ⟨j, hj, rfl⟩ := mem_at hx
          have := (h1.2 j hj).1
          simp only [okS, okK, inB, Bool.and_eq_true, decide_eq_true_eq] at this
          exact ⟨this.2.2.1, this.2.2.2⟩
        refine ⟨rfl, ?_, (hok s hs).2, (hok t ht).1⟩
        rcases Int.lt_or_eq_of_le e1 with hl | hl
        · exact table_less h1 hs ht ((cand_key hc).1.trans hd2.1.symm) hl
        · rw [table_one h1 hs ht ((cand_key hc).1.trans hd2.1.symm) hl]
          exact Int.le_refl _
end Go.Proofs.Cr
/- Plain: the curve that halves, of two pieces, and what it answers. -/
namespace Go.Proofs.Cr

/-- The k-th bend of the curve that halves. -/
def halvB (k : Nat) : Bd := ⟨numB k, ⟨#[49]⟩, numB (2 ^ k - 1), numB (2 ^ k)⟩
def halvL (n : Nat) : List Bd := (List.range (n + 1)).map halvB
theorem halvL_len (n : Nat) : (halvL n).length = n + 1 := by simp [halvL]
theorem halvL_at {n k : Nat} (h : k ≤ n) : (halvL n).getD k .zero = halvB k := by
  have : k < n + 1 := by omega
  simp [halvL, List.getD_eq_getElem?_getD, this]
theorem halvL_succ (n : Nat) : halvL (n + 1) = halvL n ++ [halvB (n + 1)] := by simp [halvL, List.range_succ]
theorem fr_small (x y : Nat) (hx : x < 9223372036854775808) (hy : y < 9223372036854775808) (h0 : 0 < y) (hg : Nat.gcd x y = 1) : Fr (numB x) (numB y) (mkRat x y) := by
  have h := ratio_fr x y hx hy
  have e1 : (mkRat x y).num.natAbs = x := by rw [natAbs_mkRat x y h0, hg, Nat.div_one]
  have e2 : (mkRat x y).den = y := by rw [den_mkRat' x y h0, hg, Nat.div_one]
  rwa [e1, e2] at h
theorem one_numB : (⟨#[49]⟩ : ByteArray) = numB 1 := by kernel_rfl
theorem numB_short {n : Nat} (h : n < 10 ^ 18) : (numB n).size ≤ 18 := by
  rw [numB_size]; exact (decDigits_len_le (by decide)).2 h
theorem halvB_ok {k : Nat} (h : k ≤ 40) : (Fr (halvB k).cn (halvB k).cd (mkRat k 1) ∧ Fr (halvB k).hn (halvB k).hd (mkRat ((2 ^ k - 1 : Nat) : Int) (2 ^ k))) ∧ shortB (halvB k) = true := by
  have h2 : 2 ^ k ≤ 2 ^ 40 := Nat.pow_le_pow_right (by decide) h
  have h1 : 0 < 2 ^ k := Nat.pow_pos (by decide)
  have e40 : 2 ^ 40 = 1099511627776 := by decide
  have hg : Nat.gcd (2 ^ k - 1) (2 ^ k) = 1 := by
    have hd := Nat.gcd_dvd_right (2 ^ k - 1) (2 ^ k)
    have hd2 := Nat.gcd_dvd_left (2 ^ k - 1) (2 ^ k)
    have := Nat.dvd_sub hd hd2
    rw [show 2 ^ k - (2 ^ k - 1) = 1 by omega] at this
    exact Nat.dvd_one.1 this
  have f1 : Fr (numB k) (numB 1) (mkRat k 1) := fr_small k 1 (by omega) (by decide) (by decide) (by simp)
  have f2 := fr_small (2 ^ k - 1) (2 ^ k) (by omega) (by omega) h1 hg
  rw [← one_numB] at f1
  refine ⟨⟨f1, f2⟩, ?_⟩
  have s1 : (numB k).size ≤ 18 := numB_short (by omega)
  have s2 : (numB (2 ^ k - 1)).size ≤ 18 := numB_short (by omega)
  have s3 : (numB (2 ^ k)).size ≤ 18 := numB_short (by omega)
  have s4 : (⟨#[49]⟩ : ByteArray).size ≤ 18 := by decide
  unfold shortB shortP halvB
  simp only [Bool.and_eq_true]
  exact ⟨⟨decide_eq_true s1, decide_eq_true s4, f1.chk⟩, decide_eq_true s2, decide_eq_true s3, f2.chk⟩
theorem halv_x {n k : Nat} (h : k ≤ n) (hn : n ≤ 40) : qx (halvL n) k = mkRat k 1 := by
  unfold qx; rw [halvL_at h]; exact (halvB_ok (by omega)).1.1.qv
theorem halv_y {n k : Nat} (h : k ≤ n) (hn : n ≤ 40) : qy (halvL n) k = mkRat ((2 ^ k - 1 : Nat) : Int) (2 ^ k) := by
  unfold qy; rw [halvL_at h]; exact (halvB_ok (by omega)).1.2.qv
theorem halv2_x : qx (halvL 2) 0 = 0 ∧ qx (halvL 2) 1 = 1 ∧ qx (halvL 2) 2 = 2 :=
  ⟨(halv_x (by omega) (by omega)).trans (by decide +kernel), (halv_x (by omega) (by omega)).trans (by decide +kernel), (halv_x (by omega) (by omega)).trans (by decide +kernel)⟩
theorem halv2_y : qy (halvL 2) 0 = 0 ∧ qy (halvL 2) 1 = 1 / 2 ∧ qy (halvL 2) 2 = 3 / 4 :=
  ⟨(halv_y (by omega) (by omega)).trans (by decide +kernel), (halv_y (by omega) (by omega)).trans (by decide +kernel), (halv_y (by omega) (by omega)).trans (by decide +kernel)⟩
theorem halv2_sl : slq (halvL 2) 0 = 1 / 2 ∧ slq (halvL 2) 1 = 1 / 4 := by
  unfold slq
  rw [halv2_x.1, halv2_x.2.1, halv2_x.2.2, halv2_y.1, halv2_y.2.1, halv2_y.2.2]
  exact ⟨by decide +kernel, by decide +kernel⟩
theorem halv2_curve : CurveP (halvL 2) 2 where
  len := halvL_len 2
  pos := by decide +kernel
  most := by decide +kernel
  zero := by rw [halvL_at (by omega)]; kernel_rfl
  sh := fun k hk => by rw [halvL_at hk]; exact (halvB_ok (by omega)).2
  top := by rw [halv2_y.2.2]; decide +kernel
  up := fun k hk => by
    have : k = 0 ∨ k = 1 := by omega
    rcases this with rfl | rfl
    · rw [halv2_x.1, halv2_x.2.1, halv2_y.1, halv2_y.2.1]; decide +kernel
    · rw [halv2_x.2.1, halv2_x.2.2, halv2_y.2.1, halv2_y.2.2]; decide +kernel
  cc := fun k hk => by
    have : k = 0 := by omega
    subst this
    rw [halv2_sl.1, halv2_sl.2]; decide +kernel
/-- The curve's chance of one and a half. -/
theorem halv2_chance {N : Nat} {q r : Rat} (hc : CurveP (halvL 2) N) (hq : q = mkRat 3 2) (h : ChanceR (halvL 2) N q r) : r = 5 / 8 := by
  have hN : N = 2 := by have := hc.len; rw [halvL_len] at this; omega
  subst hN
  refine chance_one hc h (.inl ⟨1, by decide +kernel, ?_, ?_, ?_⟩)
  · rw [halv2_x.2.1, hq]; decide +kernel
  · rw [halv2_x.2.2, hq]; decide +kernel
  · rw [lineQ_eq, halv2_sl.2, halv2_x.2.1, halv2_y.2.1, hq]; decide +kernel
/-- What five eighths need. -/
theorem halv2_need {N : Nat} {q r : Rat} (hc : CurveP (halvL 2) N) (hq : q = mkRat 5 8) (h : NeedR (halvL 2) N q r) : r = 3 / 2 := by
  have hN : N = 2 := by have := hc.len; rw [halvL_len] at this; omega
  subst hN
  rcases h with ⟨h1, _⟩ | ⟨i, hi, h1, h2, rfl⟩
  · rw [hq] at h1; exact absurd h1 (by decide +kernel)
  · have : i = 0 ∨ i = 1 := by omega
    rcases this with rfl | rfl
    · rw [halv2_y.2.1, hq] at h2; exact absurd h2 (by decide +kernel)
    · unfold needQ
      rw [halv2_x.2.1, halv2_x.2.2, halv2_y.2.1, halv2_y.2.2, hq]; decide +kernel
end Go.Proofs.Cr
/- A map of the call's own from kinds to slices of rows: the look-up, and the way back behind an append. -/
namespace Go.Proofs.Cr
open Go.RowKit Go.Shelf
open Go.Maps (Keyed)
open Go.ChangeMaps (setBlock)

/-- The cells of a row of a table. -/
def sgL (s : Sg) : List Value := [.int .i64 s.se, .int .i64 s.ob, .int .i64 s.li, .int .i64 s.sea, .int .i64 s.wi]
/-- A kind, as a key. -/
def kv (κ : Int × Int × Int) : Value := .agg #[.int .i64 κ.1, .int .i64 κ.2.1, .int .i64 κ.2.2]
theorem kv_inj {κ κ' : Int × Int × Int} (h : kv κ = kv κ') : κ = κ' := by
  simp [kv] at h
  exact Prod.ext h.1 (Prod.ext h.2.1 h.2.2)
/-- A slice of the call's own that holds rows. -/
def RowS (w : World) (B e : Nat) (v : Value) (L : List Sg) : Prop := w.ownsRow B e 5 v L.length (L.flatMap sgL)
theorem sgL_len (L : List Sg) : (L.flatMap sgL).length = L.length * 5 := by
  induction L with
  | nil => rfl
  | cons s L ih => simp [sgL, ih]; omega
theorem sgL_at (L : List Sg) (j : Nat) (h : j < L.length) (i : Nat) (hi : i < 5) : (L.flatMap sgL)[j * 5 + i]? = (sgL (L.getD j .z))[i]? := by
  induction L generalizing j with
  | nil => simp at h
  | cons s L ih =>
    cases j with
    | zero =>
      simp only [List.flatMap_cons, Nat.zero_mul, Nat.zero_add, List.getD_cons_zero]
      rw [List.getElem?_append_left (by simp [sgL]; omega)]
    | succ j =>
      simp only [List.flatMap_cons, List.getD_cons_succ]
      have e : (j + 1) * 5 + i = 5 + (j * 5 + i) := by omega
      have e5 : (sgL s).length = 5 := rfl
      rw [e, List.getElem?_append_right (by rw [e5]; omega), e5, Nat.add_sub_cancel_left]
      exact ih j (by simpa using h)

/-- Block b is a map of kinds to slices of the call's own, apart from each other, that hold m. -/
structure EntG (P : Program) (k e : TypeId) (w : World) (B : Nat) (m : Int × Int × Int → List Sg) (es : List MapEntry) : Prop where
  key : ∀ x ∈ es, ∃ κ l, x.key = kv κ ∧ keyOf P k x.key = some l ∧ m κ ≠ [] ∧ RowS w B e x.val (m κ)
  rest : ∀ κ, (∀ x ∈ es, x.key ≠ kv κ) → m κ = []
  one : es.Pairwise (fun x y => x.key ≠ y.key)
  apart : ∀ x ∈ es, ∀ y ∈ es, x.key ≠ y.key → x.val.ownBlock ≠ y.val.ownBlock
def MapG (P : Program) (k e : TypeId) (w : World) (B b : Nat) (m : Int × Int × Int → List Sg) : Prop :=
  b < B ∧ ∃ es clock, w.heap[b]? = some (.map es clock) ∧ EntG P k e w B m es.toList
variable {P : Program} {k e t E : TypeId} {w : World} {B b : Nat} {m : Int × Int × Int → List Sg}
theorem MapG.made (P : Program) (k e : TypeId) (w : World) : MapG P k e (w.alloc (.map #[] 0)) (w.heap.size + 1) w.heap.size (fun _ => []) :=
  ⟨Nat.lt_succ_self _, #[], 0, (MapKept.heap_alloc w _).1, by simp, fun _ _ => rfl, by simp, by simp⟩
theorem MapG.lt (h : MapG P k e w B b m) : b < w.heap.size := by
  obtain ⟨_, es, clock, hb, _⟩ := h
  exact (Array.getElem?_eq_some_iff.1 hb).1
theorem RowS.kept {w' : World} {v : Value} {L : List Sg} {row : Option Nat} (h : RowS w B e v L) (hg : w.grownBy w' row) (hne : v.ownBlock = none ∨ v.ownBlock ≠ row) : RowS w' B e v L := World.ownsRow.kept h hg hne
theorem MapG.kept {w' : World} (h : MapG P k e w B b m) (hg : w.grownBy w' none) : MapG P k e w' B b m := by
  obtain ⟨h0, es, clock, hb, h1, h2, h3, h4⟩ := h
  refine ⟨h0, es, clock, (hg.block b (Array.getElem?_eq_some_iff.1 hb).1 (by simp)).trans hb, fun x hx => ?_, h2, h3, h4⟩
  obtain ⟨κ, l, e1, e2, e3, e4⟩ := h1 x hx
  exact ⟨κ, l, e1, e2, e3, e4.kept hg (by cases x.val.ownBlock <;> simp)⟩
def MapG.back (P : Program) (k e t : TypeId) (w : World) (B b : Nat) (m : Int × Int × Int → List Sg) (κ : Int × Int × Int) (v : Value) : Prop :=
  ∀ (w1 : World) (v' : Value) (L' : List Sg), w.grownBy w1 v.ownBlock → RowS w1 B e v' L' → L' ≠ [] → (v'.ownBlock = v.ownBlock ∨ ∃ g, v'.ownBlock = some g ∧ w.heap.size ≤ g) →
    ∃ w2, (Instr.mapUpdate t (.map (some b)) (kv κ) v').run P w1 = .ok () w2 ∧ MapG P k e w2 B b (fun κ' => if κ' = κ then L' else m κ') ∧ w1.grownBy w2 (some b)
theorem RowS.ne_map {v : Value} {L : List Sg} (h : RowS w B e v L) (hb : b < B) : v.ownBlock = none ∨ v.ownBlock ≠ some b := by
  cases hv : v.ownBlock with
  | none => exact .inl rfl
  | some g =>
    have := (World.ownsRow.lt h g hv).1
    exact .inr (fun e => by cases e; omega)
theorem RowS.own {v : Value} {L : List Sg} (h : RowS w B e v L) (hne : L ≠ []) : ∃ g, v.ownBlock = some g ∧ g < w.heap.size := by
  rcases h.2 with ⟨_, h2⟩ | ⟨g, cap, cur, rfl, _, h3, _⟩
  · exact absurd (List.eq_nil_of_length_eq_zero h2) hne
  · exact ⟨g, rfl, (Array.getElem?_eq_some_iff.1 h3).1⟩
/-- The entries behind a store. -/
theorem ent_back {w1 w2 : World} {es es' : List MapEntry} {κ : Int × Int × Int} {kl : Lit} {v v' : Value} {L' : List Sg} (h : EntG P k e w B m es) (hb : b < B) (hkey : keyOf P k (kv κ) = some kl)
    (hg : w.grownBy w1 v.ownBlock) (hg2 : w1.grownBy w2 (some b)) (hr : RowS w1 B e v' L') (hne : L' ≠ []) (hloc : v'.ownBlock = v.ownBlock ∨ ∃ g, v'.ownBlock = some g ∧ w.heap.size ≤ g)
    (hv : ∀ x ∈ es, x.key ≠ kv κ → x.val.ownBlock ≠ v.ownBlock)
    (who : ∀ x ∈ es', (x ∈ es ∧ x.key ≠ kv κ) ∨ (x.key = kv κ ∧ x.val = v')) (has : ∃ x ∈ es', x.key = kv κ) (old : ∀ x ∈ es, x.key ≠ kv κ → x ∈ es') (one : es'.Pairwise (fun x y => x.key ≠ y.key)) :
    EntG P k e w2 B (fun κ' => if κ' = κ then L' else m κ') es' := by
  have hnew : ∀ x ∈ es, x.key ≠ kv κ → x.val.ownBlock ≠ v'.ownBlock := by
    intro x hx hk
    obtain ⟨κ', l, e1, e2, e3, e4⟩ := h.key x hx
    obtain ⟨g, hg1, hg3⟩ := e4.own e3
    rcases hloc with hl | ⟨g2, hl, hl2⟩
    · rw [hl]; exact hv x hx hk
    · rw [hl, hg1]; intro e'; cases e'; omega
  refine ⟨fun x hx => ?_, fun κ' hn => ?_, one, fun x hx y hy hxy => ?_⟩
  · rcases who x hx with ⟨hx0, hxk⟩ | ⟨hxk, hxv⟩
    · obtain ⟨κ', l, e1, e2, e3, e4⟩ := h.key x hx0
      have hne' : κ' ≠ κ := fun e' => hxk (by rw [e1, e'])
      refine ⟨κ', l, e1, e2, ?_⟩
      simp only [if_neg hne']
      have e5 : RowS w1 B e x.val (m κ') := e4.kept hg (.inr (hv x hx0 hxk))
      exact ⟨e3, e5.kept hg2 (e5.ne_map hb)⟩
    · refine ⟨κ, kl, hxk, by rw [hxk]; exact hkey, ?_⟩
      simp only [if_pos]
      rw [hxv]
      exact ⟨hne, hr.kept hg2 (hr.ne_map hb)⟩
  · have h6 : κ' ≠ κ := fun e' => by
      obtain ⟨x, hx, hxk⟩ := has
      exact hn x hx (by rw [e']; exact hxk)
    simp only [if_neg h6]
    refine h.rest κ' (fun x hx hxk => ?_)
    have : x.key ≠ kv κ := fun e' => h6 (kv_inj (hxk.symm.trans e'))
    exact hn x (old x hx this) hxk
  · rcases who x hx with ⟨hx0, hxk⟩ | ⟨hxk, hxv⟩ <;> rcases who y hy with ⟨hy0, hyk⟩ | ⟨hyk, hyv⟩
    · exact h.apart x hx0 y hy0 hxy
    · rw [hyv]; exact hnew x hx0 hxk
    · rw [hxv]; exact fun e' => hnew y hy0 hyk e'.symm
    · exact absurd (hxk.trans hyk.symm) hxy
theorem EntG.at {es : Array MapEntry} {clock : Nat} (h0 : b < B) (hb : w.heap[b]? = some (.map es clock)) (h1 : EntG P k e w B m es.toList) (K : Keyed P k) (ht : P.underlying t = some (.map k E)) (hz : (zeroValue E).run P w = .ok (.slice none 0 0) w) {κ : Int × Int × Int} {kl : Lit} (hkey : keyOf P k (kv κ) = some kl) :
    ∃ v, (Instr.lookup t (.map (some b)) (kv κ) false).run P w = .ok v w ∧ RowS w B e v (m κ) ∧ MapG.back P k e t w B b m κ v ∧ (v.ownBlock = none ∨ ∃ x ∈ es.toList, x.val = v) := by
  have hkeys : ∀ x ∈ es.toList, ∃ l, keyOf P k x.key = some l := fun x hx => by
    obtain ⟨κ', l, _, e2, _⟩ := h1.key x hx
    exact ⟨l, e2⟩
  have hblt : b < w.heap.size := (Array.getElem?_eq_some_iff.1 hb).1
  rcases K.find w hkey es.toList hkeys with ⟨f1, f2⟩ | ⟨j, x0, f1, f2, f3⟩
  · refine ⟨.slice none 0 0, by simp [Instr.lookup, run_underlying ht, MapKept.run_getObj_map hb, K.check w _ hkey, f1, hz, Result.andThen], ?_, ?_, .inl rfl⟩
    · rw [h1.rest κ f2]
      exact World.ownsRow_nil w B e 5
    · intro w1 v' L' hg hr hne hloc
      have hb1 : w1.heap[b]? = some (.map es clock) := (hg.block b hblt (by simp [Value.ownBlock])).trans hb
      have f1' : (Instr.findKey k (kv κ) es.toList).run P w1 = .ok none w1 := by
        rcases K.find w1 hkey es.toList hkeys with ⟨f1, _⟩ | ⟨j, x0, _, f2', f3'⟩
        · exact f1
        · exact absurd f3' (f2 x0 (List.mem_of_getElem? f2'))
      have hg2 : w1.grownBy (setBlock w1 b (.map (es.push ⟨kv κ, v', clock⟩) (clock + 1))) (some b) := ⟨rfl, rfl, rfl, by simp [setBlock], fun i _ hi => ChangeMaps.heap_setBlock_other hb1 _ (fun e1 => hi (by rw [e1]))⟩
      refine ⟨setBlock w1 b (.map (es.push ⟨kv κ, v', clock⟩) (clock + 1)), by simp [Instr.mapUpdate, run_underlying ht, MapKept.run_getObj_map hb1, K.check w1 false hkey, f1', MapKept.run_setObj_map _ hb1, Result.andThen, setBlock], ⟨h0, _, _, ChangeMaps.heap_setBlock_same hb1 _, ?_⟩, hg2⟩
      have hmem : ∀ x, x ∈ (es.push (⟨kv κ, v', clock⟩ : MapEntry)).toList ↔ x ∈ es.toList ∨ x = ⟨kv κ, v', clock⟩ := fun x => by
        rw [Array.toList_push, List.mem_append, List.mem_singleton]
      refine ent_back h1 h0 hkey hg hg2 hr hne hloc (fun x hx _ => ?_) (fun x hx => ?_) ⟨_, (hmem _).2 (.inr rfl), rfl⟩ (fun x hx _ => (hmem _).2 (.inl hx)) ?_
      · obtain ⟨κ', l, e1, e2, e3, e4⟩ := h1.key x hx
        obtain ⟨g, hg1, _⟩ := e4.own e3
        rw [hg1]; simp [Value.ownBlock]
      · rcases (hmem _).1 hx with hx | rfl
        · exact .inl ⟨hx, f2 x hx⟩
        · exact .inr ⟨rfl, rfl⟩
      · rw [Array.toList_push, List.pairwise_append]
        refine ⟨h1.one, by simp, fun x hx y hy => ?_⟩
        simp only [List.mem_singleton] at hy
        subst hy
        exact f2 x hx
  · have hx0 : x0 ∈ es.toList := List.mem_of_getElem? f2
    obtain ⟨κ0, l0, k1, k2, k3, k4⟩ := h1.key x0 hx0
    have hκ : κ0 = κ := kv_inj (k1.symm.trans f3)
    subst hκ
    have hj : es[j]? = some x0 := by simpa using f2
    have hjl : j < es.toList.length := (List.getElem?_eq_some_iff.1 f2).1
    refine ⟨x0.val, by simp [Instr.lookup, run_underlying ht, MapKept.run_getObj_map hb, K.check w _ hkey, f1, Result.andThen], k4, ?_, .inr ⟨x0, hx0, rfl⟩⟩
    intro w1 v' L' hg hr hne hloc
    have hbv : some b ≠ x0.val.ownBlock := by
      rcases k4.ne_map h0 with h | h
      · rw [h]; simp
      · exact fun e' => h e'.symm
    have hb1 : w1.heap[b]? = some (.map es clock) := (hg.block b hblt hbv).trans hb
    have other : ∀ (i : Nat) (x : MapEntry), es.toList[i]? = some x → i ≠ j → x.key ≠ kv κ0 := by
      intro i x hi hij
      obtain ⟨hil, hix⟩ := List.getElem?_eq_some_iff.1 hi
      obtain ⟨_, hjx⟩ := List.getElem?_eq_some_iff.1 f2
      have hp := List.pairwise_iff_getElem.1 h1.one
      rw [← f3, ← hix, ← hjx]
      rcases Nat.lt_or_gt_of_ne hij with hl | hl
      · exact hp i j hil hjl hl
      · exact fun e' => hp j i hjl hil hl e'.symm
    obtain ⟨j', x1, f1', f2', f3'⟩ : ∃ j x1, (Instr.findKey k (kv κ0) es.toList).run P w1 = .ok (some (j, x1.val)) w1 ∧ es.toList[j]? = some x1 ∧ x1.key = kv κ0 := by
      rcases K.find w1 hkey es.toList hkeys with ⟨_, g2⟩ | ⟨j, x1, g1, g2, g3⟩
      · exact absurd f3 (g2 x0 hx0)
      · exact ⟨j, x1, g1, g2, g3⟩
    have hjj : j' = j := by
      apply Classical.byContradiction
      intro hn
      exact other j' x1 f2' hn f3'
    subst hjj
    have hlist : (es.modify j' (fun e' => { e' with key := kv κ0, val := v' })).toList = es.toList.set j' { x0 with key := kv κ0, val := v' } := by rw [Array.toList_modify, ChangeMaps.modify_eq_set _ _ _ _ f2]
    have hg2 : w1.grownBy (setBlock w1 b (.map (es.modify j' (fun e' => { e' with key := kv κ0, val := v' })) clock)) (some b) := ⟨rfl, rfl, rfl, by simp [setBlock], fun i _ hi => ChangeMaps.heap_setBlock_other hb1 _ (fun e1 => hi (by rw [e1]))⟩
    refine ⟨_, by simp [Instr.mapUpdate, run_underlying ht, MapKept.run_getObj_map hb1, K.check w1 false hkey, f1', hj, f3, K.stays w1 hkey, MapKept.run_setObj_map _ hb1, Result.andThen, setBlock], ⟨h0, _, _, ChangeMaps.heap_setBlock_same hb1 _, ?_⟩, hg2⟩
    rw [hlist]
    refine ent_back h1 h0 hkey hg hg2 hr hne hloc (fun x hx hxk => h1.apart x hx x0 hx0 (by rw [f3]; exact hxk)) (fun x hx => ?_) ⟨{ x0 with key := kv κ0, val := v' }, List.mem_iff_getElem.2 ⟨j', by simpa using hjl, by simp⟩, rfl⟩ (fun x hx hxk => ?_) ?_
    · obtain ⟨i, hi, ex⟩ := List.getElem_of_mem hx
      rw [List.getElem_set] at ex
      split at ex
      · subst ex; exact .inr ⟨rfl, rfl⟩
      · rename_i hne
        have hi' : i < es.toList.length := by simpa using hi
        exact .inl ⟨ex ▸ List.getElem_mem hi', other i x (by rw [List.getElem?_eq_getElem hi', ex]) (fun e1 => hne e1.symm)⟩
    · obtain ⟨i, hi, ex⟩ := List.getElem_of_mem hx
      have hij : i ≠ j' := fun e' => by
        subst e'
        obtain ⟨_, hjx⟩ := List.getElem?_eq_some_iff.1 f2
        exact hxk (by rw [← ex, hjx]; exact f3)
      exact List.mem_iff_getElem.2 ⟨i, by simpa using hi, by rw [List.getElem_set_ne (Ne.symm hij)]; exact ex⟩
    · rw [List.pairwise_iff_getElem]
      intro a c ha hc hac
      have ha' : a < es.toList.length := by simpa using ha
      have hc' : c < es.toList.length := by simpa using hc
      have hp := List.pairwise_iff_getElem.1 h1.one a c ha' hc' hac
      rw [List.getElem_set, List.getElem_set]
      split
      · rename_i h5
        split
        · omega
        · exact fun e' => other c _ (List.getElem?_eq_getElem hc') (fun e1 => by omega) e'.symm
      · split
        · exact fun e' => other a _ (List.getElem?_eq_getElem ha') (fun e1 => by omega) e'
        · exact hp
theorem MapG.at (h : MapG P k e w B b m) (K : Keyed P k) (ht : P.underlying t = some (.map k E)) (hz : (zeroValue E).run P w = .ok (.slice none 0 0) w) {κ : Int × Int × Int} {kl : Lit} (hkey : keyOf P k (kv κ) = some kl) :
    ∃ v, (Instr.lookup t (.map (some b)) (kv κ) false).run P w = .ok v w ∧ RowS w B e v (m κ) ∧ MapG.back P k e t w B b m κ v := by
  obtain ⟨h0, es, clock, hb, h1⟩ := h
  obtain ⟨v, r1, r2, r3, _⟩ := EntG.at h0 hb h1 K ht hz hkey
  exact ⟨v, r1, r2, r3⟩
/-- .. and no slice lies from U on. -/
def MapU (P : Program) (k e : TypeId) (w : World) (B b : Nat) (m : Int × Int × Int → List Sg) (U : Nat) : Prop :=
  b < B ∧ ∃ es clock, w.heap[b]? = some (.map es clock) ∧ EntG P k e w B m es.toList ∧ ∀ x ∈ es.toList, ∀ g, x.val.ownBlock = some g → g < U
theorem MapG.up (h : MapG P k e w B b m) : MapU P k e w B b m w.heap.size := by
  obtain ⟨h0, es, clock, hb, h1⟩ := h
  refine ⟨h0, es, clock, hb, h1, fun x hx g hg => ?_⟩
  obtain ⟨κ, l, _, _, _, e4⟩ := h1.key x hx
  exact (World.ownsRow.lt e4 g hg).2
theorem MapU.kept {w' : World} {U : Nat} (h : MapU P k e w B b m U) (hg : w.grownBy w' none) : MapU P k e w' B b m U := by
  obtain ⟨h0, es, clock, hb, ⟨h1, h2, h3, h4⟩, h5⟩ := h
  refine ⟨h0, es, clock, (hg.block b (Array.getElem?_eq_some_iff.1 hb).1 (by simp)).trans hb, ⟨fun x hx => ?_, h2, h3, h4⟩, h5⟩
  obtain ⟨κ, l, e1, e2, e3, e4⟩ := h1 x hx
  exact ⟨κ, l, e1, e2, e3, e4.kept hg (by cases x.val.ownBlock <;> simp)⟩
theorem MapU.lt {U : Nat} (h : MapU P k e w B b m U) : b < w.heap.size := by
  obtain ⟨_, es, clock, hb, _⟩ := h
  exact (Array.getElem?_eq_some_iff.1 hb).1
theorem MapU.at {U : Nat} (h : MapU P k e w B b m U) (K : Keyed P k) (ht : P.underlying t = some (.map k E)) (hz : (zeroValue E).run P w = .ok (.slice none 0 0) w) {κ : Int × Int × Int} {kl : Lit} (hkey : keyOf P k (kv κ) = some kl) :
    ∃ v, (Instr.lookup t (.map (some b)) (kv κ) false).run P w = .ok v w ∧ RowS w B e v (m κ) ∧ MapG.back P k e t w B b m κ v ∧ ∀ g, v.ownBlock = some g → g < U := by
  obtain ⟨h0, es, clock, hb, h1, h5⟩ := h
  obtain ⟨v, r1, r2, r3, r4⟩ := EntG.at h0 hb h1 K ht hz hkey
  refine ⟨v, r1, r2, r3, fun g hg => ?_⟩
  rcases r4 with h | ⟨x, hx, rfl⟩
  · rw [h] at hg; cases hg
  · exact h5 x hx g hg
section
variable {F : Fence} {n : Nat} {ops : Array Oper} {o : Oper} {a : Act} {K : Act → World → Prop} {Q : Exit → Act → World → Prop} {A : Prop}
/-- 'append' in a drawn region, by its run. -/
theorem app_op {w' : World} {v y v' : Value} (s x : Operand) (t : TypeId) (hgd : o.guard = none) (ho : o.op = .call { callee := .builtin .append, args := #[s, x], argTypes := #[t, t] }) (hs : a.eval s = v) (hx : a.eval x = y)
    (hrun : (Builtin.append_ #[t, t] o.type #[v, y]).run P w = .ok v' w') (h : K (a.put o.dst v') w') : if Region.wanted o (yielded ops a.tmps) = true then Oper.wpIn F n P o a w K Q else A := by
  rw [if_pos (by simp [Region.wanted, hgd])]
  unfold Oper.wpIn
  refine ⟨?_, ?_⟩
  · simp [Oper.about, ho, resolve, Target.leads, Sem.run_pure]
  · rw [Oper.semAt_plain F _ _ (by rw [ho]; intro c hc'; cases hc')]
    simp [execOp, ho, resolve, invoke, builtin, hs, hx, hrun, Result.andThen]
    exact h
end
end Go.Proofs.Cr
namespace Go.Proofs.Cr
open Go.RowKit Go.Shelf
attribute [local go_sem] Oper.semAt_some

/-- A row of a table, as a value. -/
def sv (s : Sg) : Value := .agg #[.int .i64 s.se, .int .i64 s.ob, .int .i64 s.li, .int .i64 s.sea, .int .i64 s.wi]
def scs (s : Sg) : Array Value := #[.int .i64 s.se, .int .i64 s.ob, .int .i64 s.li, .int .i64 s.sea, .int .i64 s.wi]
/-- A row at a place. -/
def SgAt (w : World) (b o : Nat) (s : Sg) : Prop :=
  ((w.cell? ⟨b, o, none⟩ = some (.int .i64 s.se) ∧ w.cell? ⟨b, o + 1, none⟩ = some (.int .i64 s.ob)) ∧ (w.cell? ⟨b, o + 2, none⟩ = some (.int .i64 s.li) ∧ w.cell? ⟨b, o + 3, none⟩ = some (.int .i64 s.sea))) ∧ w.cell? ⟨b, o + 4, none⟩ = some (.int .i64 s.wi)
/-- A table in memory. -/
def RdS (w : World) (A : Option Addr) (L : List Sg) : Prop :=
  L.length ≤ 1000000000 ∧ (0 < L.length → ∃ b off, A = some ⟨b, off, none⟩ ∧ b < w.heap.size ∧ ∀ j, j < L.length → SgAt w b (off + j * 5) (L.getD j .z))
theorem SgAt.below {w w' : World} {b o n : Nat} {s : Sg} (h : SgAt w b o s) (hb : Below n w w') (hn : b < n) : SgAt w' b o s := by
  obtain ⟨⟨⟨h0, h1⟩, h2, h3⟩, h4⟩ := h
  exact ⟨⟨⟨(hb.cell (p := ⟨b, o, none⟩) hn).trans h0, (hb.cell (p := ⟨b, o + 1, none⟩) hn).trans h1⟩, (hb.cell (p := ⟨b, o + 2, none⟩) hn).trans h2, (hb.cell (p := ⟨b, o + 3, none⟩) hn).trans h3⟩, (hb.cell (p := ⟨b, o + 4, none⟩) hn).trans h4⟩
theorem RdS.below {w w' : World} {A : Option Addr} {L : List Sg} {n : Nat} (h : RdS w A L) (hb : Below n w w') (hn : w.heap.size ≤ n) : RdS w' A L := by
  refine ⟨h.1, fun hp => ?_⟩
  obtain ⟨b, off, e, hlt, hc⟩ := h.2 hp
  exact ⟨b, off, e, Nat.lt_of_lt_of_le hlt hb.size, fun j hj => (hc j hj).below hb (by omega)⟩
theorem Blk.sg {W : World} {b : Nat} {s : Sg} {t : TypeId} (h : Blk W b (scs s) t) :
    (((W.cell? ⟨b, 0, none⟩ = some (.int .i64 s.se) ∧ W.cell? ⟨b, 1, none⟩ = some (.int .i64 s.ob)) ∧ (W.cell? ⟨b, 2, none⟩ = some (.int .i64 s.li) ∧ W.cell? ⟨b, 3, none⟩ = some (.int .i64 s.sea))) ∧ W.cell? ⟨b, 4, none⟩ = some (.int .i64 s.wi)) ∧
    ((W.frozen? ⟨b, 0, none⟩ = false ∧ W.frozen? ⟨b, 1, none⟩ = false) ∧ (W.frozen? ⟨b, 2, none⟩ = false ∧ W.frozen? ⟨b, 3, none⟩ = false)) ∧ W.frozen? ⟨b, 4, none⟩ = false :=
  ⟨⟨⟨⟨h.cell 0, h.cell 1⟩, h.cell 2, h.cell 3⟩, h.cell 4⟩, ⟨⟨h.free 0, h.free 1⟩, h.free 2, h.free 3⟩, h.free 4⟩
theorem Blk.three {W : World} {b : Nat} {x y z : Value} {t : TypeId} (h : Blk W b #[x, y, z] t) : (W.cell? ⟨b, 0, none⟩ = some x ∧ W.cell? ⟨b, 1, none⟩ = some y) ∧ W.cell? ⟨b, 2, none⟩ = some z := ⟨⟨h.cell 0, h.cell 1⟩, h.cell 2⟩
/-- What a slice of the call's own reads as. -/
theorem RowS.reads {w : World} {B e : Nat} {v : Value} {L : List Sg} (h : RowS w B e v L) (hl : L.length ≤ 1000000000) : ∃ A c, v = .slice A L.length c ∧ L.length ≤ c ∧ RdS w A L := by
  have hc := fun g hg => World.ownsRow.cells h (g := g) hg
  rcases h.2 with ⟨rfl, h2⟩ | ⟨g, cap, cur, rfl, h2, h3, h4, h5, h6, h7⟩
  · exact ⟨none, 0, by rw [h2], by omega, hl, fun hp => by omega⟩
  · refine ⟨_, cap, rfl, h4, hl, fun _ => ⟨g, 0, rfl, (Array.getElem?_eq_some_iff.1 h3).1, fun j hj => ?_⟩⟩
    have key : ∀ i u, i < 5 → (sgL (L.getD j .z))[i]? = some u → w.cell? ⟨g, 0 + j * 5 + i, none⟩ = some u := by
      intro i u hi hu
      have := hc g rfl (j * 5 + i) u (by rw [sgL_at L j hj i hi]; exact hu)
      have ea : (⟨g, 0, none⟩ : Addr).add (j * 5 + i) = ⟨g, 0 + j * 5 + i, none⟩ := by
        by_cases h0 : j * 5 + i = 0
        · rw [h0, show 0 + j * 5 + i = 0 by omega]; rfl
        · simp [Addr.add]; omega
      rw [← ea]
      exact this
    exact ⟨⟨⟨key 0 _ (by decide) rfl, key 1 _ (by decide) rfl⟩, key 2 _ (by decide) rfl, key 3 _ (by decide) rfl⟩, key 4 _ (by decide) rfl⟩
/-- A row stored. -/
def st5 (W : World) (b : Nat) (s : Sg) : World := ((((W.setCell ⟨b, 0, none⟩ (.int .i64 s.se)).setCell ⟨b, 1, none⟩ (.int .i64 s.ob)).setCell ⟨b, 2, none⟩ (.int .i64 s.li)).setCell ⟨b, 3, none⟩ (.int .i64 s.sea)).setCell ⟨b, 4, none⟩ (.int .i64 s.wi)
theorem Blk.put5 {W : World} {b : Nat} {v0 v1 v2 v3 v4 : Value} {t : TypeId} (h : Blk W b #[v0, v1, v2, v3, v4] t) (s : Sg) : Blk (st5 W b s) b (scs s) t := ((((h.set 0 _).set 1 _).set 2 _).set 3 _).set 4 _
theorem Blk.far5 {W : World} {b r : Nat} {cs : Array Value} {t : TypeId} (h : Blk W b cs t) (hne : b ≠ r) (s : Sg) : Blk (st5 W r s) b cs t :=
  ((((h.far (p := ⟨r, 0, none⟩) hne _).far (p := ⟨r, 1, none⟩) hne _).far (p := ⟨r, 2, none⟩) hne _).far (p := ⟨r, 3, none⟩) hne _).far (p := ⟨r, 4, none⟩) hne _
theorem below_put5 {n r : Nat} {w W : World} (h : Below n w W) (hr : n ≤ r) (s : Sg) : Below n w (st5 W r s) :=
  ((((h.setCell (p := ⟨r, 0, none⟩) hr _).setCell (p := ⟨r, 1, none⟩) hr _).setCell (p := ⟨r, 2, none⟩) hr _).setCell (p := ⟨r, 3, none⟩) hr _).setCell (p := ⟨r, 4, none⟩) hr _
/-- Are kinds the same? -/
def eq3 (κ κ' : Int × Int × Int) : Bool := decide (κ = κ')
theorem eqKind (x y z a b c : Int) (w : World) : (Op.equalIn 10000 73 (.agg #[.int .i64 x, .int .i64 y, .int .i64 z]) (.agg #[.int .i64 a, .int .i64 b, .int .i64 c])).run Tryz.prog w = .ok (eq3 (x, y, z) (a, b, c)) w := by
  have u3 := Tryz.underlying3
  have a3 := Tryz.isAgg3
  have z3 := Tryz.sizeOf3
  rw [show (10000 : Nat) = 9999 + 1 from rfl, Op.equalIn]
  simp only [Sem.run_bind, run_underlying Tryz.underlying73, Result.andThen_ok]
  simp only [Std.Legacy.Range.forIn_eq_forIn_range', Std.Legacy.Range.size, Nat.sub_zero, Nat.add_sub_cancel, Nat.div_one, List.range'_succ, List.range'_zero, List.forIn_cons, List.forIn_nil]
  go_simp
  by_cases h1 : x = a <;> by_cases h2 : y = b <;> by_cases h3 : z = c <;> simp [h1, h2, h3, eq3]
set_option maxRecDepth 100000 in
set_option maxHeartbeats 1000000 in
/-- 'detect.of'. -/
theorem kindOf_any (s : Sg) (w : World) : Calls Tryz.prog 46 #[sv s] w fun e w' => e = .returned (kv (key3 s)) ∧ Below w.heap.size w w' := by
  obtain ⟨a, b, c, d, f⟩ := s
  obtain ⟨hA1, hR1, hW1⟩ := two_new w (scs ⟨a, b, c, d, f⟩) #[.int .i64 0, .int .i64 0, .int .i64 0] 30 73
  obtain ⟨_, hR2, hW2⟩ := two_new w (scs ⟨a, b, c, d, f⟩) #[.int .i64 a, .int .i64 b, .int .i64 c] 30 73
  have HW2 := Lib.hid hW2
  have HR2 := Lib.hid hR2
  obtain ⟨⟨⟨⟨x0, x1⟩, x2, x3⟩, x4⟩, _⟩ := hA1.sg
  have r0 := hR1.cell 0
  have r1 := hR1.cell 1
  have r2 := hR1.cell 2
  have f0 := hR1.free 0
  have f1 := hR1.free 1
  have f2 := hR1.free 2
  clear hW1 hW2 hR2 hR1 hA1
  simp only [scs, sv, kv, key3] at *
  go_enter Tryz.func46, Tryz.ntmps46
  go_wp2_with fail
  refine bodyPost_ret (results_c1 (g := w.heap.size + 1) rfl rfl HR2.out Tryz.underlying73 rfl (by kernel_rfl)) rfl ?_
  exact ⟨rfl, HW2.out⟩
end Go.Proofs.Cr
namespace Go.Proofs.Cr
open Go.RowKit Go.Shelf
attribute [local go_sem] Oper.semAt_some eqKind

set_option maxRecDepth 100000 in
set_option maxHeartbeats 1000000 in
theorem before_any (s t : Sg) (hs : 0 ≤ s.sea ∧ s.sea ≤ 9) (ht : 0 ≤ t.sea ∧ t.sea ≤ 9) (w : World) : Calls Tryz.prog 47 #[sv s, sv t] w fun e w' => e = .returned (.int .i64 (s.sea - t.sea)) ∧ Below w.heap.size w w' := by
  obtain ⟨hA1, hB1, hW1⟩ := two_new w (scs s) (scs t) 30 30
  have HW1 := Lib.hid hW1
  obtain ⟨⟨⟨⟨x0, x1⟩, x2, x3⟩, x4⟩, _⟩ := hA1.sg
  obtain ⟨⟨⟨⟨y0, y1⟩, y2, y3⟩, y4⟩, _⟩ := hB1.sg
  have hw : IntKind.i64.wrap (s.sea - t.sea) = s.sea - t.sea := by rw [IntKind.wrap_i64]; omega
  clear hW1
  simp only [scs, sv] at *
  go_enter Tryz.func47, Tryz.ntmps47
  go_wp2_with fail
  go_ret
  exact ⟨rfl, HW1.out⟩
set_option maxRecDepth 100000 in
set_option maxHeartbeats 1000000 in
theorem wanted_any (s : Sg) (a b c sea : Int) (b1 b2 : Nat) (w : World) (h1 : Blk w b1 #[.int .i64 a, .int .i64 b, .int .i64 c] 73) (h2 : Blk w b2 #[.int .i64 sea] 3) :
    Calls Tryz.prog 45 #[sv s, .pointer (some ⟨b1, 0, none⟩), .pointer (some ⟨b2, 0, none⟩)] w fun e w' => e = .returned (.bool (candS (a, b, c) sea s)) ∧ Below w.heap.size w w' := by
  have hA1 := Blk.new w (scs s) 30
  have hW1 := below_alloc w (.cells (scs s) 30)
  have h1 := h1.pass hW1
  have h2 := h2.pass hW1
  have HK := Lib.hid (Kept.of (Nat.le_refl _) hW1.size hW1).drew
  have TK := Lib.hid (fun W => kindOf_any s W)
  have HA := Lib.hid (And.intro hA1 (And.intro h1 h2))
  have HC : Hid (candS (a, b, c) sea s = (decide (s.se = a ∧ s.ob = b ∧ s.li = c) && decide (sea ≤ s.sea))) := Lib.hid (by simp [candS, key3])
  clear hW1 hA1 h1 h2
  have hm : Tryz.prog.follows .mixedOrders = true := by kernel_rfl
  have hfnR : ∀ f, Fence.wide.fn f := fun _ => trivial
  simp only [scs, sv, kv, key3] at *
  go_enter Tryz.func45, Tryz.ntmps45
  go_wp2_with fail
  refine wp_region_J (fun W => (((W.cell? ⟨w.heap.size, 0, none⟩ = some (.int .i64 s.se) ∧ W.cell? ⟨w.heap.size, 1, none⟩ = some (.int .i64 s.ob)) ∧ (W.cell? ⟨w.heap.size, 2, none⟩ = some (.int .i64 s.li) ∧ W.cell? ⟨w.heap.size, 3, none⟩ = some (.int .i64 s.sea))) ∧ W.cell? ⟨w.heap.size, 4, none⟩ = some (.int .i64 s.wi)) ∧ ((W.cell? ⟨b1, 0, none⟩ = some (.int .i64 a) ∧ W.cell? ⟨b1, 1, none⟩ = some (.int .i64 b)) ∧ W.cell? ⟨b1, 2, none⟩ = some (.int .i64 c)) ∧ W.cell? ⟨b2, 0, none⟩ = some (.int .i64 sea)) [] hm ?hCells0 (fun hCells => ?_)
  case hCells0 => exact ⟨HA.out.1.sg.1, HA.out.2.1.three, HA.out.2.2.cell 0⟩
  clear HA
  refine takeB hfnR (by kernel_rfl) 0 (v := ?_) rfl (by kernel_rfl) (fun _ _ _ h => h) (by kernel_rfl) hCells (Or.inl ⟨by rfl, ?_⟩) ?_
  rotate_left 1
  · intro w hSw; (try dsimp only at hSw); go_simp; (try with_reducible rfl)
  try simp only [Act.put, List.setIfInBounds_toArray, List.set_cons_zero, List.set_cons_succ]
  refine takeB hfnR (by kernel_rfl) 2 (v := ?_) rfl (by kernel_rfl) (fun _ _ _ h => h) (by kernel_rfl) hCells (Or.inl ⟨by rfl, ?_⟩) ?_
  rotate_left 1
  · intro w hSw; (try dsimp only at hSw); go_simp; (try with_reducible rfl)
  try simp only [Act.put, List.setIfInBounds_toArray, List.set_cons_zero, List.set_cons_succ]
  refine oneJ 1 (by kernel_rfl) rfl (fun K hK => ?_)
  go_simp
  refine ⟨rfl, ?_⟩
  (refine (callsIn_wide.2 (TK.out _)).mono ?_; rintro e w2 ⟨rfl, hv2⟩)
  refine hK.out _ _ (holdJ ?_ (fun hCells => ?_))
  · clear hK; (try dsimp only); (exact ⟨⟨⟨⟨pc hv2 hCells.1.1.1.1, pc hv2 hCells.1.1.1.2⟩, ⟨pc hv2 hCells.1.1.2.1, pc hv2 hCells.1.1.2.2⟩⟩, pc hv2 hCells.1.2⟩, ⟨⟨⟨pc hv2 hCells.2.1.1.1, pc hv2 hCells.2.1.1.2⟩, pc hv2 hCells.2.1.2⟩, pc hv2 hCells.2.2⟩⟩)
  clear hK K
  try simp only [Act.put, List.setIfInBounds_toArray, List.set_cons_zero, List.set_cons_succ]
  have HK := Lib.hid (HK.out.pass hv2)
  clear hv2

  have HC : Hid (candS (a, b, c) sea s = (eq3 (s.se, s.ob, s.li) (a, b, c) && decide (sea ≤ s.sea))) := Lib.hid rfl
  by_cases q : eq3 (s.se, s.ob, s.li) (a, b, c) = true
  · by_cases q4 : sea ≤ s.sea
    · have HB : Hid (candS (a, b, c) sea s = true) := Lib.hid (by rw [HC.out, q, decide_eq_true q4]; rfl)
      refine takeB hfnR (by kernel_rfl) 3 (v := ?_) rfl (by kernel_rfl) (fun _ _ _ h => h) (by kernel_rfl) hCells (Or.inl ⟨by rfl, ?_⟩) ?_
      rotate_left 1
      · intro w hSw; (try dsimp only at hSw); go_simp; (try with_reducible rfl)
      try simp only [Act.put, List.setIfInBounds_toArray, List.set_cons_zero, List.set_cons_succ]
      refine takeB hfnR (by kernel_rfl) 4 (v := ?_) rfl (by kernel_rfl) (fun _ _ _ h => h) (by kernel_rfl) hCells (Or.inl ⟨by rfl, ?_⟩) ?_
      rotate_left 1
      · intro w hSw; (try dsimp only at hSw); go_simp; (try with_reducible rfl)
      try simp only [Act.put, List.setIfInBounds_toArray, List.set_cons_zero, List.set_cons_succ]
      refine takeB hfnR (by kernel_rfl) 5 (v := ?_) rfl (by kernel_rfl) (fun _ _ _ h => h) (by kernel_rfl) hCells (Or.inl ⟨by rfl, ?_⟩) ?_
      rotate_left 1
      · intro w hSw; (try dsimp only at hSw); go_simp; (try with_reducible rfl)
      try simp only [Act.put, List.setIfInBounds_toArray, List.set_cons_zero, List.set_cons_succ]
      refine takeB hfnR (by kernel_rfl) 6 (v := ?_) rfl (by kernel_rfl) (fun _ _ _ h => h) (by kernel_rfl) hCells (Or.inl ⟨by rfl, ?_⟩) ?_
      rotate_left 1
      · intro w hSw; (try dsimp only at hSw); go_simp; (try with_reducible rfl)
      try simp only [Act.put, List.setIfInBounds_toArray, List.set_cons_zero, List.set_cons_succ]
      refine takeB hfnR (by kernel_rfl) 7 (v := ?_) rfl (by kernel_rfl) (fun _ _ _ h => h) (by kernel_rfl) hCells (Or.inl ⟨by rfl, ?_⟩) ?_
      rotate_left 1
      · intro w hSw; (try dsimp only at hSw); go_simp; (try with_reducible rfl)
      try simp only [Act.put, List.setIfInBounds_toArray, List.set_cons_zero, List.set_cons_succ]
      refine takeB hfnR (by kernel_rfl) 8 (v := ?_) rfl (by kernel_rfl) (fun _ _ _ h => h) (by kernel_rfl) hCells (Or.inl ⟨by rfl, ?_⟩) ?_
      rotate_left 1
      · intro w hSw; (try dsimp only at hSw); go_simp; (try with_reducible rfl)
      try simp only [Act.put, List.setIfInBounds_toArray, List.set_cons_zero, List.set_cons_succ]
      refine takeB hfnR (by kernel_rfl) 9 (v := ?_) rfl (by kernel_rfl) (fun _ _ _ h => h) (by kernel_rfl) hCells (Or.inl ⟨by rfl, ?_⟩) ?_
      rotate_left 1
      · intro w hSw; (try dsimp only at hSw); go_simp; (try with_reducible rfl)
      try simp only [Act.put, List.setIfInBounds_toArray, List.set_cons_zero, List.set_cons_succ]
      refine takeB hfnR (by kernel_rfl) 10 (v := ?_) rfl (by kernel_rfl) (fun _ _ _ h => h) (by kernel_rfl) hCells (Or.inl ⟨by rfl, ?_⟩) ?_
      rotate_left 1
      · intro w hSw; (try dsimp only at hSw); go_simp; (try with_reducible rfl)
      try simp only [Act.put, List.setIfInBounds_toArray, List.set_cons_zero, List.set_cons_succ]
      refine wpAnyJ_done (by kernel_rfl) (NoPan.normal ?_) _
      go_wp2_with fail
      go_ret
      exact ⟨by rw [HB.out]; rfl, HK.out.2.2⟩
    · have HB : Hid (candS (a, b, c) sea s = false) := Lib.hid (by rw [HC.out, q, decide_eq_false q4]; rfl)
      refine takeB hfnR (by kernel_rfl) 3 (v := ?_) rfl (by kernel_rfl) (fun _ _ _ h => h) (by kernel_rfl) hCells (Or.inl ⟨by rfl, ?_⟩) ?_
      rotate_left 1
      · intro w hSw; (try dsimp only at hSw); go_simp; (try with_reducible rfl)
      try simp only [Act.put, List.setIfInBounds_toArray, List.set_cons_zero, List.set_cons_succ]
      refine takeB hfnR (by kernel_rfl) 4 (v := ?_) rfl (by kernel_rfl) (fun _ _ _ h => h) (by kernel_rfl) hCells (Or.inl ⟨by rfl, ?_⟩) ?_
      rotate_left 1
      · intro w hSw; (try dsimp only at hSw); go_simp; (try with_reducible rfl)
      try simp only [Act.put, List.setIfInBounds_toArray, List.set_cons_zero, List.set_cons_succ]
      refine takeB hfnR (by kernel_rfl) 5 (v := ?_) rfl (by kernel_rfl) (fun _ _ _ h => h) (by kernel_rfl) hCells (Or.inl ⟨by rfl, ?_⟩) ?_
      rotate_left 1
      · intro w hSw; (try dsimp only at hSw); go_simp; (try with_reducible rfl)
      try simp only [Act.put, List.setIfInBounds_toArray, List.set_cons_zero, List.set_cons_succ]
      refine takeB hfnR (by kernel_rfl) 6 (v := ?_) rfl (by kernel_rfl) (fun _ _ _ h => h) (by kernel_rfl) hCells (Or.inl ⟨by rfl, ?_⟩) ?_
      rotate_left 1
      · intro w hSw; (try dsimp only at hSw); go_simp; (try with_reducible rfl)
      try simp only [Act.put, List.setIfInBounds_toArray, List.set_cons_zero, List.set_cons_succ]
      refine takeB hfnR (by kernel_rfl) 7 (v := ?_) rfl (by kernel_rfl) (fun _ _ _ h => h) (by kernel_rfl) hCells (Or.inl ⟨by rfl, ?_⟩) ?_
      rotate_left 1
      · intro w hSw; (try dsimp only at hSw); go_simp; (try with_reducible rfl)
      try simp only [Act.put, List.setIfInBounds_toArray, List.set_cons_zero, List.set_cons_succ]
      refine takeB hfnR (by kernel_rfl) 8 (v := ?_) rfl (by kernel_rfl) (fun _ _ _ h => h) (by kernel_rfl) hCells (Or.inl ⟨by rfl, ?_⟩) ?_
      rotate_left 1
      · intro w hSw; (try dsimp only at hSw); go_simp; (try with_reducible rfl)
      try simp only [Act.put, List.setIfInBounds_toArray, List.set_cons_zero, List.set_cons_succ]
      refine takeB hfnR (by kernel_rfl) 9 (v := ?_) rfl (by kernel_rfl) (fun _ _ _ h => h) (by kernel_rfl) hCells (Or.inl ⟨by rfl, ?_⟩) ?_
      rotate_left 1
      · intro w hSw; (try dsimp only at hSw); go_simp; (try with_reducible rfl)
      try simp only [Act.put, List.setIfInBounds_toArray, List.set_cons_zero, List.set_cons_succ]
      refine takeB hfnR (by kernel_rfl) 10 (v := ?_) rfl (by kernel_rfl) (fun _ _ _ h => h) (by kernel_rfl) hCells (Or.inl ⟨by rfl, ?_⟩) ?_
      rotate_left 1
      · intro w hSw; (try dsimp only at hSw); go_simp; (try with_reducible rfl)
      try simp only [Act.put, List.setIfInBounds_toArray, List.set_cons_zero, List.set_cons_succ]
      refine wpAnyJ_done (by kernel_rfl) (NoPan.normal ?_) _
      go_wp2_with fail
      go_ret
      exact ⟨by rw [HB.out]; rfl, HK.out.2.2⟩
  · have q : eq3 (s.se, s.ob, s.li) (a, b, c) = false := by simpa using q
    have HB : Hid (candS (a, b, c) sea s = false) := Lib.hid (by rw [HC.out, q]; rfl)
    refine takeB hfnR (by kernel_rfl) 3 (v := ?_) rfl (by kernel_rfl) (fun _ _ _ h => h) (by kernel_rfl) hCells (Or.inl ⟨by rfl, ?_⟩) ?_
    rotate_left 1
    · intro w hSw; (try dsimp only at hSw); go_simp; (try with_reducible rfl)
    try simp only [Act.put, List.setIfInBounds_toArray, List.set_cons_zero, List.set_cons_succ]
    refine takeB hfnR (by kernel_rfl) 4 (v := ?_) rfl (by kernel_rfl) (fun _ _ _ h => h) (by kernel_rfl) hCells (Or.inl ⟨by rfl, ?_⟩) ?_
    rotate_left 1
    · intro w hSw; (try dsimp only at hSw); go_simp; (try with_reducible rfl)
    try simp only [Act.put, List.setIfInBounds_toArray, List.set_cons_zero, List.set_cons_succ]
    refine takeB hfnR (by kernel_rfl) 5 (v := undef) rfl (by kernel_rfl) (fun _ _ _ h => h) (by kernel_rfl) hCells (Or.inr ⟨by rfl, rfl⟩) ?_
    try simp only [Act.put, List.setIfInBounds_toArray, List.set_cons_zero, List.set_cons_succ]
    refine takeB hfnR (by kernel_rfl) 6 (v := undef) rfl (by kernel_rfl) (fun _ _ _ h => h) (by kernel_rfl) hCells (Or.inr ⟨by rfl, rfl⟩) ?_
    try simp only [Act.put, List.setIfInBounds_toArray, List.set_cons_zero, List.set_cons_succ]
    refine takeB hfnR (by kernel_rfl) 7 (v := undef) rfl (by kernel_rfl) (fun _ _ _ h => h) (by kernel_rfl) hCells (Or.inr ⟨by rfl, rfl⟩) ?_
    try simp only [Act.put, List.setIfInBounds_toArray, List.set_cons_zero, List.set_cons_succ]
    refine takeB hfnR (by kernel_rfl) 8 (v := undef) rfl (by kernel_rfl) (fun _ _ _ h => h) (by kernel_rfl) hCells (Or.inr ⟨by rfl, rfl⟩) ?_
    try simp only [Act.put, List.setIfInBounds_toArray, List.set_cons_zero, List.set_cons_succ]
    refine takeB hfnR (by kernel_rfl) 9 (v := ?_) rfl (by kernel_rfl) (fun _ _ _ h => h) (by kernel_rfl) hCells (Or.inl ⟨by rfl, ?_⟩) ?_
    rotate_left 1
    · intro w hSw; (try dsimp only at hSw); go_simp; (try with_reducible rfl)
    try simp only [Act.put, List.setIfInBounds_toArray, List.set_cons_zero, List.set_cons_succ]
    refine takeB hfnR (by kernel_rfl) 10 (v := ?_) rfl (by kernel_rfl) (fun _ _ _ h => h) (by kernel_rfl) hCells (Or.inl ⟨by rfl, ?_⟩) ?_
    rotate_left 1
    · intro w hSw; (try dsimp only at hSw); go_simp; (try with_reducible rfl)
    try simp only [Act.put, List.setIfInBounds_toArray, List.set_cons_zero, List.set_cons_succ]
    refine wpAnyJ_done (by kernel_rfl) (NoPan.normal ?_) _
    go_wp2_with fail
    go_ret
    exact ⟨by rw [HB.out]; rfl, HK.out.2.2⟩
end Go.Proofs.Cr
namespace Go.Proofs.Cr
open Go.RowKit Go.Shelf
attribute [local go_sem] Oper.semAt_some eqKind

theorem SgAt.cells {w : World} {b o : Nat} {s : Sg} (h : SgAt w b o s) : (((w.cell? ⟨b, o, none⟩ = some (.int .i64 s.se) ∧ w.cell? ⟨b, o + 1, none⟩ = some (.int .i64 s.ob)) ∧ (w.cell? ⟨b, o + 2, none⟩ = some (.int .i64 s.li) ∧ w.cell? ⟨b, o + 3, none⟩ = some (.int .i64 s.sea))) ∧ w.cell? ⟨b, o + 4, none⟩ = some (.int .i64 s.wi)) := h
/-- The least row so far. -/
def LeastAt (L : List Sg) (k : Nat) (s : Sg) : Prop := s ∈ L ∧ ∀ j, j < k → s.sea ≤ (L.getD j .z).sea
theorem getD_mem {L : List Sg} {j : Nat} (h : j < L.length) : L.getD j .z ∈ L := by
  simp [List.getD_eq_getElem?_getD, h]
set_option maxRecDepth 100000 in
set_option maxHeartbeats 2000000 in
/-- 'slices.MinFunc' by the sea. -/
theorem minFunc_any (A : Option Addr) (c : Nat) (L : List Sg) (w : World) (hr : RdS w A L) (hne : 0 < L.length) (hs : ∀ s ∈ L, 0 ≤ s.sea ∧ s.sea ≤ 9) :
    Calls Tryz.prog 96 #[.slice A L.length c, .func (.func 47) #[] #[]] w fun e w' => (∃ s, e = .returned (sv s) ∧ s ∈ L ∧ ∀ t ∈ L, s.sea ≤ t.sea) ∧ Below w.heap.size w w' := by
  obtain ⟨N, hN⟩ : ∃ N, N = L.length := ⟨_, rfl⟩
  obtain ⟨b, off, rfl, hb, hcs⟩ := hr.2 hne
  have hl9 := hr.1
  rw [← hN] at hl9 hcs hne ⊢
  have HN := Lib.hid hN
  have HS := Lib.hid hs
  have HCS := Lib.hid hcs
  have HI := Lib.hid (show LeastAt L 1 (L.getD 0 .z) from ⟨getD_mem (by omega), fun j hj => by rw [show j = 0 by omega]; exact Int.le_refl _⟩)
  have hx := (hcs 0 hne).cells
  obtain ⟨hA1, hB1, hW1⟩ := two_new w #[.int .i64 0, .int .i64 0, .int .i64 0, .int .i64 0, .int .i64 0] (scs (L.getD 0 .z)) 30 30
  have HW1 := Lib.hid hW1
  have g := Lib.hid hB1
  have gR := Lib.hid hA1
  rw [Nat.zero_mul, Nat.add_zero] at hx
  have kc : ∀ o v, w.cell? ⟨b, o, none⟩ = some v → (w.alloc (.cells #[.int .i64 0, .int .i64 0, .int .i64 0, .int .i64 0, .int .i64 0] 30)).cell? ⟨b, o, none⟩ = some v := fun o v hv => pc (below_alloc w _) hv
  obtain ⟨⟨⟨h0, h1⟩, h2, h3⟩, h4⟩ := hx
  have h0 := kc _ _ h0
  have h1 := kc _ _ h1
  have h2 := kc _ _ h2
  have h3 := kc _ _ h3
  have h4 := kc _ _ h4
  have hn1 : ¬ (N : Int) < 1 := by omega
  clear hcs hr hs hN hW1 kc hA1 hB1
  generalize L.getD 0 .z = x at *
  have hm : Tryz.prog.follows .mixedOrders = true := by kernel_rfl
  have hfnR : ∀ f, Fence.wide.fn f := fun _ => trivial
  simp only [scs] at *
  go_enter Tryz.func96, Tryz.ntmps96
  go_wp2_with fail
  go_loopw [6] (fun i wr => ∃ (k : Nat) (s : Sg), 1 ≤ k ∧ k ≤ N ∧ i = .int .i64 (k : Int) ∧ Blk wr w.heap.size #[.int .i64 0, .int .i64 0, .int .i64 0, .int .i64 0, .int .i64 0] 30 ∧ Blk wr (w.heap.size + 1) (scs s) 30 ∧ Hid (LeastAt L k s) ∧ Below w.heap.size w wr)
    (fun i _ => (N - intOf i).toNat)
  case atStart => exact ⟨1, x, Nat.le_refl _, hne, rfl, gR.out, g.out, HI, HW1.out⟩
  case round =>
    obtain ⟨k, s, hk1, hk, rfl, hZ, hG, hA, hB⟩ := hrel
    have HB := Lib.hid hB
    by_cases hlt : k < N
    · have hcx := ((HCS.out k hlt).below hB hb).cells
      have hxm : L.getD k .z ∈ L := getD_mem (by have := HN.out; omega)
      obtain ⟨y, hy⟩ : ∃ y, y = L.getD k .z := ⟨_, rfl⟩
      rw [← hy] at hcx hxm
      have HY := Lib.hid hy
      have HM := Lib.hid hxm
      have TB := Lib.hid (fun W => before_any y s (HS.out _ hxm) (HS.out _ hA.out.1) W)
      have HK := Lib.hid ((Kept.of (n := w.heap.size) (m := w.heap.size + 1 + 1) (by omega) (by have := hG.lt; omega) hB).drew)
      have hZ := hZ.drew
      have hG := hG.drew
      have hkl : (k : Int) < N := by omega
      have hk0 : ¬ (k : Int) < 0 := by omega
      clear hy hxm hB h0 h1 h2 h3 h4 hn1
      simp only [sv] at TB
      go_wp2_with fail
      refine wp_region_J (fun W => (((W.cell? ⟨b, off + k * 5, none⟩ = some (.int .i64 y.se) ∧ W.cell? ⟨b, off + k * 5 + 1, none⟩ = some (.int .i64 y.ob)) ∧ (W.cell? ⟨b, off + k * 5 + 2, none⟩ = some (.int .i64 y.li) ∧ W.cell? ⟨b, off + k * 5 + 3, none⟩ = some (.int .i64 y.sea))) ∧ W.cell? ⟨b, off + k * 5 + 4, none⟩ = some (.int .i64 y.wi)) ∧ (((W.cell? ⟨w.heap.size + 1, 0, none⟩ = some (.int .i64 s.se) ∧ W.cell? ⟨w.heap.size + 1, 1, none⟩ = some (.int .i64 s.ob)) ∧ (W.cell? ⟨w.heap.size + 1, 2, none⟩ = some (.int .i64 s.li) ∧ W.cell? ⟨w.heap.size + 1, 3, none⟩ = some (.int .i64 s.sea))) ∧ W.cell? ⟨w.heap.size + 1, 4, none⟩ = some (.int .i64 s.wi))) [] hm ?hCells0 (fun hCells => ?_)
      case hCells0 => exact ⟨hcx, hG.sg.1⟩
      clear hcx
      refine takeB hfnR (by kernel_rfl) 0 (v := ?_) rfl (by kernel_rfl) (fun _ _ _ h => h) (by kernel_rfl) hCells (Or.inl ⟨by rfl, ?_⟩) ?_
      rotate_left 1
      · intro w hSw; (try dsimp only at hSw); go_simp; (try with_reducible rfl)
      try simp only [Act.put, List.setIfInBounds_toArray, List.set_cons_zero, List.set_cons_succ]
      refine takeB hfnR (by kernel_rfl) 1 (v := ?_) rfl (by kernel_rfl) (fun _ _ _ h => h) (by kernel_rfl) hCells (Or.inl ⟨by rfl, ?_⟩) ?_
      rotate_left 1
      · intro w hSw; (try dsimp only at hSw); go_simp; (try with_reducible rfl)
      try simp only [Act.put, List.setIfInBounds_toArray, List.set_cons_zero, List.set_cons_succ]
      refine takeB hfnR (by kernel_rfl) 2 (v := ?_) rfl (by kernel_rfl) (fun _ _ _ h => h) (by kernel_rfl) hCells (Or.inl ⟨by rfl, ?_⟩) ?_
      rotate_left 1
      · intro w hSw; (try dsimp only at hSw); go_simp; (try with_reducible rfl)
      try simp only [Act.put, List.setIfInBounds_toArray, List.set_cons_zero, List.set_cons_succ]
      refine takeB hfnR (by kernel_rfl) 3 (v := ?_) rfl (by kernel_rfl) (fun _ _ _ h => h) (by kernel_rfl) hCells (Or.inl ⟨by rfl, ?_⟩) ?_
      rotate_left 1
      · intro w hSw; (try dsimp only at hSw); go_simp; (try with_reducible rfl)
      try simp only [Act.put, List.setIfInBounds_toArray, List.set_cons_zero, List.set_cons_succ]
      refine takeB hfnR (by kernel_rfl) 4 (v := ?_) rfl (by kernel_rfl) (fun _ _ _ h => h) (by kernel_rfl) hCells (Or.inl ⟨by rfl, ?_⟩) ?_
      rotate_left 1
      · intro w hSw; (try dsimp only at hSw); go_simp; (try with_reducible rfl)
      try simp only [Act.put, List.setIfInBounds_toArray, List.set_cons_zero, List.set_cons_succ]
      refine takeB hfnR (by kernel_rfl) 5 (v := ?_) rfl (by kernel_rfl) (fun _ _ _ h => h) (by kernel_rfl) hCells (Or.inl ⟨by rfl, ?_⟩) ?_
      rotate_left 1
      · intro w hSw; (try dsimp only at hSw); go_simp; (try with_reducible rfl)
      try simp only [Act.put, List.setIfInBounds_toArray, List.set_cons_zero, List.set_cons_succ]
      refine oneJ 6 (by kernel_rfl) rfl (fun K hK => ?_)
      go_simp
      refine ⟨rfl, ?_⟩
      (refine (callsIn_wide.2 (TB.out _)).mono ?_; rintro e w2 ⟨rfl, hv2⟩)
      refine hK.out _ _ (holdJ ?_ (fun hCells => ?_))
      · clear hK; (try dsimp only); (exact ⟨⟨⟨⟨pc hv2 hCells.1.1.1.1, pc hv2 hCells.1.1.1.2⟩, ⟨pc hv2 hCells.1.1.2.1, pc hv2 hCells.1.1.2.2⟩⟩, pc hv2 hCells.1.2⟩, ⟨⟨⟨pc hv2 hCells.2.1.1.1, pc hv2 hCells.2.1.1.2⟩, ⟨pc hv2 hCells.2.1.2.1, pc hv2 hCells.2.1.2.2⟩⟩, pc hv2 hCells.2.2⟩⟩)
      clear hK K
      try simp only [Act.put, List.setIfInBounds_toArray, List.set_cons_zero, List.set_cons_succ]
      have HK := Lib.hid (HK.out.pass hv2)
      have hZ := hZ.pass hv2
      have hG := hG.pass hv2
      clear hv2
      by_cases hd : y.sea - s.sea < 0
      ·
        refine takeB hfnR (by kernel_rfl) 7 (v := ?_) rfl (by kernel_rfl) (fun _ _ _ h => h) (by kernel_rfl) hCells (Or.inl ⟨by rfl, ?_⟩) ?_
        rotate_left 1
        · intro w hSw; (try dsimp only at hSw); go_simp; (try with_reducible rfl)
        try simp only [Act.put, List.setIfInBounds_toArray, List.set_cons_zero, List.set_cons_succ]
        refine wpAnyJ_done (by kernel_rfl) (NoPan.normal ?_) _
        have HL : Hid (LeastAt L (k + 1) y) := Lib.hid ⟨HM.out, fun j hj => by
          rcases Nat.lt_or_eq_of_le (Nat.le_of_lt_succ hj) with h | h
          · have := hA.out.2 j h; omega
          · rw [h, ← HY.out]; exact Int.le_refl _⟩
        clear hd
        obtain ⟨hc1, hc2⟩ := hCells
        obtain ⟨⟨⟨z0, z1⟩, z2, z3⟩, z4⟩ := hc1
        obtain ⟨_, ⟨⟨f0, f1⟩, f2, f3⟩, f4⟩ := hG.sg
        go_wp2_with fail
        go_roundw
        case rel =>
          have hk1 : k + 1 ≤ N := hlt
          exact ⟨k + 1, y, by omega, hk1, by simp, hZ.far5 (by omega) y, hG.put5 y, HL, below_put5 HK.out.2.2 (by omega) y⟩
        case measure =>
          simp [intOf]
          omega
      ·
        refine takeB hfnR (by kernel_rfl) 7 (v := ?_) rfl (by kernel_rfl) (fun _ _ _ h => h) (by kernel_rfl) hCells (Or.inl ⟨by rfl, ?_⟩) ?_
        rotate_left 1
        · intro w hSw; (try dsimp only at hSw); go_simp; (try with_reducible rfl)
        try simp only [Act.put, List.setIfInBounds_toArray, List.set_cons_zero, List.set_cons_succ]
        refine wpAnyJ_done (by kernel_rfl) (NoPan.normal ?_) _
        have HL : Hid (LeastAt L (k + 1) s) := Lib.hid ⟨hA.out.1, fun j hj => by
          rcases Nat.lt_or_eq_of_le (Nat.le_of_lt_succ hj) with h | h
          · exact hA.out.2 j h
          · rw [h, ← HY.out]; omega⟩
        clear hd
        go_wp2_with fail
        go_roundw
        case rel =>
          have hk1 : k + 1 ≤ N := hlt
          exact ⟨k + 1, s, by omega, hk1, by simp, hZ, hG, HL, HK.out.2.2⟩
        case measure =>
          simp [intOf]
          omega
    · have hkk : k = N := by omega
      subst hkk
      clear hB
      obtain ⟨⟨⟨⟨z0, z1⟩, z2, z3⟩, z4⟩, _⟩ := hG.sg
      obtain ⟨_, ⟨⟨f0, f1⟩, f2, f3⟩, f4⟩ := Blk.sg (s := Sg.z) hZ
      go_wp2_with fail
      refine bodyPost_ret (results_c1 (g := w.heap.size) rfl rfl (hZ.put5 s) Tryz.underlying30 rfl (by kernel_rfl)) rfl ?_
      refine ⟨⟨s, rfl, hA.out.1, fun t ht => ?_⟩, below_put5 HB.out (Nat.le_refl _) s⟩
      obtain ⟨j, hj, rfl⟩ := mem_at ht
      exact hA.out.2 j (by rw [HN.out]; exact hj)
end Go.Proofs.Cr
namespace Go.Proofs.Cr
open Go.RowKit Go.Shelf
attribute [local go_sem] Oper.semAt_some

def z5 : Array Value := #[.int .i64 0, .int .i64 0, .int .i64 0, .int .i64 0, .int .i64 0]
theorem info30 : (Tryz.prog.info? 30).map (fun i => (i.zero, i.size, i.bytes)) = some (some (.agg z5), 5, 40) := by kernel_rfl
theorem row_new (W : World) (s : Sg) : ∀ j u, (sgL s)[j]? = some u → (W.alloc (.cells (scs s) 30)).cell? ((⟨W.heap.size, 0, none⟩ : Addr).add j) = some u := by
  intro j u hu
  have hB := Blk.new W (scs s) 30
  have : (scs s)[j]? = some u := by simpa [scs, sgL] using hu
  by_cases h0 : j = 0
  · subst h0; exact (hB.cell 0).trans this
  · have := (hB.cell j).trans this
    simpa [Addr.add, h0] using this
section
variable {ops : Array Oper} {rest : List Oper} {o : Oper} {a : Act} {Q : Exit → Act → World → Prop}
/-- 'append(v, s)', s a row: behind 'at_builtin'. -/
theorem app_sg {w0 W : World} {base : Nat} {v : Value} {L : List Sg} (s : Sg) {sl x : Operand} (hgd : o.guard = none)
    (ho : o.op = .call { callee := .builtin .append, args := #[sl, x], argTypes := #[22, 22] }) (hs : a.eval sl = v) (hx : a.eval x = .slice (some ⟨W.heap.size, 0, none⟩) 1 1) (HO : RowS W base 30 v L) (HB : Below base w0 W) (hbase : base ≤ W.heap.size) (hl : L.length ≤ 1000000)
    (h : ∀ v1 w1, RowS w1 base 30 v1 (L ++ [s]) → Below base w0 w1 → W.grownBy w1 v.ownBlock → (v1.ownBlock = v.ownBlock ∨ v1.ownBlock = some (W.heap.size + 1)) → wpList Tryz.prog ops Q rest (a.put o.dst v1) w1) :
    wpList Tryz.prog ops Q (o :: rest) a (W.alloc (.cells (scs s) 30)) := by
  obtain ⟨i0, hi, hzz⟩ := Option.map_eq_some_iff.1 info30
  simp only [Prod.mk.injEq] at hzz
  obtain ⟨hz0, hz1, hz2⟩ := hzz
  refine wpList_append_own_at (W.alloc (.cells (scs s) 30)) hgd sl x 22 ho base 30 i0 (.agg z5) 5 40 Tryz.underlying22 hi hz0 hz1 hz2 rfl (by decide) v L.length (L.flatMap sgL) hs (World.ownsRow.alloc HO _) ⟨W.heap.size, 0, none⟩ 1 1 (sgL s) hx rfl
    (row_new W s) (by intro u hu; simp only [sgL, List.mem_cons, List.mem_nil_iff, or_false] at hu; rcases hu with rfl | rfl | rfl | rfl | rfl <;> rfl) (by unfold maxLen; omega) (by omega) (by simp; omega) ?_
  intro v1 w1 hown hg _ hat
  refine h v1 w1 ?_ ?_ ((World.grownBy_alloc W _ _).trans hg) (by simpa using hat)
  · unfold RowS
    rw [List.flatMap_append, List.length_append]
    simpa using hown
  · refine (HB.alloc hbase _).grown hg (by simp; omega) ?_
    intro j hj
    exact (World.ownsRow.lt HO j hj).1
end
theorem filter_snoc (h : Sg → Bool) (L : List Sg) {k : Nat} (hk : k < L.length) : (L.take (k + 1)).filter h = (L.take k).filter h ++ if h (L.getD k .z) = true then [L.getD k .z] else [] := by
  rw [take_snoc L .z hk, List.filter_append]
  congr 1
  rw [List.filter_cons]
  split <;> simp
set_option maxRecDepth 100000 in
set_option maxHeartbeats 2000000 in
/-- 'least' by the sea. -/
theorem least_any (K : Nat) (caps : Array Value) (h : Sg → Bool) (A : Option Addr) (c : Nat) (L : List Sg) (w : World) (hr : RdS w A L) (eK : ∀ args w, (callFunc K args).run Tryz.prog w = .ok (.enter K args) w)
    (hK : ∀ s W, Below w.heap.size w W → Calls Tryz.prog K (#[sv s] ++ caps) W fun e w' => e = .returned (.bool (h s)) ∧ Below W.heap.size W w') (hs : ∀ s ∈ L, 0 ≤ s.sea ∧ s.sea ≤ 9) (hl : L.length ≤ 1000) :
    Calls Tryz.prog 44 #[.slice A L.length c, .func (.func K) #[] caps, .func (.func 47) #[] #[]] w fun e w' =>
      (((∀ s ∈ L, h s = false) ∧ e = .returned (.tuple #[sv .z, .bool false])) ∨ ∃ s, s ∈ L ∧ h s = true ∧ (∀ t ∈ L, h t = true → s.sea ≤ t.sea) ∧ e = .returned (.tuple #[sv s, .bool true])) ∧ Below w.heap.size w w' := by
  obtain ⟨N, hN⟩ : ∃ N, N = L.length := ⟨_, rfl⟩
  have hr2 := hr.2
  rw [← hN] at hl hr2 ⊢
  have HN := Lib.hid hN
  have HS := Lib.hid hs
  have HR := Lib.hid hr2
  have HKK := Lib.hid hK
  have HZ := Lib.hid (Blk.new w z5 30)
  have HW := Lib.hid (below_alloc w (.cells z5 30))
  clear hr hr2 hs hN hK
  go_enter Tryz.func44, Tryz.ntmps44
  go_wp2_with fail
  go_loopw [8, 14] (fun v i wr => ∃ k : Nat, k ≤ N ∧ i = .int .i64 (k : Int) ∧ RowS wr (w.heap.size + 1) 30 v ((L.take k).filter h) ∧ Below (w.heap.size + 1) (w.alloc (.cells z5 30)) wr)
    (fun _ i _ => (N - intOf i).toNat)
  case atStart => exact ⟨0, Nat.zero_le _, rfl, World.ownsRow_nil _ _ _ _, Below.refl _ _⟩
  case round =>
    obtain ⟨k, hk, rfl, hO, hB⟩ := hrel
    have HB := Lib.hid (HW.out.trans (hB.mono (Nat.le_succ _)))
    have hsz : w.heap.size + 1 ≤ wr.heap.size := by have := hB.size; simpa using this
    have HBB := Lib.hid hB
    by_cases hlt : k < N
    · obtain ⟨b, off, rfl, hb, hcs⟩ := HR.out (by omega)
      have hcx := ((hcs k hlt).below HB.out hb).cells
      have HF := Lib.hid (filter_snoc h L (by have := HN.out; omega : k < L.length))
      obtain ⟨y, hy⟩ : ∃ y, y = L.getD k .z := ⟨_, rfl⟩
      rw [← hy] at hcx HF
      have TK := Lib.hid (HKK.out y (wr.alloc (.cells (scs y) 30)) (HB.out.alloc (by omega) _))
      have hG := Blk.new wr (scs y) 30
      have hW2 := below_alloc wr (.cells (scs y) 30)
      have hO1 := World.ownsRow.alloc hO (.cells (scs y) 30)
      have hkl : (k : Int) < N := by omega
      have hk0 : ¬ (k : Int) < 0 := by omega
      have HO1 := Lib.hid (show RowS (wr.alloc (.cells (scs y) 30)) (w.heap.size + 1) 30 _ ((L.take k).filter h) from hO1)
      have HB1 := Lib.hid (hB.alloc hsz (.cells (scs y) 30))
      have HZS := Lib.hid hsz
      obtain ⟨⟨⟨h0, h1⟩, h2, h3⟩, h4⟩ := hcx
      obtain ⟨⟨⟨⟨z0, z1⟩, z2, z3⟩, z4⟩, ⟨⟨f0, f1⟩, f2, f3⟩, f4⟩ := hG.sg
      clear hy hB hcs hO hO1 hW2
      simp only [sv] at TK
      go_wp2_with fail
      refine TK.out.mono ?_
      rintro e w2 ⟨rfl, hb2⟩
      have HB2 := Lib.hid (HB1.out.trans (hb2.mono (Nat.le_trans HZS.out (by simp))))
      have HO2 := Lib.hid (show RowS w2 (w.heap.size + 1) 30 _ ((L.take k).filter h) from World.ownsRow.kept HO1.out (grown_of_below hb2 none) (by cases Value.ownBlock _ <;> simp))
      have hG2 := hG.pass hb2
      have HS2 := Lib.hid (show w.heap.size + 1 ≤ w2.heap.size from Nat.le_trans HZS.out (Nat.le_trans (by simp) hb2.size))
      have HBW := Lib.hid (HB.out.trans ((below_alloc wr _).mono (by omega : w.heap.size ≤ wr.heap.size) |>.trans (hb2.mono (by simp; omega))))
      obtain ⟨t, ht⟩ : ∃ t, t = h y := ⟨_, rfl⟩
      rw [← ht] at HF ⊢
      have HT := Lib.hid ht
      clear ht hb2 z0 z1 z2 z3 z4 f0 f1 f2 f3 f4 h0 h1 h2 h3 h4 hG
      obtain ⟨⟨⟨⟨z0, z1⟩, z2, z3⟩, z4⟩, _⟩ := hG2.sg
      cases t with
      | true =>
        go_wp2_with (at_builtin; refine app_sg y rfl rfl rfl rfl HO2.out HB2.out HS2.out (by have := List.length_filter_le h (L.take k); simp at this; omega) ?_)
        intro v1 w3 hown hbel _ _
        have HF2 := Lib.hid (show RowS w3 (w.heap.size + 1) 30 v1 ((L.take (k + 1)).filter h) by rw [HF.out]; simpa using hown)
        have HB3 := Lib.hid hbel
        clear hown hbel
        go_wp2_with fail
        go_roundw
        case rel =>
          have hk1 : k + 1 ≤ N := hlt
          exact ⟨k + 1, hk1, by simp, HF2.out, HB3.out⟩
        case measure =>
          simp [intOf]
          omega
      | false =>
        have HF2 := Lib.hid (show RowS w2 (w.heap.size + 1) 30 _ ((L.take (k + 1)).filter h) by rw [HF.out]; simpa using HO2.out)
        go_wp2_with fail
        go_roundw
        case rel =>
          have hk1 : k + 1 ≤ N := hlt
          exact ⟨k + 1, hk1, by simp, HF2.out, HB2.out⟩
        case measure =>
          simp [intOf]
          omega
    · have hkk : k = N := by omega
      have hall : L.take k = L := by rw [hkk, HN.out, List.take_length]
      rw [hall] at hO
      obtain ⟨A2, c2, hv, hc2, hrd⟩ := hO.reads (by have := List.length_filter_le h L; have := HN.out; omega)
      subst hkk
      subst hv
      have HZ2 := HZ.out.below hB (Nat.lt_succ_self _)
      by_cases hE : L.filter h = []
      · have hE0 : (L.filter h).length = 0 := by rw [hE]; rfl
        rw [hE0]
        have HE := Lib.hid hE
        have HWA := Lib.hid (HB.out.alloc (by omega : w.heap.size ≤ wr.heap.size) (.cells z5 30))
        have HZA := Lib.hid (HZ2.alloc (.cells z5 30))
        have hNE := Blk.new wr z5 30
        obtain ⟨⟨⟨⟨y0, y1⟩, y2, y3⟩, y4⟩, _⟩ := Blk.sg (s := Sg.z) hNE
        obtain ⟨⟨⟨⟨z0, z1⟩, z2, z3⟩, z4⟩, ⟨⟨f0, f1⟩, f2, f3⟩, f4⟩ := Blk.sg (s := Sg.z) HZA.out
        clear hE hE0 hall hrd hB hO hNE HZ2
        simp only [z5] at y0 y1 y2 y3 y4 z0 z1 z2 z3 z4 f0 f1 f2 f3 f4
        go_wp2_with fail
        refine bodyPost_ret (results_ct (g := w.heap.size) rfl rfl (HZA.out.put5 .z) Tryz.underlying30 rfl (by kernel_rfl)) rfl ?_
        exact ⟨.inl ⟨fun s hs => by simpa using List.filter_eq_nil_iff.1 HE.out s hs, rfl⟩, below_put5 HWA.out (Nat.le_refl _) _⟩
      · have hE0 : 0 < (L.filter h).length := List.length_pos_iff.2 hE
        have TM := Lib.hid (minFunc_any A2 c2 (L.filter h) wr hrd hE0 (fun s hs => HS.out s (List.mem_filter.1 hs).1))
        obtain ⟨M, hM⟩ : ∃ M, M = (L.filter h).length := ⟨_, rfl⟩
        rw [← hM] at TM hE0 ⊢
        have hM0 : ¬ (M : Int) = 0 := by omega
        simp only [sv] at TM
        clear hE hM hall hrd hB hO
        go_wp2_with fail
        refine TM.out.mono ?_
        rintro e w3 ⟨⟨s, rfl, hs1, hs2⟩, hb3⟩
        have HZ3 := HZ2.pass hb3
        have HS2 := Lib.hid (And.intro hs1 hs2)
        have HB3 := Lib.hid (HB.out.trans (hb3.mono HB.out.size))
        obtain ⟨_, ⟨⟨f0, f1⟩, f2, f3⟩, f4⟩ := Blk.sg (s := Sg.z) HZ3
        obtain ⟨⟨⟨⟨z0, z1⟩, z2, z3⟩, z4⟩, _⟩ := Blk.sg (s := Sg.z) HZ3
        clear hs1 hs2 hb3 HZ2
        go_wp2_with fail
        refine bodyPost_ret (results_ct (g := w.heap.size) rfl rfl (HZ3.put5 s) Tryz.underlying30 rfl (by kernel_rfl)) rfl ?_
        exact ⟨.inr ⟨s, (List.mem_filter.1 HS2.out.1).1, (List.mem_filter.1 HS2.out.1).2, fun t ht hht => HS2.out.2 t (List.mem_filter.2 ⟨ht, hht⟩), rfl⟩, below_put5 HB3.out (Nat.le_refl _) s⟩
end Go.Proofs.Cr
namespace Go.Proofs.Cr
open Go.RowKit Go.Shelf
attribute [local go_sem] Oper.semAt_some

theorem laidOut73 : laidOutB Tryz.prog = true := by kernel_rfl
theorem row73 : 73 < Tryz.prog.types.size := of_decide_eq_true (by kernel_rfl)
/-- Kinds are keys. -/
theorem kind_keyed : Maps.Keyed Tryz.prog 73 := Maps.Keyed.of_law (deep_law_laid laidOut73 (m := 2) (by omega) row73 (by kernel_rfl) (by kernel_rfl))
theorem lits3 (d : Nat) (n : Int) (h : inB n 0 63 = true) : Tryz.prog.keyLits (d + 1) 3 [.int .i64 n] = some [.int .i64 n] := by
  simp only [inB, Bool.and_eq_true, decide_eq_true_eq] at h
  have hw : (Lit.int .i64 n).wf = true := by simp [Lit.wf, IntKind.min, IntKind.max, IntKind.bits, IntKind.signed]; omega
  unfold Program.keyLits
  rw [Tryz.underlying3]
  simp [hw]
theorem kind_key (κ : Int × Int × Int) (h : okK κ = true) : ∃ l, keyOf Tryz.prog 73 (kv κ) = some l := by
  simp only [okK, Bool.and_eq_true] at h
  obtain ⟨h1, h2, h3⟩ := h
  have e1 : Tryz.prog.cellsOf 73 = 3 := by kernel_rfl
  have e2 : Tryz.prog.cellsOf 3 = 1 := by kernel_rfl
  have e3 : Tryz.prog.keyType 73 = true := by kernel_rfl
  have e4 : (kv κ).formed Tryz.prog 73 = true := by
    simp [kv, Value.formed, Tryz.underlying73, e1]
  unfold keyOf
  rw [Tryz.underlying73]
  simp only [e3, e4, Bool.and_self, if_true]
  obtain ⟨m, hm⟩ : ∃ m, Tryz.prog.types.size = m + 1 := ⟨Tryz.prog.types.size - 1, by have := row73; omega⟩
  rw [hm]
  have : Tryz.prog.keyLits (m + 1 + 1) 73 (kv κ).cells.toList = some [.int .i64 κ.1, .int .i64 κ.2.1, .int .i64 κ.2.2] := by
    unfold Program.keyLits
    rw [Tryz.underlying73]
    simp only [kv, Value.cells, e1, e2, List.length_cons, List.length_nil, if_true]
    simp [List.range_succ, lits3 m _ h1, lits3 m _ h2, lits3 m _ h3]
  rw [this]
  exact ⟨_, rfl⟩
theorem index73_0 (x y z : Int) (w : World) : (Instr.index 73 (.agg #[.int .i64 x, .int .i64 y, .int .i64 z]) (.int .i64 0)).run Tryz.prog w = .ok (.int .i64 x) w := by kernel_rfl
theorem index73_1 (x y z : Int) (w : World) : (Instr.index 73 (.agg #[.int .i64 x, .int .i64 y, .int .i64 z]) (.int .i64 1)).run Tryz.prog w = .ok (.int .i64 y) w := by kernel_rfl
theorem index73_2 (x y z : Int) (w : World) : (Instr.index 73 (.agg #[.int .i64 x, .int .i64 y, .int .i64 z]) (.int .i64 2)).run Tryz.prog w = .ok (.int .i64 z) w := by kernel_rfl
theorem zero22 (w : World) : (zeroValue 22).run Tryz.prog w = .ok (.slice none 0 0) w := by kernel_rfl
end Go.Proofs.Cr
