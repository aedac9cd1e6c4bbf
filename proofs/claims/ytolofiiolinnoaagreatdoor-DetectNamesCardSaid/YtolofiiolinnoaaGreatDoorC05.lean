/- Contracts of functions that the laws reach, and plain lemmas. Part 5. -/
import Derived.Lib.ParseIntB
import Derived.Laws.Rows
import Derived.Deep.LoopGhost
import Derived.Test.YtolofiiolinnoaaGreatDoorC03
import Derived.Test.YtolofiiolinnoaaGreatDoorC04
set_option linter.all false
namespace Go.Proofs.Cr
open Go.RowKit Go.Shelf
attribute [local go_sem] Oper.semAt_some

theorem numB_le9 {u : Nat} (h : u < 1000000000) : (numB u).size ≤ 9 := by
  rw [numB_size]; exact (decDigits_len_le (by decide)).2 h
theorem textL_len {xs : List Nat} (h : Bnd B9 xs) : (textL 9 xs).length ≤ 9 * xs.length + 1 := by
  induction xs with
  | nil => simp [textL]
  | cons x xs ih =>
    cases xs with
    | nil =>
      have := (decDigits_len_le (k := 9) (by decide)).2 (show x < 10 ^ 9 from h.head)
      simp [textL]; omega
    | cons y ys =>
      have h1 := ih h.tail
      have h2 := pad_len (k := 9) (n := x) (by decide) h.head
      simp only [textL, List.length_append, h2, List.length_cons] at h1 ⊢
      omega
theorem textL_step {xs : List Nat} {j : Nat} (h : j + 1 < xs.length) : textL 9 (xs.drop j) = textL 9 (xs.drop (j + 1)) ++ pad 9 (xs.getD j 0) := by
  rw [List.drop_eq_getElem_cons (show j < xs.length by omega), List.drop_eq_getElem_cons h]
  simp [textL, List.getD_eq_getElem?_getD, show j < xs.length by omega]
set_option maxRecDepth 100000 in
set_option maxHeartbeats 4000000 in
theorem text_in {F : Fence} (hW : Wide F) (n : Nat) (hn : 5 ≤ n) (xs : List Nat) (A1 : Option Addr) (c1 : Nat) (w : World) (h1 : Reads w .u64 A1 xs)
    (ha : Bnd B9 xs) (hs1 : xs.length ≤ 100000) (h0L : 0 < xs.length) (hT : TabW w) (hc1 : xs.length ≤ c1) :
    CallsIn F n Tryz.prog 111 #[.slice A1 xs.length c1] w fun e w' => e = .returned (.string ⟨(textL 9 xs).toArray⟩) ∧ Below w.heap.size w w' := by
  have hro := hW.ro
  have h0 : 1 ≤ n := by omega
  have hf := hW.fn 115
  have hf2 := hW.fn 144
  have hf3 := hW.fn 143
  have hf4 := hW.fn 145
  have hf5 := hW.fn 146
  refine callsIn_of_wp_marks Tryz.func111 rfl (hW.fn _) ?_ hW.ro
  simp only [Tryz.ntmps111, List.size_toArray, List.length_cons, List.length_nil, Nat.reduceAdd, Nat.reduceSub, Array.replicate_succ, Array.replicate_zero, List.push_toArray, List.append_toArray, List.nil_append, List.cons_append]
  obtain ⟨N, hN⟩ : ∃ N, N = xs.length := ⟨_, rfl⟩
  obtain ⟨L, hL⟩ : ∃ L, L + 1 = N := ⟨N - 1, by omega⟩
  obtain ⟨top, htop⟩ : ∃ top, top = xs.getD L 0 := ⟨_, rfl⟩
  obtain ⟨b, off, rfl, hb, hcell⟩ := h1.2 h0L
  have hct := hcell L (by omega)
  rw [← htop] at hct
  have htB : top < 1000000000 := by rw [htop]; exact ha.getD B9_pos _
  rw [← hN]
  have e1 : (N : Int) - 1 = (L : Int) := by omega
  have e0 : ((N : Int) == 0) = false := beq_eq_false_iff_ne.2 (by omega)
  have hLB : L ≤ 100000 := by omega
  have hLN : L < N := by omega
  have hNc : N ≤ c1 := by omega
  have HL := Lib.hid hL; have HTop := Lib.hid htop; have HN := Lib.hid hN
  have TF := Lib.hid (fun W h => formatUint_any top W htB h)
  have HT := Lib.hid hT
  have hcta : (w.alloc (.cells #[.pointer none, .slice none 0 0] 169)).cell? ⟨b, off + L, none⟩ = some (.int .u64 top) := ((Below.alloc (Below.refl _ w) (Nat.le_refl _) _).cell (p := ⟨b, off + L, none⟩) hb).trans hct
  clear hL htop hcell hT hN hs1 hct h0L hc1
  have hz9 := numB_le9 htB
  gi_wp2_with (first
    | (gi_at_call 144; refine (hW.tr (TF.out _ (HT.out.below (Below.alloc (Below.refl _ w) (Nat.le_refl _) _) (Nat.le_refl _)))).mono ?_; rintro e w2 ⟨rfl, hb2⟩)
    | (gi_at_call 143; refine (hW.tr (writeString_any w.heap.size w.heap.size [] (numB top) w2 (isBuilder_below (Lib.fresh_isBuilder 169 5 w) hb2 (Nat.le_refl _)) (by rw [List.length_nil]; omega) (by have := hb2.size; simp at this; omega))).mono ?_; rintro e w3 ⟨rfl, hb3, hB3, hK3⟩)
    | (gi_at_call 115; refine (hW.tr (back_any _ _ _ _)).mono ?_; rintro e w' ⟨rfl, rfl⟩))
  obtain ⟨ys, hys⟩ : ∃ ys, ys = xs.take L := ⟨_, rfl⟩
  have hyl : ys.length = L := by rw [hys]; simp; have := HN.out; omega
  have hsz3 : w.heap.size < w3.heap.size := by have := hb2.size; have := hB3.size; simp at *; omega
  have hBw3 : Below w.heap.size w w3 := (Below.alloc (Below.refl _ w) (Nat.le_refl _) _).trans ((hb2.mono (by simp)).trans hB3)
  have hBw4 : Below w.heap.size w (w3.alloc (.cells #[.slice (some ⟨b, off, none⟩) L c1] 93)) := hBw3.alloc (by omega) _
  have hbox : (w3.alloc (.cells #[.slice (some ⟨b, off, none⟩) L c1] 93)).heap[w3.heap.size]? = some (.cells #[.slice (some ⟨b, off, none⟩) L c1] 93 (0, 0)) := heap_alloc_new _ _
  have hbld : Lib.IsBuilder 169 5 w.heap.size w.heap.size (Lib.byteCells (textL 9 [top])) (w3.alloc (.cells #[.slice (some ⟨b, off, none⟩) L c1] 93)) := by
    refine isBuilder_below (n := w3.heap.size) (.inr ?_) (Below.alloc (Below.refl _ w3) (Nat.le_refl _) _) (Nat.le_refl _)
    exact hb3
  have hrd : Reads (w3.alloc (.cells #[.slice (some ⟨b, off, none⟩) L c1] 93)) .u64 (some ⟨b, off, none⟩) ys := by
    rw [hys]; exact ((h1.below hBw4 (Nat.le_refl _)).take L)
  have HS := back_seq hW (n - 1) (by omega) w3.heap.size c1 (some ⟨b, off, none⟩) ys (by omega) (w3.alloc (.cells #[.slice (some ⟨b, off, none⟩) L c1] 93)) (by simp) (by rw [hyl, Lib.cell_of_heap hbox]; rfl) hrd
  rw [hyl] at HS
  have hxd : xs.drop L = [top] := by
    rw [List.drop_eq_getElem_cons (by have := HN.out; omega), HTop.out, List.drop_of_length_le (by have := HN.out; have := HL.out; omega)]
    simp [List.getD_eq_getElem?_getD, show L < xs.length by have := HN.out; omega]
  refine wpIn_range hW h0 (gf := 147) (lb := #[.pointer (some ⟨w3.heap.size, 0, none⟩)]) rfl (enters_of Tryz.func147 (by kernel_rfl) rfl)
    HS (fun _ h => h.elim) (fun h k => h.trans k) ?hKb (Below.refl _ _) (fun _ => rfl)
    (fun k W => Lib.IsBuilder 169 5 w.heap.size w.heap.size (Lib.byteCells (textL 9 (xs.drop (L - k)))) W ∧ W.heap[w3.heap.size]? = some (.cells #[.slice (some ⟨b, off, none⟩) L c1] 93 (0, 0)) ∧ Below w.heap.size w W)
    (fun _ _ _ => False)
    ((stabI_builder (fun _ h => h)).and ((stabI_block (fun h => h) rfl).and (stabI_below (by simp; omega) (Nat.le_refl _) (fun _ h => h.elim))))
    (fun c => stabI_false)
    ⟨by rw [Nat.sub_zero, hxd]; exact hbld, hbox, hBw4⟩
    ?round ?done ?stop
  case hKb =>
    intro W l o o' hl ho hc
    refine keepS_book (n := w3.heap.size + 1) ?_ W l o o' (by simp at hl; omega) ho hc
    rintro b' (rfl | ⟨hp, off', e⟩)
    · omega
    · cases e; omega
  case stop => rintro D c k W hD hk h; exact h.elim
  case round =>
    rintro l k W hk ⟨iB, iX, iW⟩
    obtain ⟨j, hj⟩ : ∃ j, j = L - 1 - k := ⟨_, rfl⟩
    obtain ⟨x, hx⟩ : ∃ x, x = ys.getD j 0 := ⟨_, rfl⟩
    rw [← hj, ← hx]
    have hjx : xs.getD j 0 = x := by
      rw [hx, hys, List.getD_eq_getElem?_getD, List.getD_eq_getElem?_getD, List.getElem?_take, if_pos (by omega)]
    have hxB : x < 1000000000 := by rw [← hjx]; exact ha.getD B9_pos _
    have HJ := Lib.hid (show L - k = j + 1 by omega)
    have HJ2 := Lib.hid (show L - (k + 1) = j by omega)
    have HX := Lib.hid hjx
    have HJL := Lib.hid (show j + 1 < xs.length by have := HN.out; have := HL.out; omega)
    have hz0 := numB_le9 hxB
    obtain ⟨z, hz⟩ : ∃ z, z = 9 - (numB x).size := ⟨_, rfl⟩
    have ez : (9 : Int) - ((numB x).size : Int) = (z : Int) := by omega
    have hz9' : z ≤ 9 := by omega
    have HZ := Lib.hid hz
    clear hj hx hjx hz
    gi_wp2
    refine ⟨KeepsFrom.refl _ _, KeepS.refl _ _, ⟨iB, iX, iW⟩, ?_⟩
    rintro W2 ⟨iB2, iX2, iW2⟩ _ _
    have HI2 := Lib.hid (And.intro iB2 (And.intro iX2 iW2))
    clear iB iX iW iB2 iX2 iW2
    have hlen : (Lib.byteCells (textL 9 (xs.drop (L - k)))).length ≤ 1000000 := by
      rw [Lib.byteCells_length]
      have := textL_len (ha.drop (L - k))
      rw [List.length_drop] at this
      have := HN.out
      omega
    have hszW := HI2.out.2.2.size
    have TA := Lib.hid (formatUint_any x W2 hxB (HT.out.below HI2.out.2.2 (Nat.le_refl _)))
    have hn2 : 1 ≤ n - 1 - 1 := by omega
    gi_wp2_with (first
      | (gi_at_call 144; refine (CallsIn.inRound l (hW.tr TA.out)).mono ?_; rintro e W3 ⟨rfl, hB3'⟩; have HB3' := Lib.hid hB3'; clear hB3' TA)
      | (gi_at_call 145; refine (CallsIn.inRound l (hW.tr (repeat_any z W3 hz9'))).mono ?_; rintro e W4 ⟨rfl, hB4'⟩; have hB24 : Below W2.heap.size W2 W4 := HB3'.out.trans (hB4'.mono HB3'.out.size); have HB24 := Lib.hid hB24; have hs24 := hB24.size; have TB := Lib.hid (writeString_any w.heap.size w.heap.size _ ⟨(List.replicate z 48).toArray⟩ W4 (isBuilder_below HI2.out.1 hB24 (Nat.le_refl _)) (by rw [size_list]; simp; omega) (by omega)); clear hB24 hB4')
      | (gi_at_call 143; refine (CallsIn.inRound l (hW.tr TB.out)).mono ?_; clear TB; rintro e W5 ⟨rfl, hb5, hB5, hK5⟩; have HB5 := Lib.hid (And.intro hb5 (And.intro hB5 hK5)); clear hb5 hB5 hK5; have hs25 := HB5.out.2.1.size; have TC := Lib.hid (writeString_any w.heap.size w.heap.size _ (numB x) W5 (.inr HB5.out.1) (by rw [List.length_append, Lib.strCells_length, size_list ⟨(List.replicate z 48).toArray⟩]; simp; omega) (by omega)))
      | (gi_at_call 143; refine (CallsIn.inRound l (hW.tr TC.out)).mono ?_; rintro e W6 ⟨rfl, hb6, hB6, hK6⟩; have HB6 := Lib.hid (And.intro hb6 (And.intro hB6 hK6)); clear hb6 hB6 hK6))
    have hbk4 := isBuilder_block (isBuilder_below HI2.out.1 HB24.out (Nat.le_refl _))
    have hbk5 := isBuilder_block (.inr HB5.out.1)
    obtain ⟨cs4, hbk4⟩ := hbk4
    obtain ⟨cs5, hbk5⟩ := hbk5
    have hX2 := HI2.out.2.1
    have hX4 : W4.heap[w3.heap.size]? = some (.cells #[.slice (some ⟨b, off, none⟩) L c1] 93 (0, 0)) := by rw [HB24.out.block _ (Array.getElem?_eq_some_iff.1 hX2).1]; exact hX2
    have hX5 := HB5.out.2.2 _ _ (by omega) hX4 (fun cs fr e => by cases e)
    have hX6 := HB6.out.2.2 _ _ (by omega) hX5 (fun cs fr e => by cases e)
    refine ⟨(((Below.others HB24.out).trans (KeepT.others HB5.out.2.2 HB5.out.2.1 hbk4)).trans (KeepT.others HB6.out.2.2 HB6.out.2.1 hbk5)).from _, ?_, ?_, hX6, (HI2.out.2.2.trans (HB24.out.mono hszW)).trans (HB5.out.2.1.trans HB6.out.2.1)⟩
    · rintro b' (rfl | ⟨hp, off', e⟩)
      · rw [hX6, hX2]
      · cases e
        rw [HB6.out.2.1.block _ hb, HB5.out.2.1.block _ hb, HB24.out.block _ (by omega)]
    · right
      have h6 := HB6.out.1
      rw [HJ.out] at h6
      rw [HJ2.out, textL_step HJL.out, HX.out, Lib.byteCells_append]
      have e6 : Lib.byteCells (pad 9 x) = Lib.strCells ⟨(List.replicate z 48).toArray⟩ ++ Lib.strCells (numB x) := by
        rw [pad, Lib.byteCells_append, Lib.strCells_eq, Lib.strCells_eq, HZ.out, numB_size]
        rfl
      rw [e6, ← List.append_assoc]
      exact h6
  case done =>
    rintro D W hD ⟨iB, iX, iW⟩ hW3
    have iB' : Lib.IsBuilder 169 5 w.heap.size w.heap.size (Lib.byteCells (textL 9 xs)) W := by
      rw [Nat.sub_self, List.drop_zero] at iB; exact iB
    have hDs : w.heap.size < D := by simp at hD; omega
    have hWs := iW.size
    have TS := Lib.hid (Any.Builder_String_any_k Tryz.lays169 Tryz.Builder_Extra_169 w.heap.size w.heap.size (textL 9 xs) W (Lib.IsBuilderF.of iB') (by omega))
    have HI := Lib.hid (And.intro iW hW3)
    clear iB iX iW iB' hW3
    gi_wp2_with (gi_at_call 146; refine (hW.tr TS.out).mono ?_; rintro e W2 ⟨rfl, _, hB2, hK2⟩)
    have hD2 := hK2 D _ HI.out.2 (by simp; omega) (fun c fz e => by cases e)
    refine ⟨by simp, .inl ⟨_, _, rfl, run_takeDeferred hD2, ?_⟩⟩
    exact ⟨.string ⟨(textL 9 xs).toArray⟩, by simp [results, Tryz.f111, go_sem], rfl, (HI.out.1.trans hB2).trans (belowK_b (w := w) (Nat.le_refl _) _ D _ _ (by omega) hD2 rfl rfl)⟩
end Go.Proofs.Cr
namespace Go.Proofs.Cr
open Go.RowKit Go.Shelf

set_option maxRecDepth 100000 in
/-- The digits of a number. -/
theorem text_any (n : Nat) (A : Option Addr) (l c : Nat) (w : World) (h : Num w A l c n) (hT : TabW w) (hs : l ≤ 40000) :
    Calls Tryz.prog 111 #[.slice A l c] w fun e w' => e = .returned (.string (numB n)) ∧ Below w.heap.size w w' := by
  obtain ⟨hl, hc, hr⟩ := h
  by_cases h0 : l = 0
  · have hn : n = 0 := by
      have := limbs_eq_nil B9_two (n := n)
      apply this.1; apply List.eq_nil_of_length_eq_zero; omega
    subst h0 hn
    clear hl hr hc
    go_enter Tryz.func111, Tryz.ntmps111
    go_wp2
    go_ret
    refine ⟨?_, Below.refl _ _⟩
    rw [show numB 0 = ⟨#[48]⟩ by rw [numB, decDigits_zero]]
    rfl
  · subst hl
    refine (callsIn_wide.1 (text_in wide_wide 5 (Nat.le_refl _) (limbs B9 n) A c w hr (bnd_limbs B9_two n) (by omega) (by omega) hT hc)).mono ?_
    rintro e w' ⟨rfl, hb⟩
    refine ⟨?_, hb⟩
    rw [numB]
    have := textL_eq (k := 9) (by decide) (xs := limbs B9 n) (bnd_limbs B9_two n) (trimmed_limbs B9_two n)
    rw [this, ← B9_pow, val_limbs B9_two]
set_option maxRecDepth 100000 in
theorem digits_any (n : Nat) (A : Option Addr) (l c : Nat) (w : World) (h : Num w A l c n) (hT : TabW w) (hs : l ≤ 40000) :
    Calls Tryz.prog 110 #[.slice A l c] w fun e w' => e = .returned (.int .i64 (numB n).size) ∧ Below w.heap.size w w' := by
  have T := Lib.hid (text_any n A l c w h hT hs)
  clear h hT
  go_enter Tryz.func110, Tryz.ntmps110
  go_wp2_with (go_at_call 111; refine T.out.mono ?_; rintro e w' ⟨rfl, hb⟩)
  go_ret
  exact ⟨rfl, hb⟩
end Go.Proofs.Cr
/- Plain: a text of digits in groups of nine, from the end. -/
namespace Go.Proofs.Cr

theorem parse_go (M : Nat) : ∀ (l : List UInt8) (acc : Nat), Digs l → l.foldl dstep acc ≤ M → l.foldl dstep acc < 18446744073709551616 → Lib.parseUintM M acc l = .ok (l.foldl dstep acc) := by
  intro l
  induction l with
  | nil => intro acc _ _ _; rfl
  | cons c r ih =>
    intro acc hd hM hB
    have hc := hd c (List.mem_cons_self ..)
    have hr : Digs r := fun x hx => hd x (List.mem_cons_of_mem _ hx)
    have hge : ∀ (r : List UInt8) (a : Nat), a ≤ r.foldl dstep a := by
      intro r
      induction r with
      | nil => intro a; exact Nat.le_refl _
      | cons x r ih2 => intro a; exact Nat.le_trans (by unfold dstep; omega) (ih2 (dstep a x))
    simp only [List.foldl_cons] at hM hB ⊢
    have h1 := hge r (dstep acc c)
    have e : acc * 10 + (c.toNat - 48) = dstep acc c := by unfold dstep; omega
    unfold Lib.parseUintM
    have h2 : acc * 10 ≤ dstep acc c := by unfold dstep; omega
    rw [if_pos (show 48 ≤ c.toNat ∧ c.toNat ≤ 57 from hc), if_neg (by omega), e, if_neg (by omega)]
    exact ih _ hr hM hB
theorem parse_digs {l : List UInt8} (h : Digs l) (h0 : l ≠ []) (h9 : l.length ≤ 9) : Lib.parseUintB 64 l = .ok (dv l) := by
  unfold Lib.parseUintB
  rw [if_neg h0]
  have h1 := dv_lt h
  have h2 : 10 ^ l.length ≤ 10 ^ 9 := Nat.pow_le_pow_right (by decide) h9
  have h3 : (10 : Nat) ^ 9 = 1000000000 := rfl
  exact parse_go _ l 0 h (by show dv l ≤ _; omega) (by show dv l < _; omega)

/-- The k-th group from the end. -/
def grp (L : List UInt8) (k : Nat) : Nat := dv ((L.take (L.length - 9 * k)).drop (L.length - 9 * k - 9))
/-- How many groups. -/
def grpN (L : List UInt8) : Nat := (L.length + 8) / 9
theorem grp_lt {L : List UInt8} (h : Digs L) (k : Nat) : grp L k < 1000000000 := by
  have h1 := dv_lt ((h.take (L.length - 9 * k)).drop (L.length - 9 * k - 9))
  have h2 : 10 ^ ((L.take (L.length - 9 * k)).drop (L.length - 9 * k - 9)).length ≤ 10 ^ 9 := Nat.pow_le_pow_right (by decide) (by simp; omega)
  have h3 : (10 : Nat) ^ 9 = 1000000000 := rfl
  unfold grp; omega
theorem grp_step (L : List UInt8) (k : Nat) : dv (L.take (L.length - 9 * k)) = dv (L.take (L.length - 9 * (k + 1))) * 1000000000 + grp L k := by
  unfold grp
  have e : L.length - 9 * (k + 1) = L.length - 9 * k - 9 := by omega
  rw [e]
  have h := dv_append ((L.take (L.length - 9 * k)).take (L.length - 9 * k - 9)) ((L.take (L.length - 9 * k)).drop (L.length - 9 * k - 9))
  rw [List.take_append_drop, List.take_take, Nat.min_eq_left (by omega)] at h
  rw [h]
  by_cases hm : 9 ≤ L.length - 9 * k
  · congr 2
    have : ((L.take (L.length - 9 * k)).drop (L.length - 9 * k - 9)).length = 9 := by simp; omega
    rw [this]
  · have : L.length - 9 * k - 9 = 0 := by omega
    rw [this]
    simp [dv]
/-- The groups so far, and what is left. -/
theorem grps_val (L : List UInt8) (k : Nat) : val 1000000000 ((List.range k).map (grp L)) + 1000000000 ^ k * dv (L.take (L.length - 9 * k)) = dv L := by
  induction k with
  | zero => simp [val]
  | succ k ih =>
    rw [List.range_succ, List.map_append, List.map_singleton, val_snoc, List.length_map, List.length_range, Nat.pow_succ]
    rw [grp_step] at ih
    rw [← ih]
    grind
theorem grps_all (L : List UInt8) : val 1000000000 ((List.range (grpN L)).map (grp L)) = dv L := by
  have h := grps_val L (grpN L)
  have e : L.length - 9 * grpN L = 0 := by unfold grpN; omega
  rw [e] at h
  simpa [dv] using h
theorem grps_bnd {L : List UInt8} (h : Digs L) (k : Nat) : Bnd 1000000000 ((List.range k).map (grp L)) := by
  intro x hx
  obtain ⟨i, _, rfl⟩ := List.mem_map.1 hx
  exact grp_lt h i
end Go.Proofs.Cr
namespace Go.Proofs.Cr
open Go.RowKit Go.Shelf
attribute [local go_sem] Oper.semAt_some

theorem grown_of_below {w w1 : World} (h : Below w.heap.size w w1) (row : Option Nat) : w.grownBy w1 row := ⟨h.os, h.tape, h.output, h.size, fun i hi _ => h.block i hi⟩
theorem bytes_below (w : World) (s : ByteArray) : Below w.heap.size w (Lib.bytesWorld w 5 s) := by
  have h1 : Below w.heap.size w (w.drew.alloc (.cells (Lib.bytesCells w 5 s) 5)) := ((Below.refl _ w).drew).alloc (by simp) _
  exact Lib.below_freeze h1 (p := ⟨w.heap.size, (Lib.bytesCells w 5 s).size, none⟩) (Nat.le_refl _) _
theorem ext_take (s : ByteArray) (a : Nat) : (s.extract 0 a).data.toList = s.data.toList.take a := by
  rw [Lib.extract_data]; simp
theorem grown_set1 (w : World) (b j : Nat) (v : Value) : w.grownBy (w.setCell ⟨b, j, none⟩ v) (some b) := ⟨rfl, rfl, rfl, by simp [World.setCell], fun i _ hne => Below.heap_setCell _ _ _ _ (fun e => hne (by rw [e]))⟩
set_option maxRecDepth 100000 in
set_option maxHeartbeats 2000000 in
theorem groups1_any {F : Fence} (hW : Wide F) (n : Nat) (hn : 1 ≤ n) (l Bs : Nat) (L : List UInt8) (J Jx : Nat → World → Prop) (hD : Digs L) (hlen : L.length ≤ 100000) (hJ : StabJ (fun b => b = Bs) J)
    (hY : ∀ k W, k < grpN L → J k W → YieldAt F (n - 1) Tryz.prog l #[.int .u64 (grp L k : Nat)] W fun e W' =>
      (e = .returned (.bool true) ∧ J (k + 1) W' ∧ KeepS (fun b => b = Bs) W W') ∨ (e = .returned (.bool false) ∧ Jx (k + 1) W'))
    (W : World) (hBs : W.heap[Bs]? = some (.cells #[.string ⟨L.toArray⟩] 9 (0, 0))) (h0 : J 0 W) :
    CallsIn F n Tryz.prog 162 #[.func (.yield l) #[] #[], .pointer (some ⟨Bs, 0, none⟩)] W fun e W' => (∃ v, e = .returned v) ∧ (J (grpN L) W' ∨ ∃ k, k ≤ grpN L ∧ Jx k W') := by
  have hro := hW.ro
  have hf := hW.fn 163
  refine callsIn_of_wp Tryz.func162 rfl (hW.fn _) ?_ hW.ro
  simp only [Tryz.ntmps162, List.size_toArray, List.length_cons, List.length_nil, Nat.reduceAdd, Nat.reduceSub, Array.replicate_succ, Array.replicate_zero, List.push_toArray, List.append_toArray, List.nil_append, List.cons_append]
  gi_wp2
  gi_loopw [] (fun wr => ∃ k : Nat, k ≤ grpN L ∧ J k wr ∧ wr.heap[Bs]? = some (.cells #[.string ⟨(L.take (L.length - 9 * k)).toArray⟩] 9 (0, 0)))
    (fun wr => match wr.cell? ⟨Bs, 0, none⟩ with | some (.string s) => s.size | _ => 0)
  case atStart => exact ⟨0, Nat.zero_le _, h0, by simpa using hBs⟩
  case round =>
    obtain ⟨k, hk, hJk, hbx⟩ := hrel
    obtain ⟨m, hm⟩ : ∃ m, m = L.length - 9 * k := ⟨_, rfl⟩
    obtain ⟨p, hp⟩ : ∃ p : ByteArray, p = ⟨(L.take m).toArray⟩ := ⟨_, rfl⟩
    have hps : p.size = m := by rw [hp, size_list]; simp; omega
    rw [← hm, ← hp] at hbx
    have hcx : wr.cell? ⟨Bs, 0, none⟩ = some (.string p) := by rw [Lib.cell_of_heap hbx]; rfl
    have hfx : wr.frozen? ⟨Bs, 0, none⟩ = false := Lib.frozen_of_heap hbx 0
    have HM := Lib.hid hm; have HP := Lib.hid hp; have HCX := Lib.hid hcx
    clear hm hp
    by_cases hm0 : 0 < m
    · obtain ⟨a, ha⟩ : ∃ a, a = m - 9 := ⟨_, rfl⟩
      have hps0 : 0 < p.size := by omega
      have hkN : k < grpN L := by have := HM.out; unfold grpN; omega
      have hmx : max (0 : Int) ((p.size : Int) - 9) = (a : Int) := by omega
      have hap : a ≤ p.size := by omega
      have hpB : p.size ≤ 100000 := by have := HM.out; omega
      have HPS := Lib.hid hps; have HA := Lib.hid ha
      clear hps ha
      have hql : (p.extract a p.size).data.toList = (L.take m).drop a := by rw [Lib.extract_to_end, HP.out]
      have hv : dv (p.extract a p.size).data.toList = grp L k := by rw [hql, HM.out, grp, HA.out, HM.out]
      obtain ⟨x, hx⟩ : ∃ x, x = grp L k := ⟨_, rfl⟩
      have TP := Lib.hid (Any.strconv_ParseUint_10_at64_ok Tryz.laysPu14 (p.extract a p.size) (by rw [size_list, hql]; simp; have := HM.out; omega) (grp L k) (by
        rw [← hv]
        refine parse_digs ?_ ?_ ?_
        · rw [hql]; exact (hD.take _).drop _
        · intro e; rw [hql] at e; have := congrArg List.length e; simp at this; have := HM.out; have := HA.out; omega
        · rw [hql]; simp; have := HM.out; have := HA.out; omega) wr)
      have HBX := Lib.hid hbx
      rw [← hx] at TP
      have HX := Lib.hid hx
      clear hql hv hbx hx
      gi_wp2_with (gi_at_call 163; refine (hW.tr TP.out).mono ?_; rintro e w2 ⟨rfl, hw2⟩)
      have hB2 : Below wr.heap.size wr w2 := by
        rcases hw2 with rfl | rfl
        · exact Below.refl _ _
        · exact bytes_below _ _
      have hJ2 : J k w2 := hJ k wr w2 none hJk (grown_of_below hB2 none) (fun r e => by cases e)
      have hbx2 : w2.heap[Bs]? = some (.cells #[.string p] 9 (0, 0)) := by rw [hB2.block _ (Array.getElem?_eq_some_iff.1 HBX.out).1]; exact HBX.out
      have hcx2 : w2.cell? ⟨Bs, 0, none⟩ = some (.string p) := by rw [Lib.cell_of_heap hbx2]; rfl
      have hfx2 : w2.frozen? ⟨Bs, 0, none⟩ = false := Lib.frozen_of_heap hbx2 0
      have HBX2 := Lib.hid hbx2
      clear hw2 hbx2
      obtain ⟨fn, tmps, assign, body, hy, hR⟩ := hY k w2 hkN hJ2
      rw [← HX.out] at hy
      rw [hy]
      gi_wp2
      refine hR.mono ?_
      rintro e W3 (⟨rfl, hJ3, hk3⟩ | ⟨rfl, hJx3⟩)
      · have hbx3 : W3.heap[Bs]? = some (.cells #[.string p] 9 (0, 0)) := by rw [hk3 Bs rfl]; exact HBX2.out
        have hcx3 : W3.cell? ⟨Bs, 0, none⟩ = some (.string p) := by rw [Lib.cell_of_heap hbx3]; rfl
        have hfx3 : W3.frozen? ⟨Bs, 0, none⟩ = false := Lib.frozen_of_heap hbx3 0
        have hqe : p.extract 0 a = ⟨(L.take (L.length - 9 * (k + 1))).toArray⟩ := by
          apply list_inj
          rw [ext_take, HP.out]
          show List.take a (List.take m L) = List.take (L.length - 9 * (k + 1)) L
          rw [List.take_take]
          congr 1
          have := HM.out; have := HA.out; omega
        have HQ := Lib.hid hqe
        have HB3 := Lib.hid hbx3
        clear hqe hbx3
        gi_wp2
        go_roundw
        case rel =>
          refine ⟨k + 1, by omega, hJ (k + 1) W3 _ (some Bs) hJ3 (grown_set1 _ _ _ _) (fun r e => by cases e; rfl), ?_⟩
          rw [HQ.out]
          simp [World.setCell, Array.getElem?_modify, HB3.out]
        case measure =>
          rw [World.cell?_setCell_same' _ _ _ (by rw [hcx3]; rfl), HCX.out]
          show (p.extract 0 a).size < p.size
          rw [size_list, ext_take]
          have := HPS.out; have := HA.out
          simp; omega
      · gi_wp2
        refine bodyPost_ret (results_none rfl _ _ _) rfl ?_
        exact ⟨⟨_, rfl⟩, .inr ⟨k + 1, by omega, hJx3⟩⟩
    · have hkk : k = grpN L := by have := HM.out; unfold grpN at hk ⊢; omega
      subst hkk
      have hps0 : ¬ 0 < p.size := by omega
      gi_wp2
      go_end0
      exact ⟨⟨_, rfl⟩, .inl hJk⟩
end Go.Proofs.Cr
namespace Go.Proofs.Cr
open Go.RowKit Go.Shelf
attribute [local go_sem] Oper.semAt_some

section
variable {F : Fence} {nF : Nat} {P : Program} {ops : Array Oper} {rest : List Oper} {o : Oper} {a : Act} {Q : Exit → Act → World → Prop}
/-- 'append(v, y)', y a number, inside a fence: behind 'gi_at_builtin'. -/
theorem app_numIn {w0 W : World} {base t e : Nat} {k : IntKind} {bytes : Nat} {v : Value} {xs : List Nat} {y : Int} (n : Nat) {s x : Operand} (hgd : o.guard = none)
    (ho : o.op = .call { callee := .builtin .append, args := #[s, x], argTypes := #[t, t] }) (ht : P.underlying t = some (.slice e)) (hinfo : (P.info? e).map (fun i => (i.zero, i.size, i.bytes)) = some (some (.int k 0), 1, bytes)) (hb8 : bytes ≤ 8)
    (hs : a.eval s = v) (hx : a.eval x = .slice (some ⟨W.heap.size, 0, none⟩) 1 1) (HO : Owns W base e k v xs) (HB : Below base w0 W) (hbase : base ≤ W.heap.size) (hl : xs.length ≤ 1000000) (hy : y = (n : Int))
    (h : ∀ v1 w1, Owns w1 base e k v1 (xs ++ [n]) → Below base w0 w1 → W.grownBy w1 v.ownBlock → wpListIn F nF P ops Q rest (a.put o.dst v1) w1) :
    wpListIn F nF P ops Q (o :: rest) a (W.alloc (.cells #[.int k y] e)) := by
  subst hy
  obtain ⟨i0, hi, hzz⟩ := Option.map_eq_some_iff.1 hinfo
  simp only [Prod.mk.injEq] at hzz
  obtain ⟨hz0, hz1, hz2⟩ := hzz
  have hb : (xs.length + 1) * bytes ≤ (xs.length + 1) * 8 := Nat.mul_le_mul_left _ hb8
  refine wpListIn_append_own (W.alloc (.cells #[.int k (n : Int)] e)) hgd s x t ho base e i0 (.int k 0) 1 bytes ht hi hz0 hz1 hz2 rfl (by decide) v xs.length (nums k xs) hs (World.ownsRow.alloc HO _) ⟨W.heap.size, 0, none⟩ 1 1 [.int k (n : Int)] hx rfl
    (cell_one_new _ _ _) (by intro u hu; simp at hu; subst hu; rfl) (by unfold maxLen; omega) (by omega) (by simp; omega) ?_
  intro v1 w1 hown hg _
  refine h v1 w1 ?_ ?_ ((World.grownBy_alloc W _ _).trans hg)
  · unfold Owns
    rw [nums_append, List.length_append]
    exact hown
  · refine (HB.alloc hbase _).grown hg (by simp; omega) ?_
    intro j hj
    exact (World.ownsRow.lt HO j hj).1
end

theorem stabI_ownsB {B : Nat} {C : Nat → Prop} {base e : Nat} {k : IntKind} {v : Value} {xs : Nat → List Nat} (hC : ∀ r, C r → r < base) : StabI B C (fun s W => Owns W base e k v (xs s)) := fun s W W' row hs hg hr => by
  replace hs : Owns W base e k v (xs s) := hs
  refine hs.grown hg ?_
  cases hv : v.ownBlock with
  | none => exact .inr rfl
  | some g =>
    refine .inl fun e' => ?_
    have hb := (World.ownsRow.lt hs g hv).1
    rcases hr g e'.symm with h | ⟨_, o, ho, hn⟩
    · have := hC g h; omega
    · rcases hs.2 with ⟨h1, _⟩ | ⟨g', cap, cur, h1, _, hh, _⟩
      · subst h1; simp [Value.ownBlock] at hv
      · subst h1
        simp [Value.ownBlock] at hv
        subst hv
        rw [hh] at ho
        cases ho
        cases hn
theorem groups_any (s : ByteArray) (w : World) :
    Calls Tryz.prog 138 #[.string s] w fun e w' => e = .returned (.func (.func 162) #[] #[.pointer (some ⟨w.heap.size, 0, none⟩)]) ∧ w.alloc (.cells #[.string s] 9) = w' := by
  go_enter Tryz.func138, Tryz.ntmps138
  go_wp2
  go_ret
  exact ⟨rfl, rfl⟩

set_option maxRecDepth 100000 in
set_option maxHeartbeats 4000000 in
theorem appendSeq_in {F : Fence} (hW : Wide F) (n : Nat) (hn : 5 ≤ n) (L : List UInt8) (hD : Digs L) (hlen : L.length ≤ 100000) (Bs : Nat) (w : World)
    (hBs : w.heap[Bs]? = some (.cells #[.string ⟨L.toArray⟩] 9 (0, 0))) :
    CallsIn F n Tryz.prog 161 #[.slice none 0 0, .func (.func 162) #[] #[.pointer (some ⟨Bs, 0, none⟩)]] w fun e w' => ∃ v, e = .returned v ∧ Owns w' Bs 98 .u64 v ((List.range (grpN L)).map (grp L)) ∧ Below Bs w w' := by
  have hro := hW.ro
  have h0 : 1 ≤ n := by omega
  have hf := hW.fn 162
  have hBlt : Bs < w.heap.size := (Array.getElem?_eq_some_iff.1 hBs).1
  refine callsIn_of_wp_marks Tryz.func161 rfl (hW.fn _) ?_ hW.ro
  simp only [Tryz.ntmps161, List.size_toArray, List.length_cons, List.length_nil, Nat.reduceAdd, Nat.reduceSub, Array.replicate_succ, Array.replicate_zero, List.push_toArray, List.append_toArray, List.nil_append, List.cons_append]
  gi_wp2_with fail
  have hBs1 : (w.alloc (.cells #[.slice none 0 0] 92)).heap[Bs]? = some (.cells #[.string ⟨L.toArray⟩] 9 (0, 0)) := by rw [Below.heap_alloc _ _ _ hBlt]; exact hBs
  have HS : SeqK F (n - 1) Tryz.prog 162 #[.pointer (some ⟨Bs, 0, none⟩)] (fun k => #[.int .u64 (grp L k : Nat)]) (grpN L) (fun b => b = Bs) (KeepS (fun b => b = Bs)) (w.alloc (.cells #[.slice none 0 0] 92)) :=
    fun l J Jx W hWW hJ _ hY h0 => groups1_any hW (n - 1) (by omega) l Bs L J Jx hD hlen hJ hY W (by rw [hWW.block _ (by simp; omega)]; exact hBs1) h0
  refine wpIn_range hW h0 (gf := 162) (lb := #[.pointer (some ⟨Bs, 0, none⟩)]) rfl (enters_of Tryz.func162 (by kernel_rfl) rfl)
    HS (fun r h => by rw [h]; simp; omega) (fun h k => h.trans k) ?hKb (Below.refl _ _) (fun _ => rfl)
    (fun k W => ∃ v, VarIs W w.heap.size v ∧ Owns W (w.heap.size + 1) 98 .u64 v ((List.range k).map (grp L)) ∧ Below Bs w W)
    (fun _ _ _ => False)
    (stabI_ex fun v => (stabI_var (fun h => by omega)).and ((stabI_ownsB (fun r h => by omega)).and (stabI_below (by simp; omega) (by omega) (fun r h => by omega))))
    (fun c => stabI_false)
    ⟨.slice none 0 0, VarIs.new _ _ _, ?_, (Below.refl _ _).alloc (by omega) _⟩
    ?round ?done ?stop
  case hKb =>
    intro W l o o' hl ho hc
    refine keepS_book (n := w.heap.size) ?_ W l o o' (by simp at hl; omega) ho hc
    rintro b rfl
    exact hBlt
  case stop => rintro D c k W hD hk h; exact h.elim
  case round =>
    rintro l k W hk ⟨v, vV, oV, bV⟩
    obtain ⟨x, hx⟩ : ∃ x, x = grp L k := ⟨_, rfl⟩
    rw [← hx]
    have HX := Lib.hid hx
    clear hx
    gi_wp2
    refine ⟨KeepsFrom.refl _ _, KeepS.refl _ _, ⟨v, vV, oV, bV⟩, ?_⟩
    rintro W2 ⟨v2, vV2, oV2, bV2⟩ _ _
    have hc2 := vV2.1
    have HV := Lib.hid (And.intro vV2 (And.intro oV2 bV2))
    have hW2s : w.heap.size + 1 ≤ W2.heap.size := vV2.lt
    have hl2 : ((List.range k).map (grp L)).length ≤ 1000000 := by simp; unfold grpN at hk; omega
    clear vV oV bV
    obtain ⟨xs, hxs⟩ : ∃ xs, xs = (List.range k).map (grp L) := ⟨_, rfl⟩
    rw [← hxs] at oV2 hl2
    have HXS := Lib.hid hxs
    clear hxs vV2
    gi_wp2_with (gi_at_builtin; refine app_numIn (w0 := W2) x rfl rfl Tryz.underlying92 info151 (by decide) rfl rfl oV2 (Below.refl _ _) hW2s hl2 rfl ?_)
    intro v1 w1 oV1 hB1 hg1
    obtain ⟨A1, c1, rfl⟩ := oV1.slice
    have vV1 := HV.out.1.below hB1 (Nat.lt_succ_self _)
    have hc1 := vV1.1
    have hf1 := vV1.2
    have HVV := Lib.hid (And.intro vV1 (And.intro oV1 (And.intro hB1 hg1)))
    clear vV1 oV1 hB1 hg1
    gi_wp2
    have oV2' : Owns W2 (w.heap.size + 1) 98 .u64 v2 ((List.range k).map (grp L)) := HV.out.2.1
    have hcells : ∀ (j : Nat) (o : Obj), v2.ownBlock = some j → W2.heap[j]? = some o → o.isCells = true := by
      intro j o hj ho
      rcases oV2'.2 with ⟨h1, _⟩ | ⟨g', cap, cur, h1, _, hh, _⟩
      · subst h1; simp [Value.ownBlock] at hj
      · subst h1
        simp [Value.ownBlock] at hj
        subst hj
        rw [hh] at ho; cases ho; rfl
    refine ⟨((KeepsOthers.of_grownBy HVV.out.2.2.2 hcells).trans (KeepsOthers.setCell _ _ _)).from _, ?_, _, HVV.out.1.set _, ?_, ?_⟩
    · rintro b rfl
      rw [Below.heap_setCell _ _ _ _ (by simp; omega), HVV.out.2.2.1.block _ (by omega)]
    · have o1 := HVV.out.2.1
      rw [List.range_succ, List.map_append, List.map_singleton, ← HX.out, ← HXS.out]
      rw [show (xs ++ [x]).length = xs.length + 1 by simp] at o1
      refine Owns.other o1 _ (fun e => ?_)
      have := (World.ownsRow.lt o1 _ e).1
      simp at this; omega
    · exact (HV.out.2.2.trans (HVV.out.2.2.1.mono (by omega))).setCell (by simp; omega) _
  case done =>
    rintro D W hD ⟨v, vV, oV, bV⟩ hW3
    have hcv := vV.1
    have H := Lib.hid (And.intro vV (And.intro oV (And.intro bV hW3)))
    clear vV oV bV hW3
    gi_wp2
    refine ⟨by simp, .inl ⟨_, _, rfl, run_takeDeferred H.out.2.2.2, ?_⟩⟩
    refine ⟨v, by simp [results, Tryz.f161, go_sem], v, rfl, ?_, ?_⟩
    · refine Owns.mono (Owns.grown H.out.2.1 (grownBy_putObj' W D _) ?_) (by omega)
      cases hv : v.ownBlock with
      | none => exact .inr rfl
      | some g =>
        refine .inl fun e => ?_
        cases e
        rcases H.out.2.1.2 with ⟨h1, _⟩ | ⟨g', cap, cur, h1, _, hh, _⟩
        · subst h1; simp [Value.ownBlock] at hv
        · subst h1
          simp [Value.ownBlock] at hv
          subst hv
          have := H.out.2.2.2
          rw [hh] at this
          cases this
    · exact H.out.2.2.1.trans (belowK_b (w := w) (by omega) _ D _ _ (by simp at hD; omega) H.out.2.2.2 rfl rfl)
  · exact ⟨by simp [nums], .inl ⟨rfl, rfl⟩⟩

/-- The number of a valid text of digits. -/
theorem of_any (s : ByteArray) (w : World) (hD : Digs s.data.toList) (hlen : s.size ≤ 100000) :
    Calls Tryz.prog 107 #[.string s] w fun e w' => ∃ A l c, e = .returned (.slice A l c) ∧ Num w' A l c (nv s) ∧ Owns w' w.heap.size 98 .u64 (.slice A l c) (limbs B9 (nv s)) ∧ Below w.heap.size w w' := by
  have hlL : s.data.toList.length ≤ 100000 := by rw [← size_list]; exact hlen
  have TA := Lib.hid (callsIn_wide.1 (appendSeq_in wide_wide 5 (Nat.le_refl _) s.data.toList hD hlL w.heap.size (w.alloc (.cells #[.string s] 9)) (heap_alloc_new _ _)))
  clear hlen
  go_enter Tryz.func107, Tryz.ntmps107
  go_wp2_with (first
    | (go_at_call 138; refine (groups_any s _).mono ?_; rintro e w' ⟨rfl, rfl⟩)
    | (go_at_call 137; go_in)
    | (go_at_call 161; refine TA.out.mono ?_; rintro e w2 ⟨v, rfl, o2, b2⟩))
  have hll : ((List.range (grpN s.data.toList)).map (grp s.data.toList)).length ≤ 1000000 := by simp; unfold grpN; omega
  obtain ⟨A, c, rfl, hr, hc⟩ := o2.reads hll
  have HT := Lib.hid (trim_any _ A c w2 hr hc)
  have hq := trimN_eq_limbs B9_two (grps_bnd hD (grpN s.data.toList)) (grps_all s.data.toList)
  have ot := o2.trim
  rw [hq] at HT ot
  have HR := Lib.hid (hr.take (trimN ((List.range (grpN s.data.toList)).map (grp s.data.toList))).length)
  rw [← trimN_prefix, hq] at HR
  have hle := trimN_le ((List.range (grpN s.data.toList)).map (grp s.data.toList))
  rw [hq] at hle
  obtain ⟨t, ht⟩ : ∃ t, t = (limbs B9 (dv s.data.toList)).length := ⟨_, rfl⟩
  rw [← ht] at HT ot hle
  have HTL := Lib.hid ht
  have HO := Lib.hid ot
  have HB := Lib.hid (((Below.alloc (Below.refl _ w) (Nat.le_refl _) (.cells #[.string s] 9))).trans b2)
  clear hq ht ot o2 b2 hr
  go_wp2_with (go_at_call 109; refine HT.out.mono ?_; rintro e w' ⟨rfl, rfl⟩)
  go_ret
  exact ⟨A, t, c, rfl, ⟨HTL.out, by omega, HR.out⟩, HO.out, HB.out⟩
end Go.Proofs.Cr
namespace Go.Proofs.Cr
open Go.RowKit Go.Shelf
attribute [local go_sem] Oper.semAt_some

theorem bcell {W w1 : World} (hb : Below W.heap.size W w1) : (∀ b o, b < W.heap.size → w1.cell? ⟨b, o, none⟩ = W.cell? ⟨b, o, none⟩) ∧ (∀ b o, b < W.heap.size → w1.frozen? ⟨b, o, none⟩ = W.frozen? ⟨b, o, none⟩) :=
  ⟨fun b o h => hb.cell (p := ⟨b, o, none⟩) h, fun b o h => hb.frozen (p := ⟨b, o, none⟩) h⟩
/-- A cell stays. -/
theorem pc {W w1 : World} {a : Addr} {v : Value} (hb : Below W.heap.size W w1) (hc : W.cell? a = some v) : w1.cell? a = some v := (hb.cell (World.block_lt_of_cell? W a hc)).trans hc
/-- A block known whole. -/
def Blk (W : World) (b : Nat) (cs : Array Value) (t : TypeId) : Prop := W.heap[b]? = some (.cells cs t (0, 0))
theorem Blk.new (W : World) (cs : Array Value) (t : TypeId) : Blk (W.alloc (.cells cs t)) W.heap.size cs t := heap_alloc_new W _
theorem Blk.lt {W : World} {b : Nat} {cs : Array Value} {t : TypeId} (h : Blk W b cs t) : b < W.heap.size := (Array.getElem?_eq_some_iff.1 h).1
theorem Blk.below {W W' : World} {b n : Nat} {cs : Array Value} {t : TypeId} (h : Blk W b cs t) (hb : Below n W W') (hn : b < n) : Blk W' b cs t := (hb.block b hn).trans h
theorem Blk.pass {W W' : World} {b : Nat} {cs : Array Value} {t : TypeId} (h : Blk W b cs t) (hb : Below W.heap.size W W') : Blk W' b cs t := h.below hb h.lt
theorem Blk.alloc {W : World} {b : Nat} {cs : Array Value} {t : TypeId} (h : Blk W b cs t) (o : Obj) : Blk (W.alloc o) b cs t := (Below.heap_alloc W o b h.lt).trans h
theorem Blk.drew {W : World} {b : Nat} {cs : Array Value} {t : TypeId} (h : Blk W b cs t) : Blk W.drew b cs t := h
theorem Blk.far {W : World} {b : Nat} {cs : Array Value} {t : TypeId} (h : Blk W b cs t) {p : Addr} (hp : b ≠ p.block) (u : Value) : Blk (W.setCell p u) b cs t := (Below.heap_setCell W p u b hp).trans h
theorem Blk.cell {W : World} {b : Nat} {cs : Array Value} {t : TypeId} (h : Blk W b cs t) (j : Nat) : W.cell? ⟨b, j, none⟩ = cs[j]? := Lib.cell_of_heap h j
theorem Blk.free {W : World} {b : Nat} {cs : Array Value} {t : TypeId} (h : Blk W b cs t) (j : Nat) : W.frozen? ⟨b, j, none⟩ = false := Lib.frozen_of_heap h j
theorem Blk.set {W : World} {b : Nat} {cs : Array Value} {t : TypeId} (h : Blk W b cs t) (j : Nat) (u : Value) : Blk (W.setCell ⟨b, j, none⟩ u) b (cs.setIfInBounds j u) t := by
  unfold Blk at h ⊢
  simp [World.setCell, Array.getElem?_modify, h]
theorem Blk.two {W : World} {b : Nat} {x y : Value} {t : TypeId} (h : Blk W b #[x, y] t) :
    (W.cell? ⟨b, 0, none⟩ = some x ∧ W.cell? ⟨b, 1, none⟩ = some y) ∧ W.frozen? ⟨b, 0, none⟩ = false ∧ W.frozen? ⟨b, 1, none⟩ = false :=
  ⟨⟨h.cell 0, h.cell 1⟩, h.free 0, h.free 1⟩
theorem results_c1 {P : Program} {fn : Func} {p : Tmp} {ty : TypeId} {tmps : Array Value} {w : World} {g : Nat} {t : TypeId} {cs : Array Value} {d : TypeDesc} (h : fn.results = #[.cell p ty])
    (hp : tmps.getD p undef = .pointer (some ⟨g, 0, none⟩)) (hg : Blk w g cs t)
    (hu : P.underlying ty = some d) (hd : (match d with | .struct _ | .array _ _ => true | _ => false) = true) (hi : (P.info? ty).map (·.size) = some cs.size) :
    (results fn tmps).run P w = .ok (.agg cs) w := by
  have hp' : tmps[p]?.getD undef = .pointer (some ⟨g, 0, none⟩) := by simpa using hp
  simp [results, h, hp', asAddr, run_loadVar_row w g t ty cs (0, 0) d hg hu hd hi]
theorem results_ct {P : Program} {fn : Func} {p u : Tmp} {ty : TypeId} {tmps : Array Value} {w : World} {g : Nat} {t : TypeId} {cs : Array Value} {d : TypeDesc} (h : fn.results = #[.cell p ty, .tmp u])
    (hp : tmps.getD p undef = .pointer (some ⟨g, 0, none⟩)) (hg : Blk w g cs t)
    (hu : P.underlying ty = some d) (hd : (match d with | .struct _ | .array _ _ => true | _ => false) = true) (hi : (P.info? ty).map (·.size) = some cs.size) :
    (results fn tmps).run P w = .ok (.tuple #[.agg cs, tmps.getD u undef]) w := by
  have hp' : tmps[p]?.getD undef = .pointer (some ⟨g, 0, none⟩) := by simpa using hp
  simp [results, h, hp', asAddr, run_loadVar_row w g t ty cs (0, 0) d hg hu hd hi]
theorem NumV.below' {w w' : World} {v : Value} {n : Nat} (h : NumV w v n) (hb : Below w.heap.size w w') : NumV w' v n := h.below hb (Nat.le_refl _)
theorem two_stores {W : World} {base : Nat} {v : Value} {n : Nat} (r : Nat) (h : Owns W base 98 .u64 v (limbs B9 n)) (hr : r < base) (hl : (limbs B9 n).length ≤ 1000000) (u1 u2 : Value) :
    NumV ((W.setCell ⟨r, 0, none⟩ u1).setCell ⟨r, 1, none⟩ u2) v n := by
  have hne : v.ownBlock ≠ some r := fun e => by have := (World.ownsRow.lt h r e).1; omega
  exact NumV.of_owns (Owns.other (p := ⟨r, 1, none⟩) (Owns.other (p := ⟨r, 0, none⟩) h u1 hne) u2 hne) hl
theorem of_any' (s : ByteArray) (w : World) (hD : Digs s.data.toList) (hlen : s.size ≤ 100000) :
    Calls Tryz.prog 107 #[.string s] w fun e w' => ∃ A l c, e = .returned (.slice A l c) ∧ Hid (l = (limbs B9 (nv s)).length ∧ l ≤ 1000000) ∧ Owns w' w.heap.size 98 .u64 (.slice A l c) (limbs B9 (nv s)) ∧ Below w.heap.size w w' :=
  (of_any s w hD hlen).mono fun e w' ⟨A, l, c, h1, h2, h3, h4⟩ => ⟨A, l, c, h1, Lib.hid ⟨h2.1, by rw [h2.1]; exact h2.2.2.1⟩, h3, h4⟩
def TakenPost (a b : ByteArray) (w : World) (e : Ending) (w' : World) : Prop :=
  ∃ v1 v2, e = .returned (.agg #[v1, v2]) ∧ NumV w' v1 (nv a) ∧ NumV w' v2 (nv b) ∧ Below w.heap.size w w'
set_option maxRecDepth 100000 in
set_option maxHeartbeats 2000000 in
theorem taken_any (a b : ByteArray) (w : World) (ha : Digs a.data.toList) (hla : a.size ≤ 100000) (hb : Digs b.data.toList) (hlb : b.size ≤ 100000) :
    Calls Tryz.prog 60 #[.agg #[.string a, .string b]] w (TakenPost a b w) := by
  have TA := Lib.hid (fun W => of_any' a W ha hla)
  have TB := Lib.hid (fun W => of_any' b W hb hlb)
  clear ha hla hb hlb
  go_enter Tryz.func60, Tryz.ntmps60
  go_wp2
  have HBk := Lib.hid (And.intro (((Blk.new w #[.string a, .string b] 46).alloc (.cells #[.slice none 0 0, .slice none 0 0] 95)).drew) ((Blk.new (w.alloc (.cells #[.string a, .string b] 46)) #[.slice none 0 0, .slice none 0 0] 95).drew))
  have hm : Tryz.prog.follows .mixedOrders = true := by kernel_rfl
  have hfnR : ∀ f, Fence.wide.fn f := fun _ => trivial
  refine wp_region_J (fun W => W.cell? ⟨w.heap.size, 0, none⟩ = some (.string a) ∧ W.cell? ⟨w.heap.size, 1, none⟩ = some (.string b)) [7] hm ?hCells0 (fun hCells => ?_)
  case hCells0 => exact ⟨HBk.out.1.cell 0, HBk.out.1.cell 1⟩
  refine takeJ hfnR (by kernel_rfl) 0 (v := ?_) rfl (by kernel_rfl) (fun _ _ _ h => h) (by kernel_rfl) hCells (Or.inl ⟨by rfl, ?_⟩) ?_
  rotate_left 1
  · intro w hSw; (try dsimp only at hSw); go_simp; (try with_reducible rfl)
  try simp only [Act.put, List.setIfInBounds_toArray, List.set_cons_zero, List.set_cons_succ]
  refine takeJ hfnR (by kernel_rfl) 1 (v := ?_) rfl (by kernel_rfl) (fun _ _ _ h => h) (by kernel_rfl) hCells (Or.inl ⟨by rfl, ?_⟩) ?_
  rotate_left 1
  · intro w hSw; (try dsimp only at hSw); go_simp; (try with_reducible rfl)
  try simp only [Act.put, List.setIfInBounds_toArray, List.set_cons_zero, List.set_cons_succ]
  refine takeJ hfnR (by kernel_rfl) 3 (v := ?_) rfl (by kernel_rfl) (fun _ _ _ h => h) (by kernel_rfl) hCells (Or.inl ⟨by rfl, ?_⟩) ?_
  rotate_left 1
  · intro w hSw; (try dsimp only at hSw); go_simp; (try with_reducible rfl)
  try simp only [Act.put, List.setIfInBounds_toArray, List.set_cons_zero, List.set_cons_succ]
  refine takeJ hfnR (by kernel_rfl) 4 (v := ?_) rfl (by kernel_rfl) (fun _ _ _ h => h) (by kernel_rfl) hCells (Or.inl ⟨by rfl, ?_⟩) ?_
  rotate_left 1
  · intro w hSw; (try dsimp only at hSw); go_simp; (try with_reducible rfl)
  try simp only [Act.put, List.setIfInBounds_toArray, List.set_cons_zero, List.set_cons_succ]
  refine oneJ 2 (by kernel_rfl) rfl (fun K hK => ?_)
  go_simp
  refine ⟨rfl, ?_⟩
  (refine (callsIn_wide.2 (TA.out _)).mono ?_; rintro e w2 ⟨A, l, c, rfl, hN, hO, hB⟩)
  refine hK.out _ _ (holdJ ?_ (fun hCells => ?_))
  · clear hK; (try dsimp only); (exact ⟨pc hB hCells.1, pc hB hCells.2⟩)
  clear hK K
  try simp only [Act.put, List.setIfInBounds_toArray, List.set_cons_zero, List.set_cons_succ]
  refine oneJ 5 (by kernel_rfl) rfl (fun K hK => ?_)
  go_simp
  refine ⟨rfl, ?_⟩
  (refine (callsIn_wide.2 (TB.out _)).mono ?_; rintro e w3 ⟨A', l', c', rfl, hN', hO', hB'⟩)
  refine hK.out _ _ (holdJ ?_ (fun hCells => ?_))
  · clear hK; (try dsimp only); (exact ⟨pc hB' hCells.1, pc hB' hCells.2⟩)
  clear hK K
  try simp only [Act.put, List.setIfInBounds_toArray, List.set_cons_zero, List.set_cons_succ]
  refine takeJ hfnR (by kernel_rfl) 6 (v := ?_) rfl (by kernel_rfl) (fun _ _ _ h => h) (by kernel_rfl) hCells (Or.inl ⟨by rfl, ?_⟩) ?_
  rotate_left 1
  · intro w hSw; (try dsimp only at hSw); go_simp; (try with_reducible rfl)
  try simp only [Act.put, List.setIfInBounds_toArray, List.set_cons_zero, List.set_cons_succ]
  have HR := Lib.hid ((HBk.out.2.pass hB).pass hB')
  simp only [World.size_alloc] at HR
  have hr0 := HR.out.cell 0
  have hr1 := HR.out.cell 1
  have hf0 := HR.out.free 0
  have hf1 := HR.out.free 1
  simp only [List.getElem?_toArray, List.getElem?_cons_zero, List.getElem?_cons_succ] at hr0 hr1
  refine oneJ 7 (by kernel_rfl) rfl (fun K hK => ?_)
  go_simp
  refine hK.out _ _ (lastJ (by rfl) ?_)
  clear hK K
  try simp only [Act.put, List.setIfInBounds_toArray, List.set_cons_zero, List.set_cons_succ]
  refine wpAnyJ_done (by kernel_rfl) (NoPan.normal ?_) _
  go_wp2
  refine bodyPost_ret (results_c1 (g := w.heap.size + 1) rfl rfl ((HR.out.set 0 _).set 1 _) Tryz.underlying95 rfl (by kernel_rfl)) rfl ?_
  refine ⟨_, _, rfl, ?_, ?_, ?_⟩
  · exact two_stores (w.heap.size + 1) (hO.below hB' (Nat.le_refl _)) (by simp) (by rw [← hN.out.1]; exact hN.out.2) _ _
  · exact two_stores (w.heap.size + 1) hO' (by have := hB.size; simp at this; omega) (by rw [← hN'.out.1]; exact hN'.out.2) _ _
  · exact (((((Below.alloc (Below.refl _ w) (Nat.le_refl _) _).alloc (by simp) _).drew.trans (hB.mono (by simp; omega))).trans (hB'.mono (by have := hB.size; simp at this; omega))).setCell (by simp) _).setCell (by simp) _
end Go.Proofs.Cr
namespace Go.Proofs.Cr
open Go.RowKit Go.Shelf

def GcdI (a b : Nat) (w : World) (k : Nat) (v1 v2 : Value) (wr : World) : Prop :=
  ∃ x A1 l1 c1 A2 l2 c2, v1 = .slice A1 l1 c1 ∧ v2 = .slice A2 l2 c2 ∧ Num wr A1 l1 c1 x ∧ Num wr A2 l2 c2 k ∧ Nat.gcd x k = Nat.gcd a b ∧ l1 ≤ 40000 ∧ l2 ≤ 40000 ∧ Below w.heap.size w wr
def NumPost (n : Nat) (w : World) (e : Ending) (w' : World) : Prop := ∃ v, e = .returned v ∧ NumV w' v n ∧ Below w.heap.size w w'
set_option maxRecDepth 100000 in
set_option maxHeartbeats 2000000 in
theorem gcd_any (a b : Nat) (A1 A2 : Option Addr) (l1 l2 c1 c2 : Nat) (w : World) (h1 : Num w A1 l1 c1 a) (h2 : Num w A2 l2 c2 b) (hs1 : l1 ≤ 40000) (hs2 : l2 ≤ 40000) :
    Calls Tryz.prog 61 #[.slice A1 l1 c1, .slice A2 l2 c2] w (NumPost (Nat.gcd a b) w) := by
  have H0 : Hid (GcdI a b w b (.slice A1 l1 c1) (.slice A2 l2 c2) w) := Lib.hid ⟨a, A1, l1, c1, A2, l2, c2, rfl, rfl, h1, h2, rfl, hs1, hs2, Below.refl _ _⟩
  clear h1 h2 hs1 hs2
  go_enter Tryz.func61, Tryz.ntmps61
  go_wp2
  go_loopg [0, 1] b (fun k v1 v2 wr => GcdI a b w k v1 v2 wr)
  case atStart => exact H0.out
  case round =>
    obtain ⟨x, A1, l1, c1, A2, l2, c2, rfl, rfl, h1, h2, hg, hs1, hs2, hB⟩ := hrel
    have HG := Lib.hid hg; clear hg H0
    have HN := Lib.hid (And.intro h1 h2)
    by_cases hk : 0 < gk
    · have hl2 : 0 < l2 := by rw [h2.1]; exact (limbs_length_pos B9_two).2 hk
      have TO := Lib.hid (over_any x gk A1 A2 l1 l2 c1 c2 wr h1 h2 hs1 hs2 hk)
      clear h1 h2
      go_wp2_with (go_at_call 108; refine TO.out.mono ?_; rintro e w2 ⟨v1, v2, rfl, hn1, hn2, hb2⟩)
      obtain ⟨A3, l3, c3, rfl, h3⟩ := hn2
      have H3 := Lib.hid h3
      clear h3
      go_roundg (x % gk)
      case measure => exact Nat.mod_lt _ hk
      case rel =>
        refine ⟨gk, A2, l2, c2, A3, l3, c3, rfl, rfl, HN.out.2.below hb2 (Nat.le_refl _), H3.out, ?_, hs2, ?_, hB.trans (hb2.mono hB.size)⟩
        · rw [← HG.out, Nat.gcd_comm x gk]; exact (Nat.gcd_rec gk x).symm ▸ (Nat.gcd_comm _ _)
        · have h3 := limbs_length_mono B9_two (Nat.le_of_lt (Nat.mod_lt x hk))
          rw [H3.out.1]
          have := HN.out.2.1
          omega
    · have hk0 : gk = 0 := by omega
      subst hk0
      have hl2 : ¬ 0 < l2 := by rw [h2.1]; simp [limbs_zero]
      clear h1 h2
      go_wp2
      go_ret
      refine ⟨_, rfl, ⟨A1, l1, c1, rfl, ?_⟩, hB⟩
      rw [← HG.out, Nat.gcd_zero_right]
      exact HN.out.1
end Go.Proofs.Cr
namespace Go.Proofs.Cr
open Go.RowKit Go.Shelf

def pv (p : ByteArray × ByteArray × Int) : Value := .tuple #[.agg #[.string p.1, .string p.2.1], .int .i64 p.2.2]
def PartPost (p : ByteArray × ByteArray × Int) (w : World) (e : Ending) (w' : World) : Prop := e = .returned (pv p) ∧ Below w.heap.size w w'
theorem two_new (w : World) (cs ds : Array Value) (t u : TypeId) : Blk ((w.alloc (.cells cs t)).alloc (.cells ds u)) w.heap.size cs t ∧ Blk ((w.alloc (.cells cs t)).alloc (.cells ds u)) (w.heap.size + 1) ds u ∧ Below w.heap.size w ((w.alloc (.cells cs t)).alloc (.cells ds u)) := by
  refine ⟨(Blk.new w cs t).alloc _, ?_, ((Below.refl _ w).alloc (Nat.le_refl _) _).alloc (by simp) _⟩
  have := Blk.new (w.alloc (.cells cs t)) ds u
  rwa [World.size_alloc] at this
set_option maxRecDepth 100000 in
set_option maxHeartbeats 4000000 in
theorem part_any (n d : Nat) (v1 v2 : Value) (w : World) (h1 : NumV w v1 n) (h2 : NumV w v2 d) (hn : (limbs B9 n).length ≤ 40000) (hd : (limbs B9 d).length ≤ 40000) (hd0 : 0 < d) (hT : TabW w) :
    Calls Tryz.prog 66 #[.agg #[v1, v2]] w (PartPost (partS n d) w) := by
  obtain ⟨A1, l1, c1, rfl, h1⟩ := h1
  obtain ⟨A2, l2, c2, rfl, h2⟩ := h2
  obtain ⟨hX1, hR1, hW1⟩ := two_new w #[.slice A1 l1 c1, .slice A2 l2 c2] #[.string ⟨#[]⟩, .string ⟨#[]⟩] 95 46
  have HW1 := Lib.hid hW1
  have H1 := Lib.hid h1; have H2 := Lib.hid h2; have HT := Lib.hid hT
  have hl1 : l1 ≤ 40000 := by rw [h1.1]; exact hn
  have hl2 : l2 ≤ 40000 := by rw [h2.1]; exact hd
  obtain ⟨g, hg⟩ : ∃ g, g = Nat.gcd n d := ⟨_, rfl⟩
  have hg0 : 0 < g := by rw [hg]; exact Nat.gcd_pos_of_pos_right _ hd0
  have TG := Lib.hid (gcd_any n d A1 A2 l1 l2 c1 c2 _ (h1.below hW1 (Nat.le_refl _)) (h2.below hW1 (Nat.le_refl _)) hl1 hl2)
  rw [← hg] at TG
  have hgd : (limbs B9 g).length ≤ 40000 := Nat.le_trans (limbs_length_mono B9_two (by rw [hg]; exact Nat.gcd_le_right _ hd0)) hd
  obtain ⟨q1, hq1⟩ : ∃ q1, q1 = n / g := ⟨_, rfl⟩
  obtain ⟨q2, hq2⟩ : ∃ q2, q2 = d / g := ⟨_, rfl⟩
  have hlq1 : (limbs B9 q1).length ≤ 40000 := by
    have := limbs_length_mono B9_two (Nat.div_le_self n g); rw [← hq1] at this; omega
  have hlq2 : (limbs B9 q2).length ≤ 40000 := by
    have := limbs_length_mono B9_two (Nat.div_le_self d g); rw [← hq2] at this; omega
  have HP : Hid (partS n d = if 600 < (numB q1).size ∨ 600 < (numB q2).size then (⟨#[]⟩, ⟨#[]⟩, 4) else (numB q1, numB q2, 0)) := Lib.hid (by
    unfold partS; rw [← hg, ← hq1, ← hq2]; simp only [big_size])
  have HQ := Lib.hid (And.intro hq1 (And.intro hq2 (And.intro hlq1 hlq2)))
  have HGL := Lib.hid hgd
  clear h1 h2 hT hW1 hg hn hd hgd hq1 hq2 hlq1 hlq2
  go_enter Tryz.func66, Tryz.ntmps66
  go_wp2_with fail
  refine TG.out.mono ?_
  rintro e w2 ⟨vg, rfl, ⟨A3, l3, c3, rfl, h3⟩, hb2⟩
  have hX2 := hX1.pass hb2; have hR2 := hR1.pass hb2
  obtain ⟨⟨x0, x1⟩, _, _⟩ := hX2.two
  have H3 := Lib.hid h3; have HB2 : Hid (Below w.heap.size w w2) := Lib.hid (HW1.out.trans (hb2.mono HW1.out.size))
  have hl3 : l3 ≤ 40000 := by rw [h3.1]; exact HGL.out
  clear h3 hb2 TG hX1 hR1
  have TQ1 := Lib.hid (over_any n g A1 A3 l1 l3 c1 c3 w2 (H1.out.below HB2.out (Nat.le_refl _)) H3.out hl1 hl3 hg0)
  go_wp2_with fail
  refine TQ1.out.mono ?_
  clear TQ1 x0 x1
  rintro e w3 ⟨u1, u2, rfl, ⟨A4, l4, c4, rfl, h4⟩, ⟨A5, l5, c5, rfl, _⟩, hb3⟩
  rw [← HQ.out.1] at h4
  have hl4 : l4 ≤ 40000 := by rw [h4.1]; exact HQ.out.2.2.1
  have H4 := Lib.hid h4
  have hX3 := hX2.pass hb3; have hR3 := hR2.pass hb3
  obtain ⟨⟨x0, x1⟩, _, _⟩ := hX3.two
  have HB3 : Hid (Below w.heap.size w w3) := Lib.hid (HB2.out.trans (hb3.mono HB2.out.size))
  have TQ2 := Lib.hid (over_any d g A2 A3 l2 l3 c2 c3 w3 (H2.out.below HB3.out (Nat.le_refl _)) (H3.out.below hb3 (Nat.le_refl _)) hl2 hl3 hg0)
  clear h4 hb3 hX2 hR2
  go_wp2_with fail
  refine TQ2.out.mono ?_
  clear TQ2 x0 x1
  rintro e w4 ⟨u1, u2, rfl, ⟨A6, l6, c6, rfl, h6⟩, ⟨A7, l7, c7, rfl, _⟩, hb4⟩
  rw [← HQ.out.2.1] at h6
  have hl6 : l6 ≤ 40000 := by rw [h6.1]; exact HQ.out.2.2.2
  have H6 := Lib.hid h6
  have hR4 := hR3.pass hb4
  have HB4 : Hid (Below w.heap.size w w4) := Lib.hid (HB3.out.trans (hb4.mono HB3.out.size))
  have H4' := Lib.hid (H4.out.below hb4 (Nat.le_refl _))
  have TD1 := Lib.hid (digits_any q1 A4 l4 c4 w4 H4'.out (HT.out.below HB4.out (Nat.le_refl _)) hl4)
  clear h6 hb4 hX3 hR3 H4
  go_wp2_with fail
  refine TD1.out.mono ?_
  clear TD1
  rintro e w5 ⟨rfl, hb5⟩
  have hR5 := hR4.pass hb5
  have HB5 : Hid (Below w.heap.size w w5) := Lib.hid (HB4.out.trans (hb5.mono HB4.out.size))
  have H45 := Lib.hid (H4'.out.below hb5 (Nat.le_refl _))
  have H65 := Lib.hid (H6.out.below hb5 (Nat.le_refl _))
  clear hb5 hR4 H4' H6
  by_cases hs1 : 600 < (numB q1).size
  · have hs1' : (600 : Int) < ((numB q1).size : Int) := by omega
    have hP := HP.out
    rw [if_pos (.inl hs1)] at hP
    have HPr := Lib.hid hP
    obtain ⟨⟨r0, r1⟩, f0, f1⟩ := hR5.two
    clear hP hs1
    go_wp2_with fail
    refine bodyPost_ret (results_ct (g := w.heap.size + 1) rfl rfl ((hR5.set 0 _).set 1 _) Tryz.underlying46 rfl (by kernel_rfl)) rfl ?_
    exact ⟨by rw [HPr.out]; simp [pv], (HB5.out.setCell (by simp) _).setCell (by simp) _⟩
  · have hs1' : ¬ (600 : Int) < ((numB q1).size : Int) := by omega
    have TD2 := Lib.hid (digits_any q2 A6 l6 c6 w5 H65.out (HT.out.below HB5.out (Nat.le_refl _)) hl6)
    go_wp2_with fail
    refine TD2.out.mono ?_
    clear TD2
    rintro e w6 ⟨rfl, hb6⟩
    have hR6 := hR5.pass hb6
    have HB6 : Hid (Below w.heap.size w w6) := Lib.hid (HB5.out.trans (hb6.mono HB5.out.size))
    have H46 := Lib.hid (H45.out.below hb6 (Nat.le_refl _))
    have H66 := Lib.hid (H65.out.below hb6 (Nat.le_refl _))
    clear hb6 hR5 H45 H65
    by_cases hs2 : 600 < (numB q2).size
    · have hs2' : (600 : Int) < ((numB q2).size : Int) := by omega
      have hP := HP.out
      rw [if_pos (.inr hs2)] at hP
      have HPr := Lib.hid hP
      obtain ⟨⟨r0, r1⟩, f0, f1⟩ := hR6.two
      clear hP hs1 hs2
      go_wp2_with fail
      refine bodyPost_ret (results_ct (g := w.heap.size + 1) rfl rfl ((hR6.set 0 _).set 1 _) Tryz.underlying46 rfl (by kernel_rfl)) rfl ?_
      exact ⟨by rw [HPr.out]; simp [pv], (HB6.out.setCell (by simp) _).setCell (by simp) _⟩
    · have hs2' : ¬ (600 : Int) < ((numB q2).size : Int) := by omega
      have hP := HP.out
      rw [if_neg (fun h => h.elim hs1 hs2)] at hP
      have HPr := Lib.hid hP
      have TX1 := Lib.hid (text_any q1 A4 l4 c4 w6 H46.out (HT.out.below HB6.out (Nat.le_refl _)) hl4)
      clear hP hs1 hs2
      go_wp2_with fail
      refine TX1.out.mono ?_
      clear TX1
      rintro e w7 ⟨rfl, hb7⟩
      have hR7 := hR6.pass hb7
      have HB7 : Hid (Below w.heap.size w w7) := Lib.hid (HB6.out.trans (hb7.mono HB6.out.size))
      have TX2 := Lib.hid (text_any q2 A6 l6 c6 w7 (H66.out.below hb7 (Nat.le_refl _)) (HT.out.below HB7.out (Nat.le_refl _)) hl6)
      clear hb7 hR6
      go_wp2_with fail
      refine TX2.out.mono ?_
      clear TX2
      rintro e w8 ⟨rfl, hb8⟩
      have hR8 := hR7.pass hb8
      have HB8 : Hid (Below w.heap.size w w8) := Lib.hid (HB7.out.trans (hb8.mono HB7.out.size))
      obtain ⟨⟨r0, r1⟩, f0, f1⟩ := hR8.two
      clear hb8 hR7
      go_wp2_with fail
      refine bodyPost_ret (results_ct (g := w.heap.size + 1) rfl rfl ((hR8.set 0 _).set 1 _) Tryz.underlying46 rfl (by kernel_rfl)) rfl ?_
      exact ⟨by rw [HPr.out]; simp [pv], (HB8.out.setCell (by simp) _).setCell (by simp) _⟩
end Go.Proofs.Cr
namespace Go.Proofs.Cr
open Go.RowKit Go.Shelf

theorem limbs_one_cell {w : World} {A : Option Addr} {c n : Nat} (h : Num w A 1 c n) : ∃ ad, A = some ad ∧ ad = ⟨ad.block, ad.off, none⟩ ∧ w.cell? ad = some (.int .u64 (n : Int)) := by
  obtain ⟨hl, _, hr⟩ := h
  obtain ⟨b, off, rfl, _, hc⟩ := hr.2 (by omega)
  have h0 := hc 0 (by omega)
  refine ⟨_, rfl, rfl, ?_⟩
  have hv := val_limbs B9_two n
  match hm : limbs B9 n, hl with
  | [x], _ =>
    rw [hm] at h0 hv
    rw [val_single] at hv
    subst hv
    exact h0
theorem limbs_le_pow {n k m : Nat} (h : n < 10 ^ k) (hk : k ≤ 9 * m) : (limbs B9 n).length ≤ m := by
  refine limbs_length_le B9_two ?_
  rw [B9_pow, ← Nat.pow_mul]
  exact Nat.lt_of_lt_of_le h (Nat.pow_le_pow_right (by decide) hk)
theorem limbs_of_right {s : ByteArray} (h : rightB s = true) : (limbs B9 (nv s)).length ≤ 67 := limbs_le_pow (nv_lt h) (by decide)
theorem limbs_le_of_right {s : ByteArray} (h : rightB s = true) : (limbs B9 (nv s)).length ≤ 40000 := Nat.le_trans (limbs_of_right h) (by decide)
theorem chk_gcd' {a b : ByteArray} {g : Nat} (ha : rightB a = true) (hb : rightB b = true) (h : nv b ≠ 0) (e : g = Nat.gcd (nv a) (nv b)) : chk a b = decide (g = 1) := by
  subst e
  rw [Bool.eq_iff_iff, chk_gcd ha hb h]
def okErr (b : Bool) : Int := if b then 0 else 2
set_option maxRecDepth 100000 in
set_option maxHeartbeats 1000000 in
/-- Is a fraction valid? -/
theorem check_any (a b : ByteArray) (w : World) :
    Calls Tryz.prog 26 #[.agg #[.string a, .string b]] w fun e w' => e = .returned (.int .i64 (okErr (chk a b))) ∧ Below w.heap.size w w' := by
  have hX1 := Blk.new w #[.string a, .string b] 46
  have HW1 := Lib.hid ((Below.refl _ w).alloc (Nat.le_refl _) (.cells #[.string a, .string b] 46))
  have RA := Lib.hid (fun W => right_any a W)
  have RB := Lib.hid (fun W => right_any b W)
  by_cases ra : rightB a = true
  · rw [ra] at RA
    by_cases rb : rightB b = true
    · rw [rb] at RB
      by_cases hz : nv b = 0
      · have HC := Lib.hid (chk_zero (a := a) hz)
        have e0 : (b.toList == [48]) = true := by rw [zero_eq rb]; simp [hz]
        clear ra rb hz
        go_enter Tryz.func26, Tryz.ntmps26
        go_wp2_with fail
        refine (RA.out _).mono ?_; rintro e w2 ⟨rfl, hb2⟩; have hX2 := hX1.pass hb2; obtain ⟨⟨x0, x1⟩, _, _⟩ := hX2.two; have HB2 := Lib.hid (HW1.out.trans (hb2.mono HW1.out.size)); clear hb2
        go_wp2_with fail
        refine (RB.out _).mono ?_; rintro e w3 ⟨rfl, hb3⟩; have hX3 := hX2.pass hb3; obtain ⟨⟨y0, y1⟩, _, _⟩ := hX3.two; have HB3 := Lib.hid (HB2.out.trans (hb3.mono HB2.out.size)); clear hb3
        go_wp2_with fail
        go_ret
        exact ⟨by rw [HC.out]; rfl, HB3.out⟩
      · have e0 : (b.toList == [48]) = false := by rw [zero_eq rb]; simp [hz]
        have DA := (rightB_ok ra).1.2.1
        have DB := (rightB_ok rb).1.2.1
        have sa := (rightB_ok ra).2
        have sb := (rightB_ok rb).2
        have TT := Lib.hid (fun W => taken_any a b W DA (by omega) DB (by omega))
        have hla : (limbs B9 (nv a)).length ≤ 40000 := limbs_le_of_right ra
        have hlb : (limbs B9 (nv b)).length ≤ 40000 := limbs_le_of_right rb
        have HC := Lib.hid (fun g (e : g = Nat.gcd (nv a) (nv b)) => chk_gcd' ra rb hz e)
        have hg0 : 0 < Nat.gcd (nv a) (nv b) := Nat.gcd_pos_of_pos_right _ (by omega)
        have HG0 := Lib.hid hg0
        have HL := Lib.hid (And.intro hla hlb)
        clear ra rb hz DA DB sa sb hla hlb hg0
        go_enter Tryz.func26, Tryz.ntmps26
        go_wp2_with fail
        refine (RA.out _).mono ?_; rintro e w2 ⟨rfl, hb2⟩; have hX2 := hX1.pass hb2; obtain ⟨⟨x0, x1⟩, _, _⟩ := hX2.two; have HB2 := Lib.hid (HW1.out.trans (hb2.mono HW1.out.size)); clear hb2
        go_wp2_with fail
        refine (RB.out _).mono ?_; rintro e w3 ⟨rfl, hb3⟩; have hX3 := hX2.pass hb3; obtain ⟨⟨y0, y1⟩, _, _⟩ := hX3.two; have HB3 := Lib.hid (HB2.out.trans (hb3.mono HB2.out.size)); clear hb3
        go_wp2_with fail
        refine (TT.out _).mono ?_
        rintro e w4 ⟨v1, v2, rfl, hn1, hn2, hb4⟩
        obtain ⟨A1, l1, c1, rfl, h1⟩ := hn1
        obtain ⟨A2, l2, c2, rfl, h2⟩ := hn2
        have HB4 := Lib.hid (HB3.out.trans (hb4.mono HB3.out.size))
        have H1 := Lib.hid h1; have H2 := Lib.hid h2
        clear h1 h2 hb4
        have hb5 := Below.alloc (Below.refl _ w4) (Nat.le_refl _) (.cells #[.slice A1 l1 c1, .slice A2 l2 c2] 95)
        have TG := Lib.hid (gcd_any (nv a) (nv b) A1 A2 l1 l2 c1 c2 _ (H1.out.below hb5 (Nat.le_refl _)) (H2.out.below hb5 (Nat.le_refl _)) (by rw [H1.out.1]; exact HL.out.1) (by rw [H2.out.1]; exact HL.out.2))
        have HB5 := Lib.hid (HB4.out.trans (hb5.mono HB4.out.size))
        clear hb5
        go_wp2_with fail
        refine TG.out.mono ?_
        clear TG
        rintro e w6 ⟨v, rfl, ⟨A3, l3, c3, rfl, h3⟩, hb6⟩
        have HB6 := Lib.hid (HB5.out.trans (hb6.mono HB5.out.size))
        have H3 := Lib.hid h3
        obtain ⟨g, hg⟩ : ∃ g, g = Nat.gcd (nv a) (nv b) := ⟨_, rfl⟩
        rw [← hg] at H3 HG0
        have hg0 := HG0.out
        have HC := Lib.hid (HC.out g hg)
        clear h3 hb6 hg
        by_cases h1 : l3 = 1
        · subst h1
          obtain ⟨⟨gb, go, gi⟩, rfl, had, hcell⟩ := limbs_one_cell H3.out
          cases had
          by_cases hg1 : g = 1
          · subst hg1
            go_wp2_with fail
            go_ret
            exact ⟨by rw [HC.out]; rfl, HB6.out⟩
          · have e1 : ((g : Int) != 1) = true := by simp; omega
            have HG1 := Lib.hid hg1
            clear hg1
            go_wp2_with fail
            go_ret
            exact ⟨by rw [HC.out, decide_eq_false HG1.out]; rfl, HB6.out⟩
        · have e1 : ((l3 : Int) != 1) = true := by simp; omega
          have HG1 : Hid (¬ g = 1) := Lib.hid (by
            intro hg1; apply h1; rw [H3.out.1, hg1, limbs_small B9_two (by decide) (by decide)]; rfl)
          clear h1
          go_wp2_with fail
          go_ret
          exact ⟨by rw [HC.out, decide_eq_false HG1.out]; rfl, HB6.out⟩
    · have rb : rightB b = false := by simpa using rb
      rw [rb] at RB
      have HC := Lib.hid (chk_den (a := a) rb)
      clear ra rb
      go_enter Tryz.func26, Tryz.ntmps26
      go_wp2_with fail
      refine (RA.out _).mono ?_; rintro e w2 ⟨rfl, hb2⟩; have hX2 := hX1.pass hb2; obtain ⟨⟨x0, x1⟩, _, _⟩ := hX2.two; have HB2 := Lib.hid (HW1.out.trans (hb2.mono HW1.out.size)); clear hb2
      go_wp2_with fail
      refine (RB.out _).mono ?_; rintro e w3 ⟨rfl, hb3⟩; have HB3 := Lib.hid (HB2.out.trans (hb3.mono HB2.out.size)); clear hb3
      go_wp2_with fail
      go_ret
      exact ⟨by rw [HC.out]; rfl, HB3.out⟩
  · have ra : rightB a = false := by simpa using ra
    rw [ra] at RA
    have HC := Lib.hid (chk_num (b := b) ra)
    clear ra RB
    go_enter Tryz.func26, Tryz.ntmps26
    go_wp2_with fail
    refine (RA.out _).mono ?_; rintro e w2 ⟨rfl, hb2⟩; have HB2 := Lib.hid (HW1.out.trans (hb2.mono HW1.out.size)); clear hb2
    go_wp2_with fail
    go_ret
    exact ⟨by rw [HC.out]; rfl, HB2.out⟩
end Go.Proofs.Cr
namespace Go.Proofs.Cr
open Go.RowKit Go.Shelf
attribute [local go_sem] Oper.semAt_some

theorem three_new (w : World) (cs ds fs : Array Value) (t u r : TypeId) : Blk (((w.alloc (.cells cs t)).alloc (.cells ds u)).alloc (.cells fs r)) w.heap.size cs t ∧ Blk (((w.alloc (.cells cs t)).alloc (.cells ds u)).alloc (.cells fs r)) (w.heap.size + 1) ds u ∧
    Blk (((w.alloc (.cells cs t)).alloc (.cells ds u)).alloc (.cells fs r)) (w.heap.size + 1 + 1) fs r ∧ Below w.heap.size w (((w.alloc (.cells cs t)).alloc (.cells ds u)).alloc (.cells fs r)) := by
  obtain ⟨h1, h2, h3⟩ := two_new w cs ds t u
  refine ⟨h1.alloc _, h2.alloc _, ?_, h3.alloc (by simp; omega) _⟩
  have := Blk.new ((w.alloc (.cells cs t)).alloc (.cells ds u)) fs r
  rwa [World.size_alloc, World.size_alloc] at this
theorem far2 {W : World} {b o r : Nat} {u1 u2 v : Value} (h : W.cell? ⟨b, o, none⟩ = some v) (hne : b ≠ r) : ((W.setCell ⟨r, 0, none⟩ u1).setCell ⟨r, 1, none⟩ u2).cell? ⟨b, o, none⟩ = some v := by
  rw [World.cell?_setCell_other _ _ _ _ (by simp <;> omega), World.cell?_setCell_other _ _ _ _ (by simp <;> omega)]
  exact h
def twoS (p : ByteArray × ByteArray × Int) (a b c d : ByteArray) : ByteArray × ByteArray × Int := if chk a b = true ∧ chk c d = true then p else (⟨#[]⟩, ⟨#[]⟩, 2)
def DoK (K : Nat) (p : ByteArray × ByteArray × Int) (a b c d : ByteArray) (w : World) : Prop :=
  ∀ W v1 v2 v3 v4, Below w.heap.size w W → NumV W v1 (nv a) → NumV W v2 (nv b) → NumV W v3 (nv c) → NumV W v4 (nv d) → Calls Tryz.prog K #[.agg #[v1, v2], .agg #[v3, v4]] W (PartPost p W)
set_option maxRecDepth 100000 in
set_option maxHeartbeats 1000000 in
theorem two_any (K : Nat) (p : ByteArray × ByteArray × Int) (a b c d : ByteArray) (w : World) (eK : ∀ args w, (callFunc K args).run Tryz.prog w = .ok (.enter K args) w)
    (hK : chk a b = true → chk c d = true → DoK K p a b c d w) :
    Calls Tryz.prog 62 #[.agg #[.string a, .string b], .agg #[.string c, .string d], .func (.func K) #[] #[]] w (PartPost (twoS p a b c d) w) := by
  obtain ⟨p1, p2, p3⟩ := p
  obtain ⟨hA1, hB1, hR1, hW1⟩ := three_new w #[.string a, .string b] #[.string c, .string d] #[.string ⟨#[]⟩, .string ⟨#[]⟩] 46 46 46
  have HW1 := Lib.hid hW1
  have CA := Lib.hid (fun W => check_any a b W)
  have CB := Lib.hid (fun W => check_any c d W)
  clear hW1
  by_cases ca : chk a b = true
  · rw [ca, show okErr true = 0 from rfl] at CA
    by_cases cb : chk c d = true
    · rw [cb, show okErr true = 0 from rfl] at CB
      have HS : Hid (twoS (p1, p2, p3) a b c d = (p1, p2, p3)) := Lib.hid (if_pos ⟨ca, cb⟩)
      have TA := Lib.hid (fun W => taken_any a b W (rightB_ok (chk_ok ca).1).1.2.1 (Nat.le_trans (rightB_ok (chk_ok ca).1).2 (by decide)) (rightB_ok (chk_ok ca).2.1).1.2.1 (Nat.le_trans (rightB_ok (chk_ok ca).2.1).2 (by decide)))
      have TB := Lib.hid (fun W => taken_any c d W (rightB_ok (chk_ok cb).1).1.2.1 (Nat.le_trans (rightB_ok (chk_ok cb).1).2 (by decide)) (rightB_ok (chk_ok cb).2.1).1.2.1 (Nat.le_trans (rightB_ok (chk_ok cb).2.1).2 (by decide)))
      have HD := Lib.hid (hK ca cb)
      clear ca cb hK
      go_enter Tryz.func62, Tryz.ntmps62
      go_wp2_with fail
      refine (CA.out _).mono ?_; rintro e w2 ⟨rfl, hb2⟩; have hA2 := hA1.pass hb2; have hB2 := hB1.pass hb2; have hR2 := hR1.pass hb2; obtain ⟨⟨x0, x1⟩, _, _⟩ := hA2.two; obtain ⟨⟨y0, y1⟩, _, _⟩ := hB2.two; have HB2 := Lib.hid (HW1.out.trans (hb2.mono HW1.out.size)); clear hb2 hA1 hB1 hR1
      go_wp2_with fail
      refine (CB.out _).mono ?_; rintro e w3 ⟨rfl, hb3⟩; have hA3 := hA2.pass hb3; have hB3 := hB2.pass hb3; have hR3 := hR2.pass hb3; have HB3 := Lib.hid (HB2.out.trans (hb3.mono HB2.out.size)); clear hb3 hA2 hB2 hR2 x0 x1 y0 y1
      go_wp2_with fail
      have hm : Tryz.prog.follows .mixedOrders = true := by kernel_rfl
      have hfnR : ∀ f, Fence.wide.fn f := fun _ => trivial
      refine wp_region_J (fun W => (W.cell? ⟨w.heap.size, 0, none⟩ = some (.string a) ∧ W.cell? ⟨w.heap.size, 1, none⟩ = some (.string b)) ∧ (W.cell? ⟨w.heap.size + 1, 0, none⟩ = some (.string c) ∧ W.cell? ⟨w.heap.size + 1, 1, none⟩ = some (.string d))) [] hm ?hCells0 (fun hCells => ?_)
      case hCells0 => exact ⟨hA3.drew.two.1, hB3.drew.two.1⟩
      refine takeJ hfnR (by kernel_rfl) 0 (v := ?_) rfl (by kernel_rfl) (fun _ _ _ h => h) (by kernel_rfl) hCells (Or.inl ⟨by rfl, ?_⟩) ?_
      rotate_left 1
      · intro w hSw; (try dsimp only at hSw); go_simp; (try with_reducible rfl)
      try simp only [Act.put, List.setIfInBounds_toArray, List.set_cons_zero, List.set_cons_succ]
      refine takeJ hfnR (by kernel_rfl) 1 (v := ?_) rfl (by kernel_rfl) (fun _ _ _ h => h) (by kernel_rfl) hCells (Or.inl ⟨by rfl, ?_⟩) ?_
      rotate_left 1
      · intro w hSw; (try dsimp only at hSw); go_simp; (try with_reducible rfl)
      try simp only [Act.put, List.setIfInBounds_toArray, List.set_cons_zero, List.set_cons_succ]
      refine takeJ hfnR (by kernel_rfl) 3 (v := ?_) rfl (by kernel_rfl) (fun _ _ _ h => h) (by kernel_rfl) hCells (Or.inl ⟨by rfl, ?_⟩) ?_
      rotate_left 1
      · intro w hSw; (try dsimp only at hSw); go_simp; (try with_reducible rfl)
      try simp only [Act.put, List.setIfInBounds_toArray, List.set_cons_zero, List.set_cons_succ]
      refine oneJ 2 (by kernel_rfl) rfl (fun K hK => ?_)
      go_simp
      refine ⟨rfl, ?_⟩
      (refine (callsIn_wide.2 (TA.out _)).mono ?_; rintro e w4 ⟨v1, v2, rfl, hn1, hn2, hb4⟩)
      refine hK.out _ _ (holdJ ?_ (fun hCells => ?_))
      · clear hK; (try dsimp only); (exact ⟨⟨pc hb4 hCells.1.1, pc hb4 hCells.1.2⟩, ⟨pc hb4 hCells.2.1, pc hb4 hCells.2.2⟩⟩)
      clear hK K
      try simp only [Act.put, List.setIfInBounds_toArray, List.set_cons_zero, List.set_cons_succ]
      refine oneJ 4 (by kernel_rfl) rfl (fun K hK => ?_)
      go_simp
      refine ⟨rfl, ?_⟩
      (refine (callsIn_wide.2 (TB.out _)).mono ?_; rintro e w5 ⟨v3, v4, rfl, hn3, hn4, hb5⟩)
      refine hK.out _ _ (holdJ ?_ (fun hCells => ?_))
      · clear hK; (try dsimp only); (exact ⟨⟨pc hb5 hCells.1.1, pc hb5 hCells.1.2⟩, ⟨pc hb5 hCells.2.1, pc hb5 hCells.2.2⟩⟩)
      clear hK K
      try simp only [Act.put, List.setIfInBounds_toArray, List.set_cons_zero, List.set_cons_succ]
      have hR4 := (hR3.drew.pass hb4).pass hb5
      have HB4 := Lib.hid (HB3.out.drew.trans (hb4.mono (by simpa using HB3.out.size)))
      have HB5 := Lib.hid (HB4.out.trans (hb5.mono HB4.out.size))
      have HF := Lib.hid (HD.out w5 v1 v2 v3 v4 HB5.out (hn1.below' hb5) (hn2.below' hb5) hn3 hn4)
      clear hn1 hn2 hn3 hn4 hb4 hR3
      refine oneJ 5 (by kernel_rfl) rfl (fun K hK => ?_)
      go_simp
      refine ⟨rfl, ?_⟩
      (refine (callsIn_wide.2 HF.out).mono ?_; rintro e w6 ⟨he, hb6⟩; simp only [pv] at he; subst he)
      refine hK.out _ _ (holdJ ?_ (fun hCells => ?_))
      · clear hK; (try dsimp only); (exact ⟨⟨pc hb6 hCells.1.1, pc hb6 hCells.1.2⟩, ⟨pc hb6 hCells.2.1, pc hb6 hCells.2.2⟩⟩)
      clear hK K
      try simp only [Act.put, List.setIfInBounds_toArray, List.set_cons_zero, List.set_cons_succ]
      have hR6 := hR4.pass hb6
      have HB6 := Lib.hid (HB5.out.trans (hb6.mono HB5.out.size))
      obtain ⟨⟨r0, r1⟩, f0, f1⟩ := hR6.two
      clear hb6 hR4 hb5
      refine takeJ hfnR (by kernel_rfl) 6 (v := ?_) rfl (by kernel_rfl) (fun _ _ _ h => h) (by kernel_rfl) hCells (Or.inl ⟨by rfl, ?_⟩) ?_
      rotate_left 1
      · intro w hSw; (try dsimp only at hSw); go_simp; (try with_reducible rfl)
      try simp only [Act.put, List.setIfInBounds_toArray, List.set_cons_zero, List.set_cons_succ]
      refine takeJ hfnR (by kernel_rfl) 7 (v := ?_) rfl (by kernel_rfl) (fun _ _ _ h => h) (by kernel_rfl) hCells (Or.inl ⟨by rfl, ?_⟩) ?_
      rotate_left 1
      · intro w hSw; (try dsimp only at hSw); go_simp; (try with_reducible rfl)
      try simp only [Act.put, List.setIfInBounds_toArray, List.set_cons_zero, List.set_cons_succ]
      refine oneJ 8 (by kernel_rfl) rfl (fun K hK => ?_)
      go_simp
      refine hK.out _ _ (holdJ ?_ (fun hCells => ?_))
      · clear hK; (try dsimp only); (exact ⟨⟨far2 hCells.1.1 (by omega), far2 hCells.1.2 (by omega)⟩, ⟨far2 hCells.2.1 (by omega), far2 hCells.2.2 (by omega)⟩⟩)
      clear hK K
      try simp only [Act.put, List.setIfInBounds_toArray, List.set_cons_zero, List.set_cons_succ]
      refine takeJ hfnR (by kernel_rfl) 9 (v := ?_) rfl (by kernel_rfl) (fun _ _ _ h => h) (by kernel_rfl) hCells (Or.inl ⟨by rfl, ?_⟩) ?_
      rotate_left 1
      · intro w hSw; (try dsimp only at hSw); go_simp; (try with_reducible rfl)
      try simp only [Act.put, List.setIfInBounds_toArray, List.set_cons_zero, List.set_cons_succ]
      refine wpAnyJ_done (by kernel_rfl) (NoPan.normal ?_) _
      go_wp2
      refine bodyPost_ret (results_ct (g := w.heap.size + 1 + 1) rfl rfl ((hR6.set 0 _).set 1 _) Tryz.underlying46 rfl (by kernel_rfl)) rfl ?_
      exact ⟨by rw [HS.out]; simp [pv], (HB6.out.setCell (by simp; omega) _).setCell (by simp; omega) _⟩
    · have cb : chk c d = false := by simpa using cb
      rw [cb, show okErr false = 2 from rfl] at CB
      have HS : Hid (twoS (p1, p2, p3) a b c d = (⟨#[]⟩, ⟨#[]⟩, 2)) := Lib.hid (if_neg (fun h => by rw [cb] at h; cases h.2))
      clear ca cb hK
      go_enter Tryz.func62, Tryz.ntmps62
      go_wp2_with fail
      refine (CA.out _).mono ?_; rintro e w2 ⟨rfl, hb2⟩; have hA2 := hA1.pass hb2; have hB2 := hB1.pass hb2; have hR2 := hR1.pass hb2; obtain ⟨⟨x0, x1⟩, _, _⟩ := hA2.two; obtain ⟨⟨y0, y1⟩, _, _⟩ := hB2.two; have HB2 := Lib.hid (HW1.out.trans (hb2.mono HW1.out.size)); clear hb2 hA1 hB1 hR1
      go_wp2_with fail
      refine (CB.out _).mono ?_; rintro e w3 ⟨rfl, hb3⟩; have hR3 := hR2.pass hb3; have HB3 := Lib.hid (HB2.out.trans (hb3.mono HB2.out.size)); clear hb3 hA2 hB2 hR2 x0 x1 y0 y1
      obtain ⟨⟨r0, r1⟩, f0, f1⟩ := hR3.two
      go_wp2_with fail
      refine bodyPost_ret (results_ct (g := w.heap.size + 1 + 1) rfl rfl ((hR3.set 0 _).set 1 _) Tryz.underlying46 rfl (by kernel_rfl)) rfl ?_
      exact ⟨by rw [HS.out]; simp [pv], (HB3.out.setCell (by simp; omega) _).setCell (by simp; omega) _⟩
  · have ca : chk a b = false := by simpa using ca
    rw [ca, show okErr false = 2 from rfl] at CA
    have HS : Hid (twoS (p1, p2, p3) a b c d = (⟨#[]⟩, ⟨#[]⟩, 2)) := Lib.hid (if_neg (fun h => by rw [ca] at h; cases h.1))
    clear ca hK CB
    go_enter Tryz.func62, Tryz.ntmps62
    go_wp2_with fail
    refine (CA.out _).mono ?_; rintro e w2 ⟨rfl, hb2⟩; have hR2 := hR1.pass hb2; have HB2 := Lib.hid (HW1.out.trans (hb2.mono HW1.out.size)); clear hb2 hA1 hB1 hR1
    obtain ⟨⟨r0, r1⟩, f0, f1⟩ := hR2.two
    go_wp2_with fail
    refine bodyPost_ret (results_ct (g := w.heap.size + 1 + 1) rfl rfl ((hR2.set 0 _).set 1 _) Tryz.underlying46 rfl (by kernel_rfl)) rfl ?_
    exact ⟨by rw [HS.out]; simp [pv], (HB2.out.setCell (by simp; omega) _).setCell (by simp; omega) _⟩
end Go.Proofs.Cr
