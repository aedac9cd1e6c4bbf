/- Contracts of functions that the laws reach, and plain lemmas. Part 4. -/
import Derived.Deep.CutBlock
import Derived.Deep.DeepCutAuto
import Derived.Lib.SlTrimSet
import Derived.Test.YtolofiiolinnoaaGreatDoorShelf
import Derived.Shelf.Strings.Builder1
import Derived.Lib.AppendIntMem
import Derived.Test.YtolofiiolinnoaaGreatDoorC01
import Derived.Test.YtolofiiolinnoaaGreatDoorC03
set_option linter.all false
namespace Go.Proofs.Cr
open Go.RowKit Go.Shelf

def OverI (a b d m N K l2 gn cn gv cv gq : Nat) (w : World) (iv : Value) (wr : World) : Prop :=
  ∃ (j : Nat) (z : Int) (ns qs : List Nat), iv = .int .i64 z ∧ z = (j : Int) - 1 ∧ LongI (a * d) (b * d) m N K ns qs j ∧ Owns wr w.heap.size 98 .u64 (.slice (some ⟨gn, 0, none⟩) N cn) ns ∧
    Owns wr w.heap.size 98 .u64 (.slice (some ⟨gv, 0, none⟩) l2 cv) (limbs B9 (b * d)) ∧ Owns wr w.heap.size 98 .u64 (.slice (some ⟨gq, 0, none⟩) K K) qs ∧ Below w.heap.size w wr
theorem dec_step {g f rest head g1 r1 : Nat} (h : g * f + rest = head) (hg : g = g1 + 1) (hr : r1 = rest + f) : g1 * f + r1 = head := by
  subst hg hr; rw [← h]; grind
def InnerI (f head q : Nat) (gv rv : Value) : Prop := ∃ g rest : Nat, gv = .int .u64 g ∧ rv = .int .u64 rest ∧ g * f + rest = head ∧ q ≤ g ∧ rest < 1000000000 ∧ g ≤ 2000000000
def InnerP (q : Nat) (wr : World) (gv rv : Value) (wx : World) : Prop := ∃ g rest : Nat, gv = .int .u64 g ∧ rv = .int .u64 rest ∧ q ≤ g ∧ g ≤ q + 1 ∧ g < 1000000000 ∧ wx = wr
/-- A number of one limb, just laid. -/
theorem num_one (W : World) (d : Nat) (h0 : 0 < d) (hB : d < B9) (e : Nat) : Num (W.alloc (.cells #[.int .u64 d] e)) (some ⟨W.heap.size, 0, none⟩) 1 1 d := by
  have hl := limbs_small B9_two h0 hB
  refine ⟨by rw [hl]; rfl, Nat.le_refl _, ?_⟩
  rw [hl]
  refine ⟨by simp, fun _ => ⟨W.heap.size, 0, rfl, by simp, fun j hj => ?_⟩⟩
  have : j = 0 := by simpa using hj
  subst this
  exact (VarIs.new W (.int .u64 d) e).1

set_option maxRecDepth 100000 in
set_option maxHeartbeats 4000000 in
theorem over_long (a b m : Nat) (A1 A2 : Option Addr) (l1 l2 c1 c2 : Nat) (w : World) (h1 : Num w A1 l1 c1 a) (h2 : Num w A2 l2 c2 b) (hm2 : l2 = m + 2) (hs1 : l1 ≤ 40000) (hle : b ≤ a) :
    Calls Tryz.prog 108 #[.slice A1 l1 c1, .slice A2 l2 c2] w (OverPost a b w) := by
  have hl21 : l2 ≤ l1 := by rw [h1.1, h2.1]; exact limbs_length_mono B9_two hle
  have HC := Lib.hid (cmp_any a b A1 A2 l1 l2 c1 c2 w h1 h2 (by omega) (by omega))
  have H1 := Lib.hid h1
  have H2 := Lib.hid h2
  have hlb : (limbs B9 b).length = m + 2 := by rw [← h2.1, hm2]
  obtain ⟨b2, off2, rfl, hlt2, hcell2⟩ := h2.2.2.2 (by omega)
  obtain ⟨top, htop⟩ : ∃ top, top = (limbs B9 b).getD (m + 1) 0 := ⟨_, rfl⟩
  have hc0 := hcell2 (m + 1) (by omega)
  rw [← htop] at hc0
  obtain ⟨d, hd⟩ : ∃ d, d = B9 / (top + 1) := ⟨_, rfl⟩
  obtain ⟨ht1, htB, hd1, hdB, f, s, hf, hs, D⟩ := scaled hlb htop hd
  obtain ⟨i1, hi1⟩ : ∃ i1, i1 = m + 1 := ⟨_, rfl⟩
  have e1 : (l2 : Int) - 1 = (i1 : Int) := by omega
  have e2 : (l2 : Int) - 2 = (m : Int) := by omega
  rw [← hi1] at hc0 hf
  have hB9 := B9_eq
  have ht64 : IntKind.u64.wrap ((top : Int) + 1) = ((top + 1 : Nat) : Int) := u64_add top 1 (by omega)
  have hdd : (1000000000 : Int).tdiv ((top : Int) + 1) = (d : Int) := by
    have := u64_div 1000000000 (top + 1)
    rw [hd, B9_eq]
    simpa using this
  have hdw : IntKind.u64.wrap (d : Int) = (d : Int) := u64_id d (by omega)
  have htne : ¬ ((top : Int) + 1 = 0) := by omega
  have hl1n : ((l2 : Int) == 1) = false := by simp; omega
  have HH := Lib.hid (And.intro hm2 (And.intro hi1 (And.intro htop (And.intro hd (And.intro hf hs)))))
  have HB := Lib.hid hB9
  clear hd htop hcell2 hlb h1 h2 hf hs hm2 hi1 hB9
  go_enter Tryz.func108, Tryz.ntmps108
  go_upto_region 7 with (go_at_call 73; refine HC.out.mono ?_; rintro e w1 ⟨r, rfl, hr1', hr2', hr3, hr4, hb1⟩; have hneg : ¬ r < 0 := (fun h => Nat.not_lt.2 hle (hr3.1 h)); clear hr3 hr4; have hc1' := (hb1.cell (p := ⟨b2, off2 + i1, none⟩) hlt2).trans hc0)
  have HT1 := Lib.hid (times_any a d A1 _ l1 1 c1 1 (w1.alloc (.cells #[.int .u64 d] 98)) (((H1.out.below hb1 (Nat.le_refl _)).below (Below.alloc (Below.refl _ w1) (Nat.le_refl _) _) (Nat.le_refl _))) (num_one w1 d hd1 hdB 98) (by omega) (by omega))
  have hla : (limbs B9 (a * d)).length ≤ l1 + 1 := by
    have h1 := limbs_mul_length B9_two a d
    rw [limbs_small B9_two hd1 hdB, ← H1.out.1] at h1
    exact h1
  have hla2 : l1 ≤ (limbs B9 (a * d)).length := by
    rw [H1.out.1]; exact limbs_length_mono B9_two (Nat.le_mul_of_pos_right _ hd1)
  have HLA := Lib.hid (And.intro hla hla2)
  clear hla hla2
  go_wp2_with (first
    | (go_at_call 64; refine HT1.out.mono ?_; rintro e w2 ⟨nv0, rfl, ho2, hb2⟩; clear HT1)
    | (at_builtin; refine app_num 0 rfl rfl Tryz.underlying93 info151 (by decide) rfl rfl ho2 hb2 hb2.size (by have := HLA.out.1; omega) rfl ?_))
  intro nv w3 ho3 hb3 _
  obtain ⟨gn, cn, rfl⟩ := ho3.form (by simp)
  obtain ⟨L0, hL0⟩ : ∃ L0, L0 = limbs B9 (a * d) ++ [0] := ⟨_, rfl⟩
  rw [← hL0] at ho3 ⊢
  obtain ⟨N, hN⟩ : ∃ N, N = L0.length := ⟨_, rfl⟩
  rw [← hN] at ho3 ⊢
  have hNx : N = (limbs B9 (a * d)).length + 1 := by rw [hN, hL0]; simp
  have hNl : ((N : Int) == (l1 : Int)) = false := by
    have := HLA.out.2
    simp
    omega
  have HL0 := Lib.hid hL0; have HN := Lib.hid hN; have HNX := Lib.hid hNx
  clear hL0 hN hNx
  have HT2 := Lib.hid (times_any b d (some ⟨b2, off2, none⟩) _ l2 1 c2 1 (w3.alloc (.cells #[.int .u64 d] 98)) (((H2.out.below hb1 (Nat.le_refl _)).below (((Below.alloc (Below.refl _ w1) (Nat.le_refl _) _).trans (hb3.mono (by simp))).alloc (by have := hb3.size; simp at this; omega) _) (Nat.le_refl _))) (num_one w3 d hd1 hdB 98) (by omega) (by omega))
  go_upto_region 10 with (go_at_call 64; refine HT2.out.mono ?_; rintro e w4 ⟨vv, rfl, ho4, hb4⟩; clear HT2)
  have hvl : (limbs B9 (b * d)).length = l2 := by rw [D.len]; exact HH.out.1.symm
  obtain ⟨gv, cv, hvv⟩ := ho4.form (by rw [hvl]; have := HH.out.1; omega)
  rw [hvl] at hvv
  subst hvv
  have hcf := ho4.cell i1 (by rw [hvl]; have := HH.out.1; have := HH.out.2.1; omega)
  have hcs := ho4.cell m (by rw [hvl]; have := HH.out.1; omega)
  rw [← HH.out.2.2.2.2.1] at hcf
  rw [← HH.out.2.2.2.2.2] at hcs
  have hm : Tryz.prog.follows .mixedOrders = true := by kernel_rfl
  have hfnR : ∀ f, Fence.wide.fn f := fun _ => trivial
  have HVL := Lib.hid hvl
  have hi1l : (i1 : Int) < (l2 : Int) := by have := HH.out.1; have := HH.out.2.1; omega
  have hml : (m : Int) < (l2 : Int) := by have := HH.out.1; omega
  have hw1 : IntKind.i64.wrap (i1 : Int) = (i1 : Int) := i64_id i1 (by omega)
  have hw2 : IntKind.i64.wrap (m : Int) = (m : Int) := i64_id m (by omega)
  clear hvl
  refine wp_region_J (fun W => W.cell? ⟨gv, i1, none⟩ = some (.int .u64 f) ∧ W.cell? ⟨gv, m, none⟩ = some (.int .u64 s)) [] hm ?hCells0 (fun hCells => ?_)
  case hCells0 => exact ⟨hcf, hcs⟩
  refine takeJ hfnR (by kernel_rfl) 0 (v := ?_) rfl (by kernel_rfl) (fun _ _ _ h => h) (by kernel_rfl) hCells (Or.inl ⟨by rfl, ?_⟩) ?_
  rotate_left 1
  · intro w hSw; (try dsimp only at hSw); go_simp; (try with_reducible rfl)
  try simp only [Act.put, List.setIfInBounds_toArray, List.set_cons_zero, List.set_cons_succ]
  refine takeJ hfnR (by kernel_rfl) 1 (v := ?_) rfl (by kernel_rfl) (fun _ _ _ h => h) (by kernel_rfl) hCells (Or.inl ⟨by rfl, ?_⟩) ?_
  rotate_left 1
  · intro w hSw; (try dsimp only at hSw); go_simp; (try with_reducible rfl)
  try simp only [Act.put, List.setIfInBounds_toArray, List.set_cons_zero, List.set_cons_succ]
  refine takeJ hfnR (by kernel_rfl) 2 (v := ?_) rfl (by kernel_rfl) (fun _ _ _ h => h) (by kernel_rfl) hCells (Or.inl ⟨by rfl, ?_⟩) ?_
  rotate_left 1
  · intro w hSw; (try dsimp only at hSw); go_simp; (try with_reducible rfl)
  try simp only [Act.put, List.setIfInBounds_toArray, List.set_cons_zero, List.set_cons_succ]
  refine takeJ hfnR (by kernel_rfl) 3 (v := ?_) rfl (by kernel_rfl) (fun _ _ _ h => h) (by kernel_rfl) hCells (Or.inl ⟨by rfl, ?_⟩) ?_
  rotate_left 1
  · intro w hSw; (try dsimp only at hSw); go_simp; (try with_reducible rfl)
  try simp only [Act.put, List.setIfInBounds_toArray, List.set_cons_zero, List.set_cons_succ]
  refine takeJ hfnR (by kernel_rfl) 4 (v := ?_) rfl (by kernel_rfl) (fun _ _ _ h => h) (by kernel_rfl) hCells (Or.inl ⟨by rfl, ?_⟩) ?_
  rotate_left 1
  · intro w hSw; (try dsimp only at hSw); go_simp; (try with_reducible rfl)
  try simp only [Act.put, List.setIfInBounds_toArray, List.set_cons_zero, List.set_cons_succ]
  refine takeJ hfnR (by kernel_rfl) 5 (v := ?_) rfl (by kernel_rfl) (fun _ _ _ h => h) (by kernel_rfl) hCells (Or.inl ⟨by rfl, ?_⟩) ?_
  rotate_left 1
  · intro w hSw; (try dsimp only at hSw); go_simp; (try with_reducible rfl)
  try simp only [Act.put, List.setIfInBounds_toArray, List.set_cons_zero, List.set_cons_succ]
  refine takeJ hfnR (by kernel_rfl) 6 (v := ?_) rfl (by kernel_rfl) (fun _ _ _ h => h) (by kernel_rfl) hCells (Or.inl ⟨by rfl, ?_⟩) ?_
  rotate_left 1
  · intro w hSw; (try dsimp only at hSw); go_simp; (try with_reducible rfl)
  try simp only [Act.put, List.setIfInBounds_toArray, List.set_cons_zero, List.set_cons_succ]
  refine takeJ hfnR (by kernel_rfl) 7 (v := ?_) rfl (by kernel_rfl) (fun _ _ _ h => h) (by kernel_rfl) hCells (Or.inl ⟨by rfl, ?_⟩) ?_
  rotate_left 1
  · intro w hSw; (try dsimp only at hSw); go_simp; (try with_reducible rfl)
  try simp only [Act.put, List.setIfInBounds_toArray, List.set_cons_zero, List.set_cons_succ]
  refine takeJ hfnR (by kernel_rfl) 8 (v := ?_) rfl (by kernel_rfl) (fun _ _ _ h => h) (by kernel_rfl) hCells (Or.inl ⟨by rfl, ?_⟩) ?_
  rotate_left 1
  · intro w hSw; (try dsimp only at hSw); go_simp; (try with_reducible rfl)
  try simp only [Act.put, List.setIfInBounds_toArray, List.set_cons_zero, List.set_cons_succ]
  refine takeJ hfnR (by kernel_rfl) 9 (v := ?_) rfl (by kernel_rfl) (fun _ _ _ h => h) (by kernel_rfl) hCells (Or.inl ⟨by rfl, ?_⟩) ?_
  rotate_left 1
  · intro w hSw; (try dsimp only at hSw); go_simp; (try with_reducible rfl)
  try simp only [Act.put, List.setIfInBounds_toArray, List.set_cons_zero, List.set_cons_succ]
  refine takeJ hfnR (by kernel_rfl) 10 (v := ?_) rfl (by kernel_rfl) (fun _ _ _ h => h) (by kernel_rfl) hCells (Or.inl ⟨by rfl, ?_⟩) ?_
  rotate_left 1
  · intro w hSw; (try dsimp only at hSw); go_simp; (try with_reducible rfl)
  try simp only [Act.put, List.setIfInBounds_toArray, List.set_cons_zero, List.set_cons_succ]
  refine takeJ hfnR (by kernel_rfl) 11 (v := ?_) rfl (by kernel_rfl) (fun _ _ _ h => h) (by kernel_rfl) hCells (Or.inl ⟨by rfl, ?_⟩) ?_
  rotate_left 1
  · intro w hSw; (try dsimp only at hSw); go_simp; (try with_reducible rfl)
  try simp only [Act.put, List.setIfInBounds_toArray, List.set_cons_zero, List.set_cons_succ]
  refine takeJ hfnR (by kernel_rfl) 12 (v := ?_) rfl (by kernel_rfl) (fun _ _ _ h => h) (by kernel_rfl) hCells (Or.inl ⟨by rfl, ?_⟩) ?_
  rotate_left 1
  · intro w hSw; (try dsimp only at hSw); go_simp; (try with_reducible rfl)
  try simp only [Act.put, List.setIfInBounds_toArray, List.set_cons_zero, List.set_cons_succ]
  refine takeJ hfnR (by kernel_rfl) 13 (v := ?_) rfl (by kernel_rfl) (fun _ _ _ h => h) (by kernel_rfl) hCells (Or.inl ⟨by rfl, ?_⟩) ?_
  rotate_left 1
  · intro w hSw; (try dsimp only at hSw); go_simp; (try with_reducible rfl)
  try simp only [Act.put, List.setIfInBounds_toArray, List.set_cons_zero, List.set_cons_succ]
  refine wpAnyJ_done (by kernel_rfl) (NoPan.normal ?_) _
  have HLL := HLA.out.2
  obtain ⟨K, hK⟩ : ∃ K, K = N - l2 := ⟨_, rfl⟩
  have HK := Lib.hid (show K + l2 = N by have := HNX.out; omega)
  have hK1 : K ≤ 100000 := by have := HNX.out; have := HLA.out.1; omega
  have eK : (N : Int) - (l2 : Int) = (K : Int) := by have := HK.out; omega
  clear hK HLL
  obtain ⟨C, hC, hmk⟩ := make_num (P := Tryz.prog) 93 98 .u64 8 Tryz.underlying93 info151 (Nat.le_refl _) K (by omega)
  have HC2 := Lib.hid hC; clear hC
  go_wp2_with fail
  have hs1b := hb1.size
  have hs3 := hb3.size
  have hs4 := hb4.size
  simp only [World.size_alloc] at hs3 hs4
  have ov := (World.ownsRow.alloc (World.ownsRow.drew (ho4.mono (base' := w.heap.size) (by simp; omega))) (.cells C 98))
  have on := (World.ownsRow.alloc (World.ownsRow.drew (((Owns.alloc ho3 (.cells #[.int .u64 d] 98)).below hb4 (Nat.le_refl _)).mono (base' := w.heap.size) (by omega))) (.cells C 98))
  have oq := Owns.made HC2.out w4.drew w.heap.size 98 (by simp; omega) (by omega)
  have hbl : Below w.heap.size w (w4.drew.alloc (.cells C 98)) :=
    ((((hb1.alloc (by omega) _).trans (hb3.mono (by omega))).alloc (by omega) _).trans (hb4.mono (by simp; omega))).drew.alloc (by simp; omega) _
  have hgn := ho3.lt_size
  have hgv := ho4.base_le
  have hgq := ho4.lt_size
  simp only [World.size_alloc] at hgv
  have hng : gn < gv := by omega
  simp only [World.size_drew] at oq
  clear hgn hgv hs1b hs3 hs4 HC ho2 ho3 ho4 hb2 hb3 hb4 hb1 hcf hcs hmk
  revert on ov oq hbl hgq
  rw [World.alloc_drew]
  generalize (w4.alloc (.cells C 98)).drew = wl
  generalize w4.heap.size = gq
  intro ov on oq hbl hvq
  go_loopw [13, 14, 15, 16, 17] (fun iv _ _ _ _ wr => OverI a b d m N K l2 gn cn gv cv gq w iv wr) (fun i _ _ _ _ _ => (intOf i + 1).toNat)
  case atStart =>
    refine ⟨K, (K : Int) - 1, L0, List.replicate K 0, rfl, rfl, ?_, on, ov, oq, hbl⟩
    rw [HNX.out, HL0.out]
    exact LongI.start D (by have := HK.out; have := HH.out.1; have := HNX.out; omega)
  case round =>
    obtain ⟨j, z, ns, qs, rfl, hz, hI, on, ov, oq, hbl⟩ := hrel
    rcases j with _ | i
    · have hz' : z = -1 := by omega
      subst hz'
      clear hz
      obtain ⟨htq, htn⟩ := hI.ends hd1
      have hnl := hI.nl
      have hql := hI.ql
      have hK2 : K ≤ 100000 := hK1
      have hN2 : N ≤ 100000 := by have := HNX.out; have := HLA.out.1; omega
      have hrn : Reads wr .u64 (some ⟨gn, 0, none⟩) ns ∧ N ≤ cn := by
        obtain ⟨A', c', e', hr', hc'⟩ := on.reads (by omega)
        obtain ⟨e1', e2', e3'⟩ := Value.slice.inj e'
        subst e1' e3'
        exact ⟨hr', by omega⟩
      have hrq : ∀ w7, Below wr.heap.size wr w7 → Reads w7 .u64 (some ⟨gq, 0, none⟩) qs := fun w7 hb7 => by
        obtain ⟨A', c', e', hr', hc'⟩ := (oq.below hb7 (Nat.le_refl _)).reads (by omega)
        obtain ⟨e1', e2', e3'⟩ := Value.slice.inj e'
        subst e1'
        exact hr'
      have HTA := Lib.hid (trim_any ns (some ⟨gn, 0, none⟩) cn wr hrn.1 (by rw [hnl]; exact hrn.2))
      rw [hnl, htn] at HTA
      have hrt : Reads wr .u64 (some ⟨gn, 0, none⟩) (limbs B9 (a % b * d)) := by
        have := hrn.1.take (trimN ns).length
        rwa [← trimN_prefix, htn] at this
      have htl : (limbs B9 (a % b * d)).length ≤ 100000 := by
        have := trimN_le ns
        rw [htn] at this; omega
      obtain ⟨tl, htl2⟩ : ∃ tl, tl = (limbs B9 (a % b * d)).length := ⟨_, rfl⟩
      have HS := Lib.hid (short_in wide_wide 3 (Nat.le_refl _) (limbs B9 (a % b * d)) (some ⟨gn, 0, none⟩) cn d wr hrt (bnd_limbs B9_two _) htl hd1 (by have := HB.out; omega))
      rw [← htl2] at HTA HS
      have HTQ := Lib.hid (And.intro htq (And.intro hql htl2))
      have HRQ := Lib.hid hrq
      clear htq htn hnl hql hrn hrq hrt htl htl2 hI
      go_upto_region 27 with (first
        | (go_at_call 109; refine HTA.out.mono ?_; rintro e w' ⟨rfl, rfl⟩)
        | (go_at_call 139; refine (callsIn_wide.1 HS.out).mono ?_; rintro e w7 ⟨v, zs, r2, rfl, hr2, hzb, hzt, hval, hown, hb7⟩))
      have HV := Lib.hid hval; clear hval
      have hrq7 := HRQ.out w7 hb7
      have HTB := Lib.hid (trim_any qs (some ⟨gq, 0, none⟩) K w7 hrq7 (by rw [HTQ.out.2.1]; exact Nat.le_refl _))
      rw [HTQ.out.2.1] at HTB
      obtain ⟨tq, htq⟩ : ∃ tq, tq = (trimN qs).length := ⟨_, rfl⟩
      rw [← htq] at HTB
      have HTL := Lib.hid htq
      have HR7 := Lib.hid hrq7
      clear htq hrq7
      go_wp2_with (go_at_call 109; refine HTB.out.mono ?_; rintro e w' ⟨rfl, rfl⟩)
      go_ret2
      have hv := HV.out
      rw [val_limbs B9_two] at hv
      have hz := unscale hd1 hr2 hzb hzt hv
      subst hz
      have hle2 := trimN_le qs
      refine ⟨.slice (some ⟨gq, 0, none⟩) tq K, v, rfl, ⟨_, _, _, rfl, by rw [HTL.out, HTQ.out.1], ?_, ?_⟩, NumV.of_owns hown ?_, hbl.trans (hb7.mono hbl.size)⟩
      · rw [HTL.out]; have := HTQ.out.2.1; omega
      · rw [← HTQ.out.1]
        have := HR7.out.take (trimN qs).length
        rwa [← trimN_prefix] at this
      · have h1 := limbs_length_mono B9_two (Nat.mod_le a b)
        have := H1.out.1
        omega
    · have hzi : z = (i : Int) := by omega
      subst hzi
      clear hz
      have hV := D.ltE
      obtain ⟨hpl, hpb, hplt, hpv, hz0⟩ := hI.part hV
      have hnl := hI.nl
      have hjK := hI.hj
      have hKN := hI.hK
      obtain ⟨p0, hp0⟩ : ∃ p0, p0 = ((ns.drop i).take (m + 3)).getD (m + 2) 0 := ⟨_, rfl⟩
      obtain ⟨p1, hp1⟩ : ∃ p1, p1 = ((ns.drop i).take (m + 3)).getD (m + 1) 0 := ⟨_, rfl⟩
      obtain ⟨p2, hp2⟩ : ∃ p2, p2 = ((ns.drop i).take (m + 3)).getD m 0 := ⟨_, rfl⟩
      obtain ⟨head, hhead⟩ : ∃ head, head = p0 * B9 + p1 := ⟨_, rfl⟩
      obtain ⟨P, hP⟩ : ∃ P, P = val B9 ((ns.drop i).take (m + 3)) := ⟨_, rfl⟩
      rw [← hP] at hplt
      have FD0 := digit_facts D hpl hpb hP.symm hplt hp0 hp1 hp2 hhead
      obtain ⟨q, hq⟩ : ∃ q, q = P / (b * d) := ⟨_, rfl⟩
      rw [← hq] at FD0
      have FD := Lib.hid FD0
      have HQ := Lib.hid hq
      clear hq FD0
      have hp0B : p0 < 1000000000 := by rw [hp0]; exact hpb.getD B9_pos _
      have hp1B : p1 < 1000000000 := by rw [hp1]; exact hpb.getD B9_pos _
      have hp2B : p2 < 1000000000 := by rw [hp2]; exact hpb.getD B9_pos _
      have hc0 := on.cell (i + l2) (by have := HH.out.1; omega)
      have hc1 := on.cell (i + i1) (by have := HH.out.1; have := HH.out.2.1; omega)
      have hc2 := on.cell (i + m) (by have := HH.out.1; omega)
      rw [show ns.getD (i + l2) 0 = p0 by rw [hp0, HH.out.1, part_get _ _ _ _ (by omega)]] at hc0
      rw [show ns.getD (i + i1) 0 = p1 by rw [hp1, HH.out.2.1, part_get _ _ _ _ (by omega)]] at hc1
      rw [show ns.getD (i + m) 0 = p2 by rw [hp2, part_get _ _ _ _ (by omega)]] at hc2
      obtain ⟨pl, hpl'⟩ : ∃ pl, pl = i + l2 := ⟨_, rfl⟩
      obtain ⟨pe, hpe⟩ : ∃ pe, pe = pl + 1 := ⟨_, rfl⟩
      have hpeN : pe ≤ N := by have := HH.out.1; omega
      have hN1 : N ≤ 100000 := by have := HNX.out; have := HLA.out.1; omega
      have es1 : (i : Int) + (l2 : Int) = (pl : Int) := by omega
      have es2 : (pl : Int) + 1 = (pe : Int) := by omega
      have hNc : N ≤ cn := by
        obtain ⟨A', c', e', _, hle'⟩ := on.reads (by omega)
        obtain ⟨_, _, e3⟩ := Value.slice.inj e'
        omega
      have hpc : pe ≤ cn := by omega
      have hcni : ¬ cn = i := by omega
      obtain ⟨pm, hpm⟩ : ∃ pm, pm = pe - i := ⟨_, rfl⟩
      obtain ⟨pc, hpc2⟩ : ∃ pc, pc = cn - i := ⟨_, rfl⟩
      have es3 : pe - i = pm := hpm.symm
      have es4 : cn - i = pc := hpc2.symm
      have hpm3 : pm = m + 3 := by have := HH.out.1; omega
      have HPL := Lib.hid (And.intro hpl' (And.intro hpe hpm3))
      clear hpm hpc2 hpm3
      have hipe : i ≤ pe := by omega
      have HPS := Lib.hid (And.intro hpl (And.intro hpb (And.intro hpv (And.intro hz0 hP))))
      have HDS := Lib.hid (And.intro hnl (And.intro hjK (And.intro hKN hhead)))
      clear hpl hpb hpv hz0 hnl hjK hKN hp0 hp1 hp2 hhead hpl' hpe hP
      have hw3 : IntKind.i64.wrap (l2 : Int) = (l2 : Int) := i64_id l2 (by omega)
      have hw4 : IntKind.i64.wrap (pl : Int) = (pl : Int) := i64_id pl (by omega)
      have hlpm : (l2 : Int) < (pm : Int) := by have := HPL.out.2.2; have := HH.out.1; omega
      have hipm : (i1 : Int) < (pm : Int) := by have := HPL.out.2.2; have := HH.out.2.1; omega
      have hmpm : (m : Int) < (pm : Int) := by have := HPL.out.2.2; omega
      obtain ⟨hd0, hhd0⟩ : ∃ hd0, hd0 = p0 * 1000000000 := ⟨_, rfl⟩
      have hhe := HDS.out.2.2.2
      rw [B9_eq, ← hhd0] at hhe
      have e5 : IntKind.u64.wrap ((p0 : Int) * 1000000000) = (hd0 : Int) := by rw [hhd0]; exact u64_mulc p0 1000000000 (by omega)
      have e6 : IntKind.u64.wrap ((hd0 : Int) + (p1 : Int)) = (head : Int) := by rw [hhe]; exact u64_add hd0 p1 (by omega)
      have hfB : f < 1000000000 := D.fB
      have hf1 : 500000000 ≤ f := by have := D.half; have := HB.out; omega
      have hfne : ¬ f = 0 := by omega
      obtain ⟨g0, hg0⟩ : ∃ g0, g0 = head / f := ⟨_, rfl⟩
      obtain ⟨r0, hr0⟩ : ∃ r0, r0 = head % f := ⟨_, rfl⟩
      have e7 : (head : Int).tdiv (f : Int) = (g0 : Int) := by rw [hg0]; exact u64_div _ _
      have e8 : (head : Int).tmod (f : Int) = (r0 : Int) := by rw [hr0]; exact u64_mod _ _
      have hheadlt : head < 1000000000000000000 := by omega
      have hg0B : g0 ≤ 2000000000 := by
        rw [hg0]
        have : head / f ≤ head / 500000000 := Nat.div_le_div_left hf1 (by decide)
        omega
      have hr0f : r0 < f := by rw [hr0]; exact Nat.mod_lt _ (by omega)
      have e9 : IntKind.u64.wrap (g0 : Int) = (g0 : Int) := u64_id _ (by omega)
      have HG := Lib.hid (show g0 * f + r0 = head by rw [hg0, hr0, Nat.mul_comm]; exact Nat.div_add_mod _ _)
      have HQ0 := Lib.hid (show q ≤ g0 by rw [hg0]; exact FD.out.2.2.1)
      clear hhd0 hhe hg0 hr0
      go_upto_region 16 with fail
      refine wp_region_J (fun W => W.cell? ⟨gn, i + l2, none⟩ = some (.int .u64 p0) ∧ W.cell? ⟨gn, i + i1, none⟩ = some (.int .u64 p1)) [] hm ?hCells0 (fun hCells => ?_)
      case hCells0 => exact ⟨hc0, hc1⟩
      refine takeJ hfnR (by kernel_rfl) 0 (v := ?_) rfl (by kernel_rfl) (fun _ _ _ h => h) (by kernel_rfl) hCells (Or.inl ⟨by rfl, ?_⟩) ?_
      rotate_left 1
      · intro w hSw; (try dsimp only at hSw); go_simp; (try with_reducible rfl)
      try simp only [Act.put, List.setIfInBounds_toArray, List.set_cons_zero, List.set_cons_succ]
      refine takeJ hfnR (by kernel_rfl) 1 (v := ?_) rfl (by kernel_rfl) (fun _ _ _ h => h) (by kernel_rfl) hCells (Or.inl ⟨by rfl, ?_⟩) ?_
      rotate_left 1
      · intro w hSw; (try dsimp only at hSw); go_simp; (try with_reducible rfl)
      try simp only [Act.put, List.setIfInBounds_toArray, List.set_cons_zero, List.set_cons_succ]
      refine takeJ hfnR (by kernel_rfl) 2 (v := ?_) rfl (by kernel_rfl) (fun _ _ _ h => h) (by kernel_rfl) hCells (Or.inl ⟨by rfl, ?_⟩) ?_
      rotate_left 1
      · intro w hSw; (try dsimp only at hSw); go_simp; (try with_reducible rfl)
      try simp only [Act.put, List.setIfInBounds_toArray, List.set_cons_zero, List.set_cons_succ]
      refine takeJ hfnR (by kernel_rfl) 3 (v := ?_) rfl (by kernel_rfl) (fun _ _ _ h => h) (by kernel_rfl) hCells (Or.inl ⟨by rfl, ?_⟩) ?_
      rotate_left 1
      · intro w hSw; (try dsimp only at hSw); go_simp; (try with_reducible rfl)
      try simp only [Act.put, List.setIfInBounds_toArray, List.set_cons_zero, List.set_cons_succ]
      refine takeJ hfnR (by kernel_rfl) 4 (v := ?_) rfl (by kernel_rfl) (fun _ _ _ h => h) (by kernel_rfl) hCells (Or.inl ⟨by rfl, ?_⟩) ?_
      rotate_left 1
      · intro w hSw; (try dsimp only at hSw); go_simp; (try with_reducible rfl)
      try simp only [Act.put, List.setIfInBounds_toArray, List.set_cons_zero, List.set_cons_succ]
      refine takeJ hfnR (by kernel_rfl) 5 (v := ?_) rfl (by kernel_rfl) (fun _ _ _ h => h) (by kernel_rfl) hCells (Or.inl ⟨by rfl, ?_⟩) ?_
      rotate_left 1
      · intro w hSw; (try dsimp only at hSw); go_simp; (try with_reducible rfl)
      try simp only [Act.put, List.setIfInBounds_toArray, List.set_cons_zero, List.set_cons_succ]
      refine takeJ hfnR (by kernel_rfl) 6 (v := ?_) rfl (by kernel_rfl) (fun _ _ _ h => h) (by kernel_rfl) hCells (Or.inl ⟨by rfl, ?_⟩) ?_
      rotate_left 1
      · intro w hSw; (try dsimp only at hSw); go_simp; (try with_reducible rfl)
      try simp only [Act.put, List.setIfInBounds_toArray, List.set_cons_zero, List.set_cons_succ]
      refine takeJ hfnR (by kernel_rfl) 7 (v := ?_) rfl (by kernel_rfl) (fun _ _ _ h => h) (by kernel_rfl) hCells (Or.inl ⟨by rfl, ?_⟩) ?_
      rotate_left 1
      · intro w hSw; (try dsimp only at hSw); go_simp; (try with_reducible rfl)
      try simp only [Act.put, List.setIfInBounds_toArray, List.set_cons_zero, List.set_cons_succ]
      refine takeJ hfnR (by kernel_rfl) 8 (v := ?_) rfl (by kernel_rfl) (fun _ _ _ h => h) (by kernel_rfl) hCells (Or.inl ⟨by rfl, ?_⟩) ?_
      rotate_left 1
      · intro w hSw; (try dsimp only at hSw); go_simp; (try with_reducible rfl)
      try simp only [Act.put, List.setIfInBounds_toArray, List.set_cons_zero, List.set_cons_succ]
      refine takeJ hfnR (by kernel_rfl) 9 (v := ?_) rfl (by kernel_rfl) (fun _ _ _ h => h) (by kernel_rfl) hCells (Or.inl ⟨by rfl, ?_⟩) ?_
      rotate_left 1
      · intro w hSw; (try dsimp only at hSw); go_simp; (try with_reducible rfl)
      try simp only [Act.put, List.setIfInBounds_toArray, List.set_cons_zero, List.set_cons_succ]
      refine takeJ hfnR (by kernel_rfl) 10 (v := ?_) rfl (by kernel_rfl) (fun _ _ _ h => h) (by kernel_rfl) hCells (Or.inl ⟨by rfl, ?_⟩) ?_
      rotate_left 1
      · intro w hSw; (try dsimp only at hSw); go_simp; (try with_reducible rfl)
      try simp only [Act.put, List.setIfInBounds_toArray, List.set_cons_zero, List.set_cons_succ]
      refine takeJ hfnR (by kernel_rfl) 11 (v := ?_) rfl (by kernel_rfl) (fun _ _ _ h => h) (by kernel_rfl) hCells (Or.inl ⟨by rfl, ?_⟩) ?_
      rotate_left 1
      · intro w hSw; (try dsimp only at hSw); go_simp; (try with_reducible rfl)
      try simp only [Act.put, List.setIfInBounds_toArray, List.set_cons_zero, List.set_cons_succ]
      refine takeJ hfnR (by kernel_rfl) 12 (v := ?_) rfl (by kernel_rfl) (fun _ _ _ h => h) (by kernel_rfl) hCells (Or.inl ⟨by rfl, ?_⟩) ?_
      rotate_left 1
      · intro w hSw; (try dsimp only at hSw); go_simp; (try with_reducible rfl)
      try simp only [Act.put, List.setIfInBounds_toArray, List.set_cons_zero, List.set_cons_succ]
      refine takeJ hfnR (by kernel_rfl) 13 (v := ?_) rfl (by kernel_rfl) (fun _ _ _ h => h) (by kernel_rfl) hCells (Or.inl ⟨by rfl, ?_⟩) ?_
      rotate_left 1
      · intro w hSw; (try dsimp only at hSw); go_simp; (try with_reducible rfl)
      try simp only [Act.put, List.setIfInBounds_toArray, List.set_cons_zero, List.set_cons_succ]
      refine wpAnyJ_done (by kernel_rfl) (NoPan.normal ?_) _
      go_upto_region 17 with fail
      refine wp_region_J (fun _ => True) [] hm ?hCells0 (fun hCells => ?_)
      case hCells0 => exact trivial
      refine takeJ hfnR (by kernel_rfl) 0 (v := ?_) rfl (by kernel_rfl) (fun _ _ _ h => h) (by kernel_rfl) hCells (Or.inl ⟨by rfl, ?_⟩) ?_
      rotate_left 1
      · intro w hSw; (try dsimp only at hSw); go_simp; (try with_reducible rfl)
      try simp only [Act.put, List.setIfInBounds_toArray, List.set_cons_zero, List.set_cons_succ]
      refine takeJ hfnR (by kernel_rfl) 1 (v := ?_) rfl (by kernel_rfl) (fun _ _ _ h => h) (by kernel_rfl) hCells (Or.inl ⟨by rfl, ?_⟩) ?_
      rotate_left 1
      · intro w hSw; (try dsimp only at hSw); go_simp; (try with_reducible rfl)
      try simp only [Act.put, List.setIfInBounds_toArray, List.set_cons_zero, List.set_cons_succ]
      refine takeJ hfnR (by kernel_rfl) 2 (v := ?_) rfl (by kernel_rfl) (fun _ _ _ h => h) (by kernel_rfl) hCells (Or.inl ⟨by rfl, ?_⟩) ?_
      rotate_left 1
      · intro w hSw; (try dsimp only at hSw); go_simp; (try with_reducible rfl)
      try simp only [Act.put, List.setIfInBounds_toArray, List.set_cons_zero, List.set_cons_succ]
      refine takeJ hfnR (by kernel_rfl) 3 (v := ?_) rfl (by kernel_rfl) (fun _ _ _ h => h) (by kernel_rfl) hCells (Or.inl ⟨by rfl, ?_⟩) ?_
      rotate_left 1
      · intro w hSw; (try dsimp only at hSw); go_simp; (try with_reducible rfl)
      try simp only [Act.put, List.setIfInBounds_toArray, List.set_cons_zero, List.set_cons_succ]
      refine takeJ hfnR (by kernel_rfl) 4 (v := ?_) rfl (by kernel_rfl) (fun _ _ _ h => h) (by kernel_rfl) hCells (Or.inl ⟨by rfl, ?_⟩) ?_
      rotate_left 1
      · intro w hSw; (try dsimp only at hSw); go_simp; (try with_reducible rfl)
      try simp only [Act.put, List.setIfInBounds_toArray, List.set_cons_zero, List.set_cons_succ]
      refine takeJ hfnR (by kernel_rfl) 5 (v := ?_) rfl (by kernel_rfl) (fun _ _ _ h => h) (by kernel_rfl) hCells (Or.inl ⟨by rfl, ?_⟩) ?_
      rotate_left 1
      · intro w hSw; (try dsimp only at hSw); go_simp; (try with_reducible rfl)
      try simp only [Act.put, List.setIfInBounds_toArray, List.set_cons_zero, List.set_cons_succ]
      refine takeJ hfnR (by kernel_rfl) 6 (v := ?_) rfl (by kernel_rfl) (fun _ _ _ h => h) (by kernel_rfl) hCells (Or.inl ⟨by rfl, ?_⟩) ?_
      rotate_left 1
      · intro w hSw; (try dsimp only at hSw); go_simp; (try with_reducible rfl)
      try simp only [Act.put, List.setIfInBounds_toArray, List.set_cons_zero, List.set_cons_succ]
      refine takeJ hfnR (by kernel_rfl) 7 (v := ?_) rfl (by kernel_rfl) (fun _ _ _ h => h) (by kernel_rfl) hCells (Or.inl ⟨by rfl, ?_⟩) ?_
      rotate_left 1
      · intro w hSw; (try dsimp only at hSw); go_simp; (try with_reducible rfl)
      try simp only [Act.put, List.setIfInBounds_toArray, List.set_cons_zero, List.set_cons_succ]
      refine wpAnyJ_done (by kernel_rfl) (NoPan.normal ?_) _
      go_upto_block 2 with fail
      clear hw1 hw2 hw3 hw4 e7 e8 e9 e5 e6 es1 es2 es3 es4 hm hfnR
      go_cut [16, 17] from 90 to 153 (fun gv rv wx => InnerP q wr.drew.drew gv rv wx)
      case first =>
        go_wp2_with fail
        go_loop [16, 17] (fun gv rv => InnerI f head q gv rv) (fun gv _ => (intOf gv).toNat)
        case atStart => exact ⟨g0, r0, rfl, rfl, HG.out, HQ0.out, by omega, hg0B⟩
        case round =>
          obtain ⟨g, rest, rfl, rfl, hgr, hqg, hrB, hgB⟩ := hrel
          have HGR := Lib.hid hgr
          have hqB : q < 1000000000 := FD.out.1
          have hsB : s < 1000000000 := D.sB
          obtain ⟨g1, hg1⟩ : ∃ g1, g1 = g - 1 := ⟨_, rfl⟩
          obtain ⟨r1, hr1⟩ : ∃ r1, r1 = rest + f := ⟨_, rfl⟩
          have es6 : (rest : Int) + (f : Int) = (r1 : Int) := by omega
          have hw6 : IntKind.u64.wrap (r1 : Int) = (r1 : Int) := u64_id r1 (by omega)
          have HR1 := Lib.hid hr1
          clear hgr hr1
          by_cases hgA : 1000000000 ≤ g
          · have hg1g : g = g1 + 1 := by omega
            have HGG := Lib.hid (dec_step HGR.out hg1g HR1.out)
            have es5 : (g : Int) - 1 = (g1 : Int) := by omega
            have hw5 : IntKind.u64.wrap (g1 : Int) = (g1 : Int) := u64_id g1 (by omega)
            have hqg1 : q ≤ g1 := by omega
            have hg1B : g1 < g := by omega
            have hgI : (1000000000 : Int) ≤ (g : Int) := by omega
            clear hg1 hg1g hgA
            by_cases hrr : 1000000000 ≤ r1
            · have hrI : (1000000000 : Int) ≤ (r1 : Int) := by omega
              have HRR := Lib.hid hrr
              clear hrr
              go_wp2_with fail
              go_meet
              case rel =>
                have hrr := HRR.out
                have hgb := FD.out.2.2.2.2.1 g1 r1 HGG.out hrr
                exact ⟨g1, r1, rfl, rfl, hqg1, FD.out.2.2.2.2.2 g1 r1 HGG.out hgb (.inr hrr), hgb, rfl⟩
            · have hrI : ¬ (1000000000 : Int) ≤ (r1 : Int) := by omega
              clear hrr
              go_wp2_with fail
              go_round
              case rel => exact ⟨g1, r1, rfl, rfl, HGG.out, hqg1, by omega, by omega⟩
              case measure => simp [intOf]; omega
          · obtain ⟨pv, hpv0⟩ : ∃ pv, pv = g * s := ⟨_, rfl⟩
            obtain ⟨qv, hqv0⟩ : ∃ qv, qv = rest * 1000000000 := ⟨_, rfl⟩
            obtain ⟨sv, hsv0⟩ : ∃ sv, sv = qv + p2 := ⟨_, rfl⟩
            have hpvB : pv ≤ 1000000000 * 1000000000 := by rw [hpv0]; exact Nat.mul_le_mul (by omega) (by omega)
            have HGT := Lib.hid (greater_any g s rest p2 pv qv sv hpv0.symm (by omega) (by omega) (by omega) (by omega) hqv0.symm (by omega) (by omega) hsv0.symm)
            have HPV := Lib.hid (And.intro hpv0 (And.intro hqv0 hsv0))
            have hgI : ¬ (1000000000 : Int) ≤ (g : Int) := by omega
            have HGA := Lib.hid hgA
            clear hpv0 hqv0 hsv0 hpvB hgA
            by_cases hgt : sv < pv
            · have hbt : decide (sv < pv) = true := by simp [hgt]
              have hqg' : q < g := FD.out.2.2.2.1 g rest HGR.out hqg (by rw [B9_eq, ← HPV.out.2.1, ← HPV.out.2.2, ← HPV.out.1]; exact hgt)
              have hg1g : g = g1 + 1 := by omega
              have HGG := Lib.hid (dec_step HGR.out hg1g HR1.out)
              have es5 : (g : Int) - 1 = (g1 : Int) := by omega
              have hw5 : IntKind.u64.wrap (g1 : Int) = (g1 : Int) := u64_id g1 (by omega)
              have hqg1 : q ≤ g1 := by omega
              have hg1B : g1 < g := by omega
              clear hg1 hg1g
              by_cases hrr : 1000000000 ≤ r1
              · have hrI : (1000000000 : Int) ≤ (r1 : Int) := by omega
                have HRR := Lib.hid hrr
                clear hrr
                go_wp2_with (go_at_call 140; refine (HGT.out _).mono ?_; rintro e w' ⟨rfl, rfl⟩)
                go_meet
                case rel =>
                  have hrr := HRR.out
                  have hgb := FD.out.2.2.2.2.1 g1 r1 HGG.out hrr
                  exact ⟨g1, r1, rfl, rfl, hqg1, FD.out.2.2.2.2.2 g1 r1 HGG.out hgb (.inr hrr), hgb, rfl⟩
              · have hrI : ¬ (1000000000 : Int) ≤ (r1 : Int) := by omega
                clear hrr
                go_upto_region 19 with (go_at_call 140; refine (HGT.out _).mono ?_; rintro e w' ⟨rfl, rfl⟩)
                clear hgt hbt hgI hgB hrB HGT
                go_upto_region 20 with fail
                go_upto_region 21 with fail
                have HB1 := Lib.hid (And.intro hqg1 (And.intro hg1B (show r1 < 1000000000 by omega)))
                have hbr : decide ((1000000000 : Int) ≤ (r1 : Int)) = false := by simp; omega
                have HGB2 := Lib.hid (show g1 ≤ 2000000000 by have := HGA.out; omega)
                clear es5 es6 hw5 hw6 hrI hg1B hqg' hqg1 hqB hsB hr0f hg0B hqg
                go_wp2_with fail
                go_round
                case rel => exact ⟨g1, r1, rfl, rfl, HGG.out, HB1.out.1, HB1.out.2.2, HGB2.out⟩
                case measure => have := HB1.out.2.1; simp [intOf]; omega
            · have hbt : decide (sv < pv) = false := by simp [hgt]
              have HNG := Lib.hid (show g * s ≤ rest * B9 + p2 by rw [B9_eq, ← HPV.out.2.1, ← HPV.out.2.2, ← HPV.out.1]; omega)
              go_wp2_with (go_at_call 140; refine (HGT.out _).mono ?_; rintro e w' ⟨rfl, rfl⟩)
              go_meet
              case rel =>
                have hgb : g < B9 := by have := HGA.out; have := HB.out; omega
                exact ⟨g, rest, rfl, rfl, hqg, FD.out.2.2.2.2.2 g rest HGR.out hgb (.inl HNG.out), hgb, rfl⟩
      case rest =>
        obtain ⟨g, rest, rfl, rfl, hqg, hgq, hgB, rfl⟩ := hcut
        have on2 : Owns wr.drew.drew w.heap.size 98 .u64 (.slice (some ⟨gn, 0, none⟩) N cn) ns := World.ownsRow.drew (World.ownsRow.drew on)
        have ov2 : Owns wr.drew.drew w.heap.size 98 .u64 (.slice (some ⟨gv, 0, none⟩) l2 cv) (limbs B9 (b * d)) := World.ownsRow.drew (World.ownsRow.drew ov)
        have oq2 : Owns wr.drew.drew w.heap.size 98 .u64 (.slice (some ⟨gq, 0, none⟩) K K) qs := World.ownsRow.drew (World.ownsRow.drew oq)
        have hbl2 := hbl.drew.drew
        have hbg := on.base_le
        have hbgq := oq.base_le
        have hiN : i + (m + 3) ≤ ns.length := by have := HDS.out; omega
        have HDT := Lib.hid (fun zs cb hl hb hv => digit_take (zs := zs) (cb := cb) hI hV HPS.out.2.2.2.2 HQ.out FD.out.1 hqg hgq hl hb hv)
        have rv2 : Reads wr.drew.drew .u64 (some ⟨gv, 0, none⟩) (limbs B9 (b * d)) := by
          obtain ⟨A', c', e', hr', _⟩ := ov2.reads (by rw [HVL.out]; omega)
          cases e'; exact hr'
        have HTK := Lib.hid (take_any ns (limbs B9 (b * d)) (some ⟨gv, 0, none⟩) w.heap.size gn N cn pc cv i (m + 3) g wr.drew.drew on2 rv2 (by rintro b' off' e' _; cases e'; omega) hiN (by omega) hI.nb (bnd_limbs B9_two _) (by rw [HVL.out]; have := HH.out.1; omega) hgB)
        rw [HVL.out] at HTK
        have hpm3 : pm = m + 3 := HPL.out.2.2
        rw [← hpm3] at HTK
        have HPM := Lib.hid hpm3
        have HIN := Lib.hid hiN
        have HNB := Lib.hid hI.nb
        have HRV := Lib.hid rv2
        have HIK := Lib.hid HDS.out.2.1
        have hqB : q < 1000000000 := FD.out.1
        clear hpm3 hI hV rv2 on2 on ov oq hbl hfB hf1 hfne hheadlt hp0B hp1B hp2B hc0 hc1 hc2 hpeN hNc hpc hcni hipe hlpm hipm hmpm hplt hCells hg0B hr0f
        go_wp2_with fail
        refine HTK.out.mono ?_
        rintro e w5 ⟨zs, cb, rfl, hzl, hzb, hzv, ho5, hg5⟩
        have HZ := Lib.hid (And.intro hzl (And.intro hzb hzv))
        clear hzl hzv hzb
        have ov5 := ov2.grown hg5 (.inl (by simp [Value.ownBlock]; omega))
        have oq5 := oq2.grown hg5 (.inl (by simp [Value.ownBlock]; omega))
        have hbl5 := hbl2.grown hg5 hbl2.size (fun k e => by cases e; exact hbg)
        have hrv5 := HRV.out
        by_cases hcb : cb = 0
        · have hbt : decide (cb = 0) = true := by simp [hcb]
          have HN2 := Lib.hid ((HDT.out zs cb (by rw [HZ.out.1, HPM.out]) HZ.out.2.1 (by have := HZ.out.2.2; rw [HPM.out] at this; rw [D.vl] at this; exact this)).1 hcb)
          clear hcb
          have hc5 := oq5.cell i (by have := HN2.out.ql; rw [List.length_set] at this; have := HIK.out; omega)
          have hf5 := oq5.free i
          have hiK : (i : Int) < (K : Int) := by have := HIK.out; omega
          go_wp2_with fail
          refine ⟨?_, by simp [intOf]⟩
          · refine ⟨i, (i : Int) - 1, _, qs.set i g, rfl, rfl, HN2.out, ?_, ov5.other _ (by simp [Value.ownBlock]; omega), oq5.store i g (by have := HN2.out.ql; rw [List.length_set] at this; have := HIK.out; omega), hbl5.setCell (by simpa using hbgq) _⟩
            rw [HPM.out] at ho5
            exact ho5.other _ (by simp [Value.ownBlock]; omega)
        · have hbt : decide (cb = 0) = false := by simp [hcb]
          have HN2 := Lib.hid ((HDT.out zs cb (by rw [HZ.out.1, HPM.out]) HZ.out.2.1 (by have := HZ.out.2.2; rw [HPM.out] at this; rw [D.vl] at this; exact this)).2 hcb)
          clear hcb
          have es7 : (g : Int) - 1 = (q : Int) := by have := HN2.out.1; omega
          have hw7 : IntKind.u64.wrap (q : Int) = (q : Int) := u64_id q (by omega)
          have hiK : (i : Int) < (K : Int) := by have := HIK.out; omega
          have HQL := Lib.hid (show qs.length = K from by have := oq5.len rfl; omega)
          have hrsl : (ns.take i ++ zs ++ ns.drop (i + pm)).length = ns.length := mid_len _ _ _ _ HZ.out.1 (by rw [HPM.out]; exact HIN.out)
          have HGV := Lib.hid (give_any (ns.take i ++ zs ++ ns.drop (i + pm)) (limbs B9 (b * d)) (some ⟨gv, 0, none⟩) w.heap.size gn N cn pc cv i pm w5 ho5 (by
            obtain ⟨A', c', e', hr', _⟩ := ov5.reads (by rw [HVL.out]; omega)
            cases e'; exact hr') (by rintro b' off' e' _; cases e'; omega) (by rw [hrsl, HPM.out]; exact HIN.out) (by rw [HPM.out]; omega) (((HNB.out.take i).append HZ.out.2.1).append (HNB.out.drop _)) (bnd_limbs B9_two _) (by rw [HVL.out, HPM.out]; have := HH.out.1; omega))
          rw [HVL.out] at HGV
          clear hrsl hrv5
          go_wp2_with fail
          refine HGV.out.mono ?_
          rintro e w6 ⟨ws, cb2, rfl, hwl, hwb, hwv, ho6, hg6⟩
          rw [mid_part _ _ _ _ (by have := HIN.out; omega) HZ.out.1] at hwv
          rw [mid_again _ _ _ _ _ (by have := HIN.out; omega) HZ.out.1] at ho6
          have HN3 := Lib.hid (HN2.out.2 ws cb2 (by rw [hwl, HPM.out]) hwb (by rw [HPM.out, D.vl] at hwv; exact hwv))
          clear hwl hwb hwv
          have ov6 := ov5.grown hg6 (.inl (by simp [Value.ownBlock]; omega))
          have oq6 := oq5.grown hg6 (.inl (by simp [Value.ownBlock]; omega))
          have hbl6 := hbl5.grown hg6 hbl5.size (fun k e => by cases e; exact hbg)
          have hc6 := oq6.cell i (by have := HQL.out; have := HIK.out; omega)
          have hf6 := oq6.free i
          go_wp2_with fail
          refine ⟨?_, by simp [intOf]⟩
          · refine ⟨i, (i : Int) - 1, _, qs.set i q, rfl, rfl, HN3.out, ?_, ov6.other _ (by simp [Value.ownBlock]; omega), oq6.store i q (by have := HQL.out; have := HIK.out; omega), hbl6.setCell (by simpa using hbgq) _⟩
            rw [HPM.out] at ho6
            exact ho6.other _ (by simp [Value.ownBlock]; omega)
end Go.Proofs.Cr
/- Division of numbers in limbs: the quotient and the rest. -/
namespace Go.Proofs.Cr
open Go.RowKit Go.Shelf
theorem over_any (a b : Nat) (A1 A2 : Option Addr) (l1 l2 c1 c2 : Nat) (w : World) (h1 : Num w A1 l1 c1 a) (h2 : Num w A2 l2 c2 b) (hs1 : l1 ≤ 40000) (hs2 : l2 ≤ 40000) (hb : 0 < b) :
    Calls Tryz.prog 108 #[.slice A1 l1 c1, .slice A2 l2 c2] w (OverPost a b w) := by
  by_cases hlt : a < b
  · exact over_less a b A1 A2 l1 l2 c1 c2 w h1 h2 (by omega) (by omega) hlt
  · have hp : 0 < l2 := by rw [h2.1]; exact (limbs_length_pos B9_two).2 hb
    by_cases h : l2 = 1
    · subst h; exact over_one a b A1 A2 l1 c1 c2 w h1 h2 (by omega) (by omega)
    · exact over_long a b (l2 - 2) A1 A2 l1 l2 c1 c2 w h1 h2 (by omega) hs1 (by omega)
end Go.Proofs.Cr
/- Plain: valid numbers and fractions as texts; the operations on fractions as the document tells them. -/
namespace Go.Proofs.Cr
open Go.Lib (decDigits)

instance (l : List UInt8) : Decidable (Digs l) := inferInstanceAs (Decidable (∀ c ∈ l, isDig c))
instance (l : List UInt8) : Decidable (okDig l) := inferInstanceAs (Decidable (_ ∧ _))
/-- The digits of a number, as a string. -/
def numB (n : Nat) : ByteArray := ⟨(decDigits n).toArray⟩
/-- The number of a string of digits. -/
def nv (s : ByteArray) : Nat := dv s.data.toList
/-- Is a natural number valid? -/
def rightB (s : ByteArray) : Bool := decide (okDig s.data.toList) && decide (s.size ≤ 600)
theorem size_list (s : ByteArray) : s.size = s.data.toList.length := by rw [Array.length_toList]; rfl
theorem mk_list (s : ByteArray) : (⟨s.data.toList.toArray⟩ : ByteArray) = s := rfl
theorem list_inj {s t : ByteArray} (h : s.data.toList = t.data.toList) : s = t := by
  rw [← mk_list s, ← mk_list t, h]
theorem numB_list (n : Nat) : (numB n).data.toList = decDigits n := rfl
theorem nv_numB (n : Nat) : nv (numB n) = n := dv_decDigits n
theorem numB_size (n : Nat) : (numB n).size = (decDigits n).length := by rw [size_list, numB_list]
theorem rightB_ok {s : ByteArray} (h : rightB s = true) : okDig s.data.toList ∧ s.size ≤ 600 := by
  simp only [rightB, Bool.and_eq_true, decide_eq_true_eq] at h; exact h
theorem rightB_numB {n : Nat} : rightB (numB n) = decide (n < 10 ^ 600) := by
  rw [Bool.eq_iff_iff]
  simp only [rightB, Bool.and_eq_true, decide_eq_true_eq, numB_size, numB_list, decDigits_len_le (by decide : 0 < 600)]
  exact ⟨fun h => h.2, fun h => ⟨decide_eq_true (okDig_decDigits n), h⟩⟩
theorem numB_nv {s : ByteArray} (h : rightB s = true) : numB (nv s) = s := by
  apply list_inj
  rw [numB_list]
  exact decDigits_dv (rightB_ok h).1
theorem nv_inj {s t : ByteArray} (h : rightB s = true) (h' : rightB t = true) (e : nv s = nv t) : s = t := by rw [← numB_nv h, ← numB_nv h', e]
theorem nv_lt {s : ByteArray} (h : rightB s = true) : nv s < 10 ^ 600 := by
  have := rightB_numB (n := nv s)
  rw [numB_nv h, h] at this
  exact of_decide_eq_true this.symm
theorem nv_lt_size {s : ByteArray} (h : rightB s = true) : nv s < 10 ^ s.size := by
  have := dv_lt (rightB_ok h).1.2.1
  rwa [← size_list] at this
theorem size_nv_le {s : ByteArray} (h : rightB s = true) {k : Nat} (hk : 0 < k) : s.size ≤ k ↔ nv s < 10 ^ k := by
  have h1 : s.size = (decDigits (nv s)).length := by rw [← numB_size, numB_nv h]
  rw [h1]; exact decDigits_len_le hk
theorem nv_zero {s : ByteArray} (h : rightB s = true) : nv s = 0 ↔ s.data.toList = [48] := okDig_zero (rightB_ok h).1
/-- All digits, or not, by what is left between the ends. -/
theorem trim_digits (l : List UInt8) : Lib.trimS l [48, 49, 50, 51, 52, 53, 54, 55, 56, 57] = [] ↔ Digs l := by
  have hc : ∀ c : UInt8, ([48, 49, 50, 51, 52, 53, 54, 55, 56, 57] : List UInt8).contains c = true ↔ isDig c := by
    intro c
    rw [List.contains_iff_mem]
    unfold isDig
    simp only [List.mem_cons, List.not_mem_nil, or_false]
    constructor
    · rintro (rfl | rfl | rfl | rfl | rfl | rfl | rfl | rfl | rfl | rfl) <;> decide
    · rintro ⟨h1, h2⟩
      have : c.toNat = 48 ∨ c.toNat = 49 ∨ c.toNat = 50 ∨ c.toNat = 51 ∨ c.toNat = 52 ∨ c.toNat = 53 ∨ c.toNat = 54 ∨ c.toNat = 55 ∨ c.toNat = 56 ∨ c.toNat = 57 := by omega
      simp only [← UInt8.toNat_inj]
      exact this
  have hd : ∀ m : List UInt8, m.dropWhile (([48, 49, 50, 51, 52, 53, 54, 55, 56, 57] : List UInt8).contains ·) = [] ↔ Digs m := by
    intro m
    induction m with
    | nil => simp [Digs]
    | cons a m ih =>
      rw [List.dropWhile_cons]
      by_cases h : ([48, 49, 50, 51, 52, 53, 54, 55, 56, 57] : List UInt8).contains a = true
      · rw [if_pos h, ih]
        exact ⟨fun g c hc' => by rcases List.mem_cons.1 hc' with rfl | h'; exact (hc _).1 h; exact g c h', fun g c hc' => g c (List.mem_cons_of_mem _ hc')⟩
      · rw [if_neg h]
        refine ⟨fun g => (by cases g), fun g => absurd ((hc a).2 (g a (List.mem_cons_self ..))) h⟩
  unfold Lib.trimS Lib.trimLeftS Lib.trimRightS
  rw [hd]
  constructor
  · intro g
    by_cases h0 : l.reverse.dropWhile (([48, 49, 50, 51, 52, 53, 54, 55, 56, 57] : List UInt8).contains ·) = []
    · have := (hd _).1 h0
      intro c hc'; exact this c (List.mem_reverse.2 hc')
    · exfalso
      have hm := List.head_mem h0
      have h1 := List.head_dropWhile_not (([48, 49, 50, 51, 52, 53, 54, 55, 56, 57] : List UInt8).contains ·) h0
      have h2 := g _ (List.mem_reverse.2 hm)
      rw [(hc _).2 h2] at h1
      cases h1
  · intro g
    have : l.reverse.dropWhile (([48, 49, 50, 51, 52, 53, 54, 55, 56, 57] : List UInt8).contains ·) = [] := (hd _).2 (fun c hc' => g c (List.mem_reverse.1 hc'))
    rw [this]
    intro c hc'; simp at hc'

theorem right_false {s : ByteArray} (h : rightB s = true → False) : rightB s = false := by
  cases hh : rightB s
  · rfl
  · exact (h hh).elim
theorem right_empty {s : ByteArray} (h : s.size = 0) : rightB s = false := right_false fun hr => by
  have := (rightB_ok hr).1.1
  rw [size_list] at h
  exact this (List.eq_nil_of_length_eq_zero h)
theorem right_long {s : ByteArray} (h : 600 < s.size) : rightB s = false := right_false fun hr => by
  have := (rightB_ok hr).2; omega
theorem head_at {s : ByteArray} (h : 0 < s.size) : s.data.toList.head? = some s[0] := by
  rw [List.head?_eq_getElem?, List.getElem?_eq_getElem (by rw [← size_list]; exact h)]
  rfl
theorem right_zeros {s : ByteArray} (h : 1 < s.size) (h0 : s[0] = 48) : rightB s = false := right_false fun hr => by
  refine (rightB_ok hr).1.2.2 (by rw [← size_list]; exact h) ?_
  rw [head_at (by omega), h0]
theorem right_else {s : ByteArray} (h : 0 < s.size) (hl : s.size ≤ 600) (h0 : s.size = 1 ∨ s[0] ≠ 48) : rightB s = decide (Digs s.data.toList) := by
  rw [Bool.eq_iff_iff]
  simp only [rightB, Bool.and_eq_true, decide_eq_true_eq]
  constructor
  · exact fun hr => hr.1.2.1
  · intro hd
    refine ⟨⟨fun e => ?_, hd, fun h1 => ?_⟩, hl⟩
    · rw [size_list, e] at h; simp at h
    · rw [← size_list] at h1
      rw [head_at h]
      rintro e
      rcases h0 with h0 | h0
      · omega
      · exact h0 (by simpa using e)
end Go.Proofs.Cr
namespace Go.Proofs.Cr
open Go.Lib (decDigits)
/-- A fraction in lowest terms, if it fits. -/
def partS (n d : Nat) : ByteArray × ByteArray × Int :=
  if 10 ^ 600 ≤ n / Nat.gcd n d ∨ 10 ^ 600 ≤ d / Nat.gcd n d then (⟨#[]⟩, ⟨#[]⟩, 4) else (numB (n / Nat.gcd n d), numB (d / Nat.gcd n d), 0)
theorem big_size {n : Nat} : 600 < (numB n).size ↔ 10 ^ 600 ≤ n := by
  rw [numB_size]
  have := decDigits_len_le (n := n) (k := 600) (by decide)
  generalize (10 : Nat) ^ 600 = B at this ⊢
  omega
end Go.Proofs.Cr
namespace Go.Proofs.Cr
/-- Is a fraction valid? -/
def chk (a b : ByteArray) : Bool := rightB a && (rightB b && (decide (nv b ≠ 0) && decide (Nat.gcd (nv a) (nv b) = 1)))
theorem chk_num {a b : ByteArray} (h : rightB a = false) : chk a b = false := by simp [chk, h]
theorem chk_den {a b : ByteArray} (h : rightB b = false) : chk a b = false := by simp [chk, h]
theorem chk_zero {a b : ByteArray} (h : nv b = 0) : chk a b = false := by simp [chk, h]
theorem chk_gcd {a b : ByteArray} (ha : rightB a = true) (hb : rightB b = true) (h : nv b ≠ 0) : chk a b = decide (Nat.gcd (nv a) (nv b) = 1) := by simp [chk, ha, hb, h]
theorem chk_ok {a b : ByteArray} (h : chk a b = true) : rightB a = true ∧ rightB b = true ∧ nv b ≠ 0 ∧ Nat.gcd (nv a) (nv b) = 1 := by
  simp only [chk, Bool.and_eq_true, decide_eq_true_eq] at h
  exact h
theorem toList_data (s : ByteArray) : s.toList = s.data.toList := by simp [ByteArray.toList_eq]
theorem zero_eq {s : ByteArray} (h : rightB s = true) : (s.toList == [48]) = decide (nv s = 0) := by
  rw [toList_data, Bool.eq_iff_iff, beq_iff_eq, decide_eq_true_eq, nv_zero h]
end Go.Proofs.Cr
namespace Go.Proofs.Cr
open Go.RowKit Go.Shelf

/-- 'strings.Trim(s, digits)', held against "". -/
theorem trim_call (s : ByteArray) (w : World) (hs : s.size ≤ 9223372036854775807) :
    Calls Tryz.prog 106 #[.string s, .string ⟨#[48, 49, 50, 51, 52, 53, 54, 55, 56, 57]⟩] w fun e w' => ∃ r : ByteArray, e = .returned (.string r) ∧ (r.toList = [] ↔ Digs s.data.toList) ∧ Below w.heap.size w w' := by
  refine (Any.strings_Trim_laid Tryz.lays160 (by kernel_rfl) s ⟨#[48, 49, 50, 51, 52, 53, 54, 55, 56, 57]⟩ w hs (by decide) (ascii_of_all (by decide))).mono ?_
  rintro e w' ⟨rfl, hb⟩
  refine ⟨_, rfl, ?_, hb⟩
  rw [← trim_digits]
  rw [show (ByteArray.mk (Lib.trimS s.data.toList (ByteArray.mk #[48, 49, 50, 51, 52, 53, 54, 55, 56, 57]).data.toList).toArray).toList = Lib.trimS s.data.toList [48, 49, 50, 51, 52, 53, 54, 55, 56, 57] from ?_]
  simp [ByteArray.toList_eq]
set_option maxRecDepth 100000 in
set_option maxHeartbeats 1000000 in
/-- Is a natural number valid? -/
theorem right_any (s : ByteArray) (w : World) : Calls Tryz.prog 59 #[.string s] w fun e w' => e = .returned (.bool (rightB s)) ∧ Below w.heap.size w w' := by
  by_cases h0 : s.size = 0
  · have e0 : ((s.size : Int) == 0) = true := by simp [h0]
    rw [right_empty h0]
    clear h0
    go_enter Tryz.func59, Tryz.ntmps59
    go_wp2
    go_ret
    exact ⟨rfl, Below.refl _ _⟩
  · have e0 : ((s.size : Int) == 0) = false := beq_eq_false_iff_ne.2 (by omega)
    by_cases h1 : 600 < s.size
    · rw [right_long h1]
      have h1' : (600 : Int) < s.size := by omega
      clear h0 h1
      go_enter Tryz.func59, Tryz.ntmps59
      go_wp2
      go_ret
      exact ⟨rfl, Below.refl _ _⟩
    · have h1' : ¬ (600 : Int) < s.size := by omega
      have T := Lib.hid (trim_call s w (by omega))
      by_cases h2 : 1 < s.size
      · have h2' : (1 : Int) < s.size := by omega
        by_cases h3 : s[0] = 48
        · rw [right_zeros h2 h3]
          have h3' : ((s[0].toNat : Int) == 48) = true := by rw [h3]; rfl
          go_enter Tryz.func59, Tryz.ntmps59
          go_wp2_with fail
          go_ret
          exact ⟨rfl, Below.refl _ _⟩
        · rw [right_else (by omega) (by omega) (.inr h3)]
          have h3' : ((s[0].toNat : Int) == 48) = false := beq_eq_false_iff_ne.2 (fun e => h3 (UInt8.toNat_inj.1 (by have : (48 : UInt8).toNat = 48 := rfl; omega)))
          clear h3
          by_cases hd : Digs s.data.toList
          · rw [decide_eq_true hd]
            go_enter Tryz.func59, Tryz.ntmps59
            go_wp2_with (go_at_call 106; refine (T.out).mono ?_; rintro e w1 ⟨r, rfl, hr, hb⟩; replace hr := hr.2 hd)
            go_ret
            exact ⟨rfl, hb⟩
          · rw [decide_eq_false hd]
            go_enter Tryz.func59, Tryz.ntmps59
            go_wp2_with (go_at_call 106; refine (T.out).mono ?_; rintro e w1 ⟨r, rfl, hr, hb⟩; replace hr := fun h => hd (hr.1 h))
            go_ret

            exact ⟨by simp; exact hr, hb⟩
      · have h2' : ¬ (1 : Int) < s.size := by omega
        rw [right_else (by omega) (by omega) (.inl (by omega))]
        by_cases hd : Digs s.data.toList
        · rw [decide_eq_true hd]
          go_enter Tryz.func59, Tryz.ntmps59
          go_wp2_with (go_at_call 106; refine (T.out).mono ?_; rintro e w1 ⟨r, rfl, hr, hb⟩; replace hr := hr.2 hd)
          go_ret
          exact ⟨rfl, hb⟩
        · rw [decide_eq_false hd]
          go_enter Tryz.func59, Tryz.ntmps59
          go_wp2_with (go_at_call 106; refine (T.out).mono ?_; rintro e w1 ⟨r, rfl, hr, hb⟩; replace hr := fun h => hd (hr.1 h))
          go_ret
          exact ⟨by simp; exact hr, hb⟩
end Go.Proofs.Cr
namespace Go.Proofs.Cr
open Go.RowKit Go.Shelf

/-- Blocks of other kinds than rows of bytes, and other than b, stay. -/
def KeepT (b : Nat) (w w' : World) : Prop := ∀ (i : Nat) (o : Obj), i ≠ b → w.heap[i]? = some o → (∀ cs fr, o ≠ .cells cs 5 fr) → w'.heap[i]? = some o
theorem KeepT.refl (b : Nat) (w : World) : KeepT b w w := fun _ _ _ h _ => h
theorem KeepT.trans {b : Nat} {A B C : World} (h : KeepT b A B) (k : KeepT b B C) : KeepT b A C := fun i o hi ho hn => k i o hi (h i o hi ho hn) hn
theorem KeepT.setCell {b : Nat} (w : World) (j : Nat) (v : Value) : KeepT b w (w.setCell ⟨b, j, none⟩ v) := fun i o hi ho _ => by rw [Below.heap_setCell _ _ _ _ hi]; exact ho
theorem KeepT.grown {b : Nat} {w w' : World} {v : Value} {B n : Nat} {xs : List Value} (hg : w.grownBy w' v.ownBlock) (ho : w.ownsRow B 5 1 v n xs) : KeepT b w w' := fun i o _ hi hn => by
  rw [hg.block i (Array.getElem?_eq_some_iff.1 hi).1 (fun e => ?_)]
  · exact hi
  · rcases ho.2 with ⟨h1, _⟩ | ⟨g, cap, cur, h1, _, hh, _⟩
    · subst h1; simp [Value.ownBlock] at e
    · subst h1
      simp [Value.ownBlock] at e
      subst e
      rw [hh] at hi
      cases hi
      exact hn _ _ rfl
theorem sizeBuilder : (Tryz.prog.info? 169).map (·.size) = some 2 := by kernel_rfl
theorem liesBuilder : liesAt Tryz.prog Tryz.prog.depth 169 (2 / Tryz.prog.cellsOf 169) 0 169 1 = true := by kernel_rfl
theorem infoByte : (Tryz.prog.info? 5).map (fun i => (i.zero, i.size, i.bytes)) = some (some (.int .u8 0), 1, 1) := by kernel_rfl
set_option maxHeartbeats 1000000 in
set_option maxRecDepth 100000 in
theorem copy_used (b : Nat) (w : World) (h0 : w.cell? ⟨b, 0, none⟩ = some (.pointer (some ⟨b, 0, none⟩))) :
    Calls Tryz.prog 166 #[.pointer (some ⟨b, 0, none⟩)] w fun e w' => e = .returned (.tuple #[]) ∧ w' = w := by
  obtain ⟨j, hj, _⟩ := Option.map_eq_some_iff.1 sizeBuilder
  go_enter Tryz.func166, Tryz.ntmps166
  go_wp2
  rw [Lib.run_neq_ptr_same w _ Tryz.underlying166 hj]
  go_wp2
  go_end0
  exact ⟨rfl, rfl⟩
set_option maxHeartbeats 1000000 in
set_option maxRecDepth 100000 in
theorem copy_fresh (b : Nat) (w : World) (h0 : w.cell? ⟨b, 0, none⟩ = some (.pointer none)) (hsh : w.shape? b = some (169, 2)) (hfz : w.frozen? ⟨b, 0, none⟩ = false) :
    Calls Tryz.prog 166 #[.pointer (some ⟨b, 0, none⟩)] w fun e w' => e = .returned (.tuple #[]) ∧ w' = w.setCell ⟨b, 0, none⟩ (.pointer (some ⟨b, 0, none⟩)) := by
  obtain ⟨j, hj, hjs⟩ := Option.map_eq_some_iff.1 sizeBuilder
  go_enter Tryz.func166, Tryz.ntmps166
  go_wp2
  rw [Lib.run_to_unsafe w ⟨b, 0, none⟩ Tryz.underlying166 Tryz.underlying213 hj (by rw [hjs]; decide) hsh (Nat.zero_lt_succ 1)]
  simp only [Result.andThen]
  rw [Oper.upon_value]
  go_wp2
  rw [run_callFunc_extern Tryz.func182 (by kernel_rfl) (by kernel_rfl) (by kernel_rfl) (e := Extern.AbiNoEscape.same) (by kernel_rfl)]
  rw [Lib.run_noEscape]
  simp only [Result.andThen]
  rw [Oper.upon_value]
  go_wp2
  rw [Lib.run_from_unsafe w ⟨b, 0, none⟩ Tryz.underlying213 Tryz.underlying166 hj hsh liesBuilder]
  simp only [Result.andThen]
  rw [Oper.upon_value]
  go_wp2
  go_end0
  exact ⟨rfl, rfl⟩
theorem copy_any (B b : Nat) (bs : List Value) (w : World) (h : Lib.IsBuilder 169 5 B b bs w) :
    Calls Tryz.prog 166 #[.pointer (some ⟨b, 0, none⟩)] w fun e w' => e = .returned (.tuple #[]) ∧ (Lib.BuilderAt 169 5 B b (.pointer (some ⟨b, 0, none⟩)) bs w' ∧ Below B w w' ∧ KeepT b w w') := by
  rcases h with h | h
  · refine (copy_fresh b w h.cell0 h.shape h.frozen0).mono ?_
    rintro e w' ⟨rfl, rfl⟩
    exact ⟨rfl, h.used _, (Below.refl B w).setCell (p := ⟨b, 0, none⟩) h.1 _, KeepT.setCell _ _ _⟩
  · refine (copy_used b w h.cell0).mono ?_
    rintro e w' ⟨rfl, rfl⟩
    exact ⟨rfl, h, Below.refl B _, KeepT.refl _ _⟩
set_option maxHeartbeats 1000000 in
set_option maxRecDepth 100000 in
/-- (*strings.Builder).WriteString. -/
theorem writeString_any (B b : Nat) (bs : List Value) (s : ByteArray) (w : World) (h : Lib.IsBuilder 169 5 B b bs w) (hlen : bs.length + s.size ≤ 140737488355328) (hBw : B ≤ w.heap.size) :
    Calls Tryz.prog 143 #[.pointer (some ⟨b, 0, none⟩), .string s] w fun e w' => e = .returned (.tuple #[.int .i64 s.size, .nilIface]) ∧ (Lib.BuilderAt 169 5 B b (.pointer (some ⟨b, 0, none⟩)) (bs ++ Lib.strCells s) w' ∧ Below B w w' ∧ KeepT b w w') := by
  obtain ⟨i0, hi, hz0, hz1, hz2⟩ := info_parts infoByte
  go_enter Tryz.func143, Tryz.ntmps143
  go_wp2_with (go_at_call 166; refine (copy_any B b bs _ h).mono ?_)
  rintro e w1 ⟨rfl, h1, hb1, hk1⟩
  have HK1 := Lib.hid hk1; clear hk1
  obtain ⟨hB, v, hbk, hown, hne⟩ := h1
  have c0 : w1.cell? ⟨b, 0, none⟩ = some (.pointer (some ⟨b, 0, none⟩)) := by rw [Lib.cell_of_heap hbk]; rfl
  have c1 : w1.cell? ⟨b, 1, none⟩ = some v := by rw [Lib.cell_of_heap hbk]; rfl
  go_wp2_with (at_builtin; refine Lib.wpList_append_own_string _ rfl _ _ 167 9 rfl B 5 i0 Tryz.underlying167 Tryz.underlying9 hi hz0 hz1 hz2 _ _ _ rfl hown s rfl ?c3 ?c4 ?c5 ?_)
  case c3 => unfold maxLen; omega
  case c4 => omega
  case c5 => have := hb1.size; omega
  intro v' w2 hown' hgrow _
  have HK2 := Lib.hid (KeepT.grown (b := b) hgrow hown)
  have hlt : b < w1.heap.size := by
    rcases Nat.lt_or_ge b w1.heap.size with h' | h'
    · exact h'
    · simp [Array.getElem?_eq_none h'] at hbk
  have hb2 : w2.heap[b]? = some (.cells #[.pointer (some ⟨b, 0, none⟩), v] 169 (0, 0)) := by
    rw [hgrow.block b hlt (fun e => hne e.symm)]
    exact hbk
  have d0 : w2.cell? ⟨b, 0, none⟩ = some (.pointer (some ⟨b, 0, none⟩)) := by rw [Lib.cell_of_heap hb2]; rfl
  have d1 : w2.cell? ⟨b, 1, none⟩ = some v := by rw [Lib.cell_of_heap hb2]; rfl
  have f1 : w2.frozen? ⟨b, 1, none⟩ = false := Lib.frozen_of_heap hb2 1
  obtain ⟨ao, n', cap, rfl⟩ : ∃ ao n' cap, v' = .slice ao n' cap := by
    rcases hown'.2 with ⟨hv, _⟩ | ⟨g, cap, cur, hv, _⟩
    · exact ⟨_, _, _, hv⟩
    · exact ⟨_, _, _, hv⟩
  go_wp2
  go_ret2
  refine ⟨rfl, ?_, ?_, (HK1.out.trans HK2.out).trans (KeepT.setCell _ _ _)⟩
  · exact Lib.BuilderAt.put (T := 169) (e := 5) hB hb2 (bs' := bs ++ Lib.strCells s) (by simpa [Lib.strCells_length] using hown') (by decide)
  · exact (hb1.grown hgrow (by have := hb1.size; omega) (fun k hk => (hown.lt k hk).1)).setCell (p := ⟨b, 1, none⟩) hB _
end Go.Proofs.Cr
namespace Go.Proofs
open Go.Shelf
theorem Tryz.extra105 : Builder.Extra Tryz.prog Tryz.lays105_ren where
  sizeBuilder := by kernel_rfl
  liesBuilder := by kernel_rfl
  t5 := Tryz.underlying5
  a5 := Tryz.isAgg5
  z5 := Tryz.sizeOf5
  v5 := Tryz.zeroValue5
  infoByte := by kernel_rfl
  cellsByte := by kernel_rfl
  sizeByte := by kernel_rfl
  neB5 := by decide
end Go.Proofs
namespace Go.Proofs.Cr
open Go.RowKit Go.Shelf Go.Sort

/-- The library's table of powers lies in memory as it was laid. -/
def TabW (w : World) : Prop := Lib.TabIs Tryz.prog w "internal/strconv.uint64pow10" .u64 Lib.pow10Tab
theorem tab_global : Tryz.prog.globalNamed "internal/strconv.uint64pow10" = some 2 := by kernel_rfl
theorem TabW.below {w w' : World} {n : Nat} (h : TabW w) (hb : Below n w w') (hn : w.heap.size ≤ n) : TabW w' := by
  unfold TabW Lib.TabIs World.var? at h ⊢
  rw [tab_global] at h ⊢
  simp only [Option.bind_some] at h ⊢
  have hlt : 2 < w.heap.size := by
    rcases Nat.lt_or_ge 2 w.heap.size with h' | h'
    · exact h'
    · rw [Array.getElem?_eq_none h'] at h; cases h
  rw [hb.block 2 (by omega)]
  exact h
theorem grow_below (w : World) (k : Nat) (os : Array Obj) : Below w.heap.size w (grow (w.drewN k) os) := by
  refine ⟨rfl, rfl, rfl, ?_, fun b hb => ?_⟩
  · simp [grow]
  · simp only [grow]
    exact Array.getElem?_append_left hb
theorem repeatL_zeros (k : Nat) : Lib.repeatL [48] k = List.replicate k (48 : UInt8) := by
  induction k with
  | zero => rfl
  | succ k ih => rw [Lib.repeatL, ih, List.replicate_succ]; rfl
theorem repeat_any (k : Nat) (w : World) (hk : k ≤ 9) : Calls Tryz.prog 145 #[.string ⟨#[48]⟩, .int .i64 k] w fun e w' => e = .returned (.string ⟨(List.replicate k 48).toArray⟩) ∧ Below w.heap.size w w' := by
  have := Any.strings_Repeat Tryz.lays105 Tryz.extra105 ⟨#[48]⟩ k w (by omega) (by rw [show (ByteArray.mk #[48]).size = 1 from rfl]; omega)
  rw [show (ByteArray.mk #[48]).data.toList = [48] from rfl, repeatL_zeros] at this
  exact this
set_option maxHeartbeats 1000000 in
set_option maxRecDepth 100000 in
/-- strconv.FormatUint(u, 10). -/
theorem formatUint_any (u : Nat) (w : World) (hu : u < 1000000000) (htab : TabW w) :
    Calls Tryz.prog 144 #[.int .u64 u, .int .i64 10] w fun e w' => e = .returned (.string (numB u)) ∧ Below w.heap.size w w' := by
  by_cases hs : u < 100
  · have hsI : (u : Int) < 100 := by omega
    have T := Lib.hid (fun W => Any.internal_strconv_small Tryz.lays283 u hs W)
    clear hs
    go_enter Tryz.func144, Tryz.ntmps144
    go_wp2_with (first | (go_at_call 153; refine (T.out _).mono ?_; rintro e w' ⟨rfl, rfl⟩) | go_in)
    go_ret
    exact ⟨rfl, Below.refl _ _⟩
  · have hsI : ¬ (u : Int) < 100 := by omega
    have hu1 : 1 ≤ u := by omega
    have hu64 : u < 18446744073709551616 := by omega
    have hnd20 : Lib.nDigits u ≤ 20 := by have := Lib.numDigits_eq u hu1 hu64; split at this <;> omega
    have hal : Tryz.prog.arrayLen 182 = 24 := by simp [Program.arrayLen, Tryz.underlying182]
    have hsl1 : ∀ W, (Instr.sliceAt 182 (.pointer (some ⟨w.heap.size, 0, none⟩)) none (some (.int .i64 (Lib.nDigits u : Int))) none).run Tryz.prog W = .ok (.slice (some ⟨w.heap.size, 0, none⟩) (Lib.nDigits u) 24) W := fun W => by
      rw [run_sliceAt_array_h W 182 ⟨w.heap.size, 0, none⟩ (by simp [Program.arrayLen, Program.elem, Tryz.underlying182]) .i64 (Lib.nDigits u : Int) (by omega) (by rw [hal]; omega)]
      go_simp
    have hH0 := Lib.holds_zero0 w 182 (Lib.nDigits u) (by omega)
    have hfmt := Lib.hid (Any.internal_strconv_formatBase10 Tryz.lays285 w.heap.size 0 24 u (Array.replicate (Lib.nDigits u) 0) (w.alloc (.cells Lib.zeros24 182)) hH0 (by rw [Array.size_replicate]; exact Lib.lt_pow_nDigits u) hu64 (by rw [Array.size_replicate]; omega))
    rw [Array.size_replicate] at hfmt
    have HH0 := Lib.hid hH0
    have TT := Lib.hid (fun W h => Any.internal_strconv_numDigits Tryz.laysM284 u hu1 hu64 W h)
    have HT := Lib.hid htab
    clear hH0 hal htab
    go_enter Tryz.func144, Tryz.ntmps144
    go_wp2_with (first
      | (go_at_call 154; refine (TT.out _ (Lib.tabIs_alloc HT.out _)).mono ?_; rintro e w' ⟨rfl, rfl⟩)
      | (go_at_call 167; go_in))
    refine hfmt.out.mono ?_
    rintro e w' ⟨rfl, k, v', dk, rfl, hF⟩
    have hcv : (convert 167 9 (.slice (some ⟨w.heap.size, 0, none⟩) (Lib.nDigits u) 24)).run Tryz.prog ((putRow (fun (b : UInt8) => Value.int .u8 (b.toNat : Int)) (w.alloc (.cells Lib.zeros24 182)) w.heap.size 0 dk).drewN k) = .ok (.string ⟨(Lib.decDigits u).toArray⟩) ((putRow (fun (b : UInt8) => Value.int .u8 (b.toNat : Int)) (w.alloc (.cells Lib.zeros24 182)) w.heap.size 0 dk).drewN k) := by
      have h := run_convert_bytes_back (P := Tryz.prog) ((putRow (fun (b : UInt8) => Value.int .u8 (b.toNat : Int)) (w.alloc (.cells Lib.zeros24 182)) w.heap.size 0 dk).drewN k) 167 9 5 ⟨w.heap.size, 0, none⟩ 24 (Lib.decDigits u) Tryz.underlying167 Tryz.underlying5 Tryz.underlying9 (fun j hj => by
        rw [Lib.row_is_numeral hF j hj, Lib.add_plain, World.cell?_drewN]
        exact cell?_putRow (fun (b : UInt8) => Value.int .u8 (b.toNat : Int)) _ w.heap.size 0 _ dk HH0.out (by rw [hF.size, Array.size_replicate]) j (by rw [hF.size]; rw [Lib.decDigits_length] at hj; exact hj))
      rw [Lib.decDigits_length] at h
      exact h
    go_wp2
    go_ret
    obtain ⟨os, eo⟩ := Lib.fin_at w (.cells Lib.zeros24 182) dk k 0
    refine ⟨rfl, ?_⟩
    rw [eo]
    exact grow_below _ _ _
end Go.Proofs.Cr
namespace Go.Proofs.Cr
open Go.RowKit Go.Shelf
attribute [local go_sem] Oper.semAt_some

theorem stabI_block {B : Nat} {C : Nat → Prop} {b : Nat} {o : Obj} (hc : ¬ C b) (ho : o.isCells = true) : StabI B C (fun _ W => W.heap[b]? = some o) := fun s W W' row hs hg hr => by
  replace hs : W.heap[b]? = some o := hs
  show W'.heap[b]? = some o
  rw [hg.block b (Array.getElem?_eq_some_iff.1 hs).1 (fun e => ?_)]
  · exact hs
  · rcases hr b e.symm with h | ⟨_, o', ho', hn⟩
    · exact hc h
    · rw [hs] at ho'; cases ho'; rw [ho] at hn; cases hn
theorem builder_kept {B b : Nat} {p : Value} {bs : List Value} {W W' : World} (h : Lib.BuilderAt 169 5 B b p bs W) (hk : ∀ (i : Nat) (o : Obj), W.heap[i]? = some o → o.isCells = true → W'.heap[i]? = some o) : Lib.BuilderAt 169 5 B b p bs W' := by
  obtain ⟨hB, v, hb, hown, hne⟩ := h
  refine ⟨hB, v, hk _ _ hb rfl, ?_, hne⟩
  obtain ⟨hl, h0 | ⟨g, cap, cur, hv, hg, hh, r⟩⟩ := hown
  · exact ⟨hl, .inl h0⟩
  · exact ⟨hl, .inr ⟨g, cap, cur, hv, hg, hk _ _ hh rfl, r⟩⟩
theorem isBuilder_kept {B b : Nat} {bs : List Value} {W W' : World} (h : Lib.IsBuilder 169 5 B b bs W) (hk : ∀ (i : Nat) (o : Obj), W.heap[i]? = some o → o.isCells = true → W'.heap[i]? = some o) : Lib.IsBuilder 169 5 B b bs W' :=
  h.elim (fun x => .inl (builder_kept x hk)) (fun x => .inr (builder_kept x hk))
theorem isBuilder_below {B b n : Nat} {bs : List Value} {W W' : World} (h : Lib.IsBuilder 169 5 B b bs W) (hb : Below n W W') (hn : W.heap.size ≤ n) : Lib.IsBuilder 169 5 B b bs W' :=
  isBuilder_kept h fun i o ho _ => by rw [hb.block i (by have := (Array.getElem?_eq_some_iff.1 ho).1; omega)]; exact ho
theorem stabI_builder {Bx : Nat} {C : Nat → Prop} {B b : Nat} {bs : Nat → List Value} (hC : ∀ r, ¬ C r) : StabI Bx C (fun s W => Lib.IsBuilder 169 5 B b (bs s) W) := fun s W W' row hs hg hr =>
  isBuilder_kept hs fun i o ho hc => by
    rw [hg.block i (Array.getElem?_eq_some_iff.1 ho).1 (fun e => ?_)]
    · exact ho
    · rcases hr i e.symm with h | ⟨_, o', ho', hn⟩
      · exact hC i h
      · rw [ho] at ho'; cases ho'; rw [hc] at hn; cases hn
theorem KeepT.others {b : Nat} {B : Nat} {w w' : World} (h : KeepT b w w') (hb : Below B w w') {cs : Array Value} {t : TypeId} (hh : w.heap[b]? = some (.cells cs t (0, 0))) : KeepsOthers w w' :=
  ⟨hb.size, fun i o hi hn => h i o (fun e => by subst e; rw [hh] at hi; cases hi; cases hn) hi (fun cs fr e => by subst e; cases hn)⟩
theorem isBuilder_block {B b : Nat} {bs : List Value} {W : World} (h : Lib.IsBuilder 169 5 B b bs W) : ∃ cs, W.heap[b]? = some (.cells cs 169 (0, 0)) := by
  rcases h with ⟨_, v, hb, _⟩ | ⟨_, v, hb, _⟩
  · exact ⟨_, hb⟩
  · exact ⟨_, hb⟩
theorem Below.others {w w' : World} (hb : Below w.heap.size w w') : KeepsOthers w w' := ⟨hb.size, fun i o hi _ => by rw [hb.block i (Array.getElem?_eq_some_iff.1 hi).1]; exact hi⟩
end Go.Proofs.Cr
