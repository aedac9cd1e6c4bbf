/- Contracts of functions that the laws reach, and plain lemmas. Part 24. -/
import Derived.Test.YtolofiiolinnoaaGreatDoorC10
import Derived.Test.YtolofiiolinnoaaGreatDoorC13
import Derived.Test.YtolofiiolinnoaaGreatDoorC16
set_option linter.all false
namespace Go.Proofs.Cr
open Go Go.RowKit Go.Shelf
section
variable {F : Fence} {n : Nat} {P : Program} {ops : Array Oper} {Q : Exit → Act → World → Prop}
/-- Q, but R at a panic. -/
def PanP (R : List PanicEntry → Act → World → Prop) (Q : Exit → Act → World → Prop) : Exit → Act → World → Prop
  | .panic c, a, w => R c a w
  | e, a, w => Q e a w
theorem PanP.normal {R : List PanicEntry → Act → World → Prop} {a : Act} {w : World} (h : Q .normal a w) : PanP R Q .normal a w := h
theorem PanP.imp {R : List PanicEntry → Act → World → Prop} (hR : ∀ c a w, R c a w → Q (.panic c) a w) : ∀ (e : Exit) (a : Act) (w : World), PanP R Q e a w → Q e a w := fun e a w h => by
  cases e <;> first | exact h | exact hR _ _ _ h
/-- A region that draws, in which a call may panic: R says what holds then. -/
theorem wpIn_region_P (R : List PanicEntry → Act → World → Prop) (hR : ∀ c a w, R c a w → Q (.panic c) a w) (C : World → Prop) (T : List Nat) {id : Nat} {a : Act} {w : World} (hm : P.follows .mixedOrders = true) (hC : C w.drew)
    (h : C w.drew → wpAnyJ F n P .any ops (PanP R Q) C T ops.size (Array.replicate ops.size false) a w.drew) : (Code.region id ops true).wpIn F n P Q a w :=
  wpIn_mono (wpIn_region_any hm (wpAny_of_J _ _ _ _ (h hC))) (PanP.imp hR)
theorem wp_region_P (R : List PanicEntry → Act → World → Prop) (hR : ∀ c a w, R c a w → Q (.panic c) a w) (C : World → Prop) (T : List Nat) {id : Nat} {a : Act} {w : World} (hm : P.follows .mixedOrders = true) (hC : C w.drew)
    (h : C w.drew → wpAnyJ Fence.wide 0 P .any ops (PanP R Q) C T ops.size (Array.replicate ops.size false) a w.drew) : (Code.region id ops true).wp P Q a w :=
  wpIn_wide.1 (wpIn_region_P R hR C T hm hC h)
end
end Go.Proofs.Cr
namespace Go.Proofs.Cr
open Go.RowKit Go.Shelf
attribute [local go_sem] Oper.semAt_some

/-- The chance that the first searches all miss. -/
def MissR (L : List Bd) (N : Nat) (q : Nat → Rat) : Nat → Rat → Prop
  | 0, o => o = 1
  | k + 1, o => ∃ p r, MissR L N q k p ∧ ChanceR L N (q k) r ∧ o = p * (1 - r)
def MissS (L : List Bd) (N : Nat) (q : Nat → Rat) (m : Nat) (p : ByteArray × ByteArray × Int) : Prop :=
  (∃ o, p = (qN o, qD o, 0) ∧ MissR L N q m o ∧ okQ o) ∨ (p = (⟨#[]⟩, ⟨#[]⟩, 4) ∧ ∃ k o, k < m ∧ MissR L N q (k + 1) o ∧ ¬ fits o)
theorem one_qN : (⟨#[49]⟩ : ByteArray) = qN 1 ∧ (⟨#[49]⟩ : ByteArray) = qD 1 := ⟨by kernel_rfl, by kernel_rfl⟩
theorem one_ok : okQ 1 := ⟨by decide, Nat.lt_trans (by decide : (1 : Rat).num.natAbs < 9223372036854775808) pow19_lt, Nat.lt_trans (by decide : (1 : Rat).den < 9223372036854775808) pow19_lt⟩
/-- The chance to miss fits. -/
theorem miss_ok {L : List Bd} {N : Nat} {q r : Rat} (h : CurveP L N) (hq : okQ q) (hs : sm 300 q) (hr : ChanceR L N q r) : okQ (1 - r) := by
  have ht := chance_top h hr
  have h0 : 0 ≤ 1 - r := by grind
  have h1 : sm 1 (1 : Rat) := ⟨by decide, by decide⟩
  have hsr : sm 409 r := by
    rcases hr with ⟨i, hi, h2, h3, rfl⟩ | ⟨h2, rfl⟩
    · obtain ⟨⟨f1, s1⟩, f2, s2⟩ := shortB_fr (h.sh i (by omega))
      obtain ⟨⟨f3, s3⟩, f4, s4⟩ := shortB_fr (h.sh (i + 1) (by omega))
      have hrk := rise_ok (h.sh i (by omega)) (h.sh (i + 1) (by omega)) (h.up i hi).1 (h.up i hi).2
      have m1 : sm 36 (qy L (i + 1) - qy L i) := sm.sub s4 s2 f4.1 f2.1
      have m2 : sm 36 (qx L (i + 1) - qx L i) := sm.sub s3 s1 f3.1 f1.1
      have m3 : sm 72 ((qy L (i + 1) - qy L i) / (qx L (i + 1) - qx L i)) := sm.div m1 m2 hrk.s2.1 hrk.n2
      have m4 : sm 318 (q - qx L i) := sm.sub hs s1 hq.1 f1.1
      exact sm.add s2 (sm.mul m3 m4) f2.1 (Rat.mul_nonneg hrk.s3.1 (by grind))
    · obtain ⟨_, f2, s2⟩ := shortB_fr (h.sh N (Nat.le_refl _))
      exact s2.mono (by decide)
  exact (sm.sub h1 hsr (by decide) (chance_nonneg h hr)).ok (by decide) h0
end Go.Proofs.Cr
namespace Go.Proofs.Cr
open Go.RowKit Go.Shelf
attribute [local go_sem] Oper.semAt_some

set_option maxRecDepth 100000 in
set_option maxHeartbeats 4000000 in
theorem miss1_any (A A2 : Option Addr) (c c2 N M : Nat) (L : List Bd) (P : List (ByteArray × ByteArray)) (q : Nat → Rat) (w : World) (b0 b1 : Nat) (hb0 : Blk w b0 #[.slice A2 M c2] 67) (hb1 : Blk w b1 #[.slice A (N + 1 : Nat) c] 34)
    (hr : RdB w A L) (h : CurveP L N) (hc : N + 1 ≤ c) (hp : RdP w A2 P) (hM : P.length = M) (hq : ∀ k, k < M → (okQ (q k) ∧ sm 300 (q k)) ∧ P.getD k (⟨#[]⟩, ⟨#[]⟩) = (qN (q k), qD (q k))) (hT : TabW w) (hZ : ZO w) :
    Calls Tryz.prog 92 #[.pointer (some ⟨b0, 0, none⟩), .pointer (some ⟨b1, 0, none⟩)] w fun e w' => ∃ p, MissS L N q M p ∧ TryPost p w e w' := by
  obtain ⟨hA1, hA2, hW1⟩ := two_new w #[.string ⟨#[]⟩, .string ⟨#[]⟩] #[.string ⟨#[49]⟩, .string ⟨#[49]⟩] 46 46
  have HW1 := Lib.hid hW1
  have l0 := hb0.lt
  have l1 := hb1.lt
  have z1 := (hZ.below (below_alloc w (.cells #[.string ⟨#[]⟩, .string ⟨#[]⟩] 46)) (Nat.le_refl _)).2
  obtain ⟨z10, z11⟩ := z1
  have hb01 := hb0.pass hW1
  have c0 : (((w.alloc (.cells #[.string ⟨#[]⟩, .string ⟨#[]⟩] 46)).alloc (.cells #[.string ⟨#[49]⟩, .string ⟨#[49]⟩] 46))).cell? ⟨b0, 0, none⟩ = some (.slice A2 M c2) := hb01.cell 0
  have HTL := Lib.hid (And.intro hT (And.intro h (And.intro hr (And.intro hp (And.intro hM (And.intro hq (And.intro hb0 hb1)))))))
  have hM9 : M ≤ 1000000000 := by rw [← hM]; exact hp.1
  clear hW1 hT hZ h hr hp hM hq hb0 hb1 hb01
  go_enter Tryz.func92, Tryz.ntmps92
  go_wp2_with fail
  go_loopw [9] (fun i wr => ∃ (k : Nat) (o : Rat), k ≤ M ∧ i = .int .i64 (k : Int) ∧ Hid (MissR L N q k o ∧ okQ o) ∧ Blk wr w.heap.size #[.string ⟨#[]⟩, .string ⟨#[]⟩] 46 ∧ Blk wr (w.heap.size + 1) #[.string (qN o), .string (qD o)] 46 ∧ Below w.heap.size w wr)
    (fun i _ => (M - intOf i).toNat)
  case atStart => exact ⟨0, 1, Nat.zero_le _, by simp, Lib.hid ⟨rfl, one_ok⟩, hA1, by rw [← one_qN.1, ← one_qN.2]; exact hA2, HW1.out⟩
  case round =>
    obtain ⟨k, o, hk, rfl, HO, g2, g3, hB⟩ := hrel
    have HB := Lib.hid hB
    clear hB hA1 hA2 c0 z10 z11
    by_cases hlt : k < M
    · obtain ⟨b, off, rfl, hb, hcs⟩ := HTL.out.2.2.2.1.2 (by rw [HTL.out.2.2.2.2.1]; omega)
      have hcx := hcs k (by rw [HTL.out.2.2.2.2.1]; omega)
      obtain ⟨⟨hok, hsm⟩, hpk⟩ := HTL.out.2.2.2.2.2.1 k hlt
      rw [hpk] at hcx
      have x1 := (HB.out.cell (p := ⟨b, off + k * 2, none⟩) hb).trans hcx.1
      have x2 := (HB.out.cell (p := ⟨b, off + k * 2 + 1, none⟩) hb).trans hcx.2
      obtain ⟨u, hu⟩ : ∃ u, u = q k := ⟨_, rfl⟩
      rw [← hu] at hok hsm x1 x2
      have HU := Lib.hid hu
      have HOK := Lib.hid (And.intro hok hsm)
      clear hcs hcx hpk hu hok hsm
      go_wp2_with fail
      have hB6 : Below wr.heap.size wr (wr.alloc (.cells #[.string (qN u), .string (qD u)] 46)).drew := (below_alloc wr _).drew
      have hN6 : Blk (wr.alloc (.cells #[.string (qN u), .string (qD u)] 46)).drew wr.heap.size #[.string (qN u), .string (qD u)] 46 := (Blk.new wr _ 46).drew
      have hgt : w.heap.size + 1 < wr.heap.size := g3.lt
      have g2 := g2.pass hB6
      have g3 := g3.pass hB6
      have HK := Lib.hid ((Kept.of (Nat.le_refl _) HB.out.size HB.out).pass hB6)
      have hcu := HTL.out.2.2.2.2.2.2.2.below HK.out.2.2 l1
      have u0 := hcu.cell 0
      have u0 : (wr.alloc (.cells #[.string (qN u), .string (qD u)] 46)).drew.cell? ⟨b1, 0, none⟩ = some (.slice A (N + 1 : Nat) c) := u0
      have hm : Tryz.prog.follows .mixedOrders = true := by kernel_rfl
      have hfnR : ∀ f, Fence.wide.fn f := fun _ => trivial
      refine wp_region_P (fun c a' w' => a'.defers = [] ∧ c = mis 4 ∧ (∃ k o, k < M ∧ MissR L N q (k + 1) o ∧ ¬ fits o) ∧ Below w.heap.size w w') ?hR (fun W => (W.cell? ⟨w.heap.size + 1, 0, none⟩ = some (.string (qN o)) ∧ W.cell? ⟨w.heap.size + 1, 1, none⟩ = some (.string (qD o))) ∧ W.cell? ⟨b1, 0, none⟩ = some (.slice A (N + 1 : Nat) c) ∧ (W.cell? ⟨wr.heap.size, 0, none⟩ = some (.string (qN u)) ∧ W.cell? ⟨wr.heap.size, 1, none⟩ = some (.string (qD u)))) [12] hm ?hCells0 (fun hCells => ?_)
      case hCells0 => exact ⟨g3.two.1, u0, hN6.two.1⟩
      case hR =>
        rintro c a' w' ⟨h1, rfl, h2, h3⟩
        exact ⟨h1, (⟨#[]⟩, ⟨#[]⟩, 4), .inr ⟨rfl, h2⟩, .inr ⟨rfl, rfl, rfl⟩, h3⟩
      clear hB6 hN6 hcu u0
      generalize (wr.alloc (.cells #[.string (qN u), .string (qD u)] 46)).drew = V0 at *
      refine takeB hfnR (by kernel_rfl) 0 (v := ?_) rfl (by kernel_rfl) (fun _ _ _ h => h) (by kernel_rfl) hCells (Or.inl ⟨by rfl, ?_⟩) ?_
      rotate_left 1
      · intro w hSw; (try dsimp only at hSw); go_simp; (try with_reducible rfl)
      try simp only [Act.put, List.setIfInBounds_toArray, List.set_cons_zero, List.set_cons_succ]
      refine takeB hfnR (by kernel_rfl) 1 (v := ?_) rfl (by kernel_rfl) (fun _ _ _ h => h) (by kernel_rfl) hCells (Or.inl ⟨by rfl, ?_⟩) ?_
      rotate_left 1
      · intro w hSw; (try dsimp only at hSw); go_simp; (try with_reducible rfl)
      try simp only [Act.put, List.setIfInBounds_toArray, List.set_cons_zero, List.set_cons_succ]
      refine takeB hfnR (by kernel_rfl) 2 (v := ?_) rfl (by kernel_rfl) (fun _ _ _ h => h) (by kernel_rfl) hCells (Or.inl ⟨by rfl, ?_⟩) ?_
      rotate_left 1
      · intro w hSw; (try dsimp only at hSw); go_simp; (try with_reducible rfl)
      try simp only [Act.put, List.setIfInBounds_toArray, List.set_cons_zero, List.set_cons_succ]
      refine oneJ 3 (by kernel_rfl) rfl (fun K hK => ?_)
      go_simp
      refine ⟨rfl, ?_⟩
      (refine (callsIn_wide.2 (chance_any A c N L u _ (HTL.out.2.2.1.below HK.out.2.2 (Nat.le_refl _)) HTL.out.2.1 hc HOK.out.1 HOK.out.2 (HTL.out.1.below HK.out.2.2 (Nat.le_refl _)))).mono ?_; rintro e v3 ⟨r, rfl, hr1, hr2, hv3⟩)
      refine hK.out _ _ (holdJ ?_ (fun hCells => ?_))
      · clear hK; (try dsimp only); (exact ⟨⟨pc hv3 hCells.1.1, pc hv3 hCells.1.2⟩, pc hv3 hCells.2.1, pc hv3 hCells.2.2.1, pc hv3 hCells.2.2.2⟩)
      clear hK K
      try simp only [Act.put, List.setIfInBounds_toArray, List.set_cons_zero, List.set_cons_succ]
      have HK := Lib.hid (HK.out.pass hv3)
      have g2 := g2.pass hv3
      have g3 := g3.pass hv3
      clear hv3
      have HR := Lib.hid (And.intro hr1 (And.intro hr2 (miss_ok HTL.out.2.1 HOK.out.1 HOK.out.2 hr1)))
      clear hr1 hr2
      refine oneJ 4 (by kernel_rfl) rfl (fun K hK => ?_)
      go_simp
      refine ⟨rfl, ?_⟩
      (refine (callsIn_wide.2 (not_q r HR.out.2.1 HR.out.2.2 (HTL.out.1.below HK.out.2.2 (Nat.le_refl _)))).mono ?_; rintro e v4 ⟨rfl, hv4⟩)
      refine hK.out _ _ (holdJ ?_ (fun hCells => ?_))
      · clear hK; (try dsimp only); (exact ⟨⟨pc hv4 hCells.1.1, pc hv4 hCells.1.2⟩, pc hv4 hCells.2.1, pc hv4 hCells.2.2.1, pc hv4 hCells.2.2.2⟩)
      clear hK K
      try simp only [Act.put, List.setIfInBounds_toArray, List.set_cons_zero, List.set_cons_succ]
      have HK := Lib.hid (HK.out.pass hv4)
      have g2 := g2.pass hv4
      have g3 := g3.pass hv4
      clear hv4
      refine takeB hfnR (by kernel_rfl) 5 (v := ?_) rfl (by kernel_rfl) (fun _ _ _ h => h) (by kernel_rfl) hCells (Or.inl ⟨by rfl, ?_⟩) ?_
      rotate_left 1
      · intro w hSw; (try dsimp only at hSw); go_simp; (try with_reducible rfl)
      try simp only [Act.put, List.setIfInBounds_toArray, List.set_cons_zero, List.set_cons_succ]
      refine takeB hfnR (by kernel_rfl) 6 (v := ?_) rfl (by kernel_rfl) (fun _ _ _ h => h) (by kernel_rfl) hCells (Or.inl ⟨by rfl, ?_⟩) ?_
      rotate_left 1
      · intro w hSw; (try dsimp only at hSw); go_simp; (try with_reducible rfl)
      try simp only [Act.put, List.setIfInBounds_toArray, List.set_cons_zero, List.set_cons_succ]
      refine oneJ 7 (by kernel_rfl) rfl (fun K hK => ?_)
      go_simp
      refine ⟨rfl, ?_⟩
      (refine (callsIn_wide.2 (must_ok _ _ _)).mono ?_; rintro e v5 ⟨rfl, hv5⟩)
      refine hK.out _ _ (holdJ ?_ (fun hCells => ?_))
      · clear hK; (try dsimp only); (exact ⟨⟨pc hv5 hCells.1.1, pc hv5 hCells.1.2⟩, pc hv5 hCells.2.1, pc hv5 hCells.2.2.1, pc hv5 hCells.2.2.2⟩)
      clear hK K
      try simp only [Act.put, List.setIfInBounds_toArray, List.set_cons_zero, List.set_cons_succ]
      have HK := Lib.hid (HK.out.pass hv5)
      have g2 := g2.pass hv5
      have g3 := g3.pass hv5
      clear hv5
      have HMR := Lib.hid (show MissR L N q (k + 1) (o * (1 - r)) from ⟨o, r, HO.out.1, by rw [← HU.out]; exact HR.out.1, rfl⟩)
      by_cases hf : fits (o * (1 - r))
      · have HF := Lib.hid (show okQ (o * (1 - r)) from ⟨Rat.mul_nonneg HO.out.2.1 HR.out.2.2.1, hf⟩)
        clear hf
        refine oneJ 8 (by kernel_rfl) rfl (fun K hK => ?_)
        go_simp
        refine ⟨rfl, ?_⟩
        (refine (callsIn_wide.2 (mul_q _ _ HO.out.2 HR.out.2.2 HF.out (HTL.out.1.below HK.out.2.2 (Nat.le_refl _)))).mono ?_; rintro e v6 ⟨rfl, hv6⟩)
        refine hK.out _ _ (holdJ ?_ (fun hCells => ?_))
        · clear hK; (try dsimp only); (exact ⟨⟨pc hv6 hCells.1.1, pc hv6 hCells.1.2⟩, pc hv6 hCells.2.1, pc hv6 hCells.2.2.1, pc hv6 hCells.2.2.2⟩)
        clear hK K
        try simp only [Act.put, List.setIfInBounds_toArray, List.set_cons_zero, List.set_cons_succ]
        have HK := Lib.hid (HK.out.pass hv6)
        have g2 := g2.pass hv6
        have g3 := g3.pass hv6
        clear hv6
        refine takeB hfnR (by kernel_rfl) 9 (v := ?_) rfl (by kernel_rfl) (fun _ _ _ h => h) (by kernel_rfl) hCells (Or.inl ⟨by rfl, ?_⟩) ?_
        rotate_left 1
        · intro w hSw; (try dsimp only at hSw); go_simp; (try with_reducible rfl)
        try simp only [Act.put, List.setIfInBounds_toArray, List.set_cons_zero, List.set_cons_succ]
        refine takeB hfnR (by kernel_rfl) 10 (v := ?_) rfl (by kernel_rfl) (fun _ _ _ h => h) (by kernel_rfl) hCells (Or.inl ⟨by rfl, ?_⟩) ?_
        rotate_left 1
        · intro w hSw; (try dsimp only at hSw); go_simp; (try with_reducible rfl)
        try simp only [Act.put, List.setIfInBounds_toArray, List.set_cons_zero, List.set_cons_succ]
        refine oneJ 11 (by kernel_rfl) rfl (fun K hK => ?_)
        go_simp
        refine ⟨rfl, ?_⟩
        (refine (callsIn_wide.2 (must_ok _ _ _)).mono ?_; rintro e v7 ⟨rfl, hv7⟩)
        refine hK.out _ _ (holdJ ?_ (fun hCells => ?_))
        · clear hK; (try dsimp only); (exact ⟨⟨pc hv7 hCells.1.1, pc hv7 hCells.1.2⟩, pc hv7 hCells.2.1, pc hv7 hCells.2.2.1, pc hv7 hCells.2.2.2⟩)
        clear hK K
        try simp only [Act.put, List.setIfInBounds_toArray, List.set_cons_zero, List.set_cons_succ]
        have HK := Lib.hid (HK.out.pass hv7)
        have g2 := g2.pass hv7
        have g3 := g3.pass hv7
        clear hv7
        obtain ⟨⟨r0, r1⟩, f0, f1⟩ := g3.two
        refine oneJ 12 (by kernel_rfl) rfl (fun K hK => ?_)
        go_simp
        refine hK.out _ _ (lastJ (by rfl) ?_)
        clear hK K
        try simp only [Act.put, List.setIfInBounds_toArray, List.set_cons_zero, List.set_cons_succ]
        refine wpAnyJ_done (by kernel_rfl) (PanP.normal ?_) _
        go_wp2_with fail
        go_roundw
        case rel =>
          have hk1 : k + 1 ≤ M := hlt
          exact ⟨k + 1, o * (1 - r), hk1, by simp, Lib.hid ⟨HMR.out, HF.out⟩, (g2.far (p := ⟨w.heap.size + 1, 0, none⟩) (by simp) _).far (p := ⟨w.heap.size + 1, 1, none⟩) (by simp) _, (g3.set 0 _).set 1 _, (HK.out.2.2.setCell (p := ⟨w.heap.size + 1, 0, none⟩) (by simp) _).setCell (p := ⟨w.heap.size + 1, 1, none⟩) (by simp) _⟩
        case measure =>
          simp [intOf]
          omega
      · have HF := Lib.hid hf
        clear hf
        have TM := Lib.hid (fun W (hT : TabW W) => show Calls Tryz.prog 29 #[.agg #[.string (qN o), .string (qD o)], .agg #[.string (qN (1 - r)), .string (qD (1 - r))]] W (fun e w' => e = .returned (.tuple #[.agg #[.string ⟨#[]⟩, .string ⟨#[]⟩], .int .i64 4]) ∧ Below W.heap.size W w') by
          refine (mul_any _ _ _ _ W hT).mono ?_
          rw [mulS_q HO.out.2.fr HR.out.2.2.fr, fitQ_no HF.out]
          exact fun e w' h => h)
        refine oneJ 8 (by kernel_rfl) rfl (fun K hK => ?_)
        go_simp
        refine ⟨rfl, ?_⟩
        (refine (callsIn_wide.2 (TM.out _ (HTL.out.1.below HK.out.2.2 (Nat.le_refl _)))).mono ?_; rintro e v6 ⟨rfl, hv6⟩)
        refine hK.out _ _ (holdJ ?_ (fun hCells => ?_))
        · clear hK; (try dsimp only); (exact ⟨⟨pc hv6 hCells.1.1, pc hv6 hCells.1.2⟩, pc hv6 hCells.2.1, pc hv6 hCells.2.2.1, pc hv6 hCells.2.2.2⟩)
        clear hK K
        try simp only [Act.put, List.setIfInBounds_toArray, List.set_cons_zero, List.set_cons_succ]
        have HK := Lib.hid (HK.out.pass hv6)
        have g2 := g2.pass hv6
        have g3 := g3.pass hv6
        clear hv6
        refine takeB hfnR (by kernel_rfl) 9 (v := ?_) rfl (by kernel_rfl) (fun _ _ _ h => h) (by kernel_rfl) hCells (Or.inl ⟨by rfl, ?_⟩) ?_
        rotate_left 1
        · intro w hSw; (try dsimp only at hSw); go_simp; (try with_reducible rfl)
        try simp only [Act.put, List.setIfInBounds_toArray, List.set_cons_zero, List.set_cons_succ]
        refine takeB hfnR (by kernel_rfl) 10 (v := ?_) rfl (by kernel_rfl) (fun _ _ _ h => h) (by kernel_rfl) hCells (Or.inl ⟨by rfl, ?_⟩) ?_
        rotate_left 1
        · intro w hSw; (try dsimp only at hSw); go_simp; (try with_reducible rfl)
        try simp only [Act.put, List.setIfInBounds_toArray, List.set_cons_zero, List.set_cons_succ]
        refine oneJ 11 (by kernel_rfl) rfl (fun K hK => ?_)
        go_simp
        refine ⟨rfl, ?_⟩
        refine (callsIn_wide.2 (must_err _ _ 4 (by decide) _)).mono ?_
        rintro e v7 ⟨rfl, hv7⟩
        exact ⟨rfl, rfl, ⟨k, hlt, o * (1 - r), HMR.out, HF.out⟩, HK.out.2.2.trans (hv7.mono HK.out.2.2.size)⟩
    · have hkk : k = M := by omega
      subst hkk
      obtain ⟨⟨p0, p1⟩, _, _⟩ := g3.two
      obtain ⟨⟨r0, r1⟩, f0, f1⟩ := g2.two
      go_wp2_with fail
      refine bodyPost_ret (results_c1 (g := w.heap.size) rfl rfl ((g2.set 0 (.string (qN o))).set 1 (.string (qD o))) Tryz.underlying46 rfl (by kernel_rfl)) rfl ?_
      exact ⟨(qN o, qD o, 0), .inl ⟨o, rfl, HO.out.1, HO.out.2⟩, .inl ⟨by simp, rfl⟩, (HB.out.setCell (by simp) _).setCell (by simp) _⟩
end Go.Proofs.Cr
namespace Go.Proofs.Cr
open Go.RowKit Go.Shelf
attribute [local go_sem] Oper.semAt_some

def AskM (L : List Bd) (P : List (ByteArray × ByteArray)) (N : Nat) (q : Nat → Rat) : Prop :=
  CurveP L N ∧ ∀ k, k < P.length → (okQ (q k) ∧ sm 300 (q k)) ∧ P.getD k (⟨#[]⟩, ⟨#[]⟩) = (qN (q k), qD (q k))
theorem askM_of {L : List Bd} {P : List (ByteArray × ByteArray)} (h : (∃ N, CurveP L N) ∧ shortL 300 P = true) : ∃ N q, AskM L P N q := by
  obtain ⟨⟨N, hN⟩, hs⟩ := h
  refine ⟨N, fun k => qv (P.getD k (⟨#[]⟩, ⟨#[]⟩)).1 (P.getD k (⟨#[]⟩, ⟨#[]⟩)).2, hN, fun k hk => ?_⟩
  unfold shortL at hs
  have h1 := anyN_false (by simpa using hs) k hk
  obtain ⟨f, s⟩ := short_fr (by simpa using h1 : shortP 300 (P.getD k (⟨#[]⟩, ⟨#[]⟩)).1 (P.getD k (⟨#[]⟩, ⟨#[]⟩)).2 = true)
  exact ⟨⟨f.ok.1, s⟩, Prod.ext f.ok.2.1 f.ok.2.2⟩
def MissPost (L : List Bd) (P : List (ByteArray × ByteArray)) (w : World) (e : Ending) (w' : World) : Prop :=
  ((e = .returned (pv (⟨#[]⟩, ⟨#[]⟩, 2)) ∧ ¬ (P.length ≤ 512 ∧ (∃ N, CurveP L N) ∧ shortL 300 P = true)) ∨ (∃ N q p, P.length ≤ 512 ∧ AskM L P N q ∧ e = .returned (pv p) ∧ MissS L N q P.length p)) ∧ Below w.heap.size w w'
set_option maxRecDepth 100000 in
set_option maxHeartbeats 2000000 in
/-- 'detect.Miss'. -/
theorem Miss_any (A A2 : Option Addr) (c c2 : Nat) (L : List Bd) (P : List (ByteArray × ByteArray)) (w : World) (hr : RdB w A L) (hc : L.length ≤ c) (hp : RdP w A2 P) (hT : TabW w) (hZ : ZO w) :
    Calls Tryz.prog 42 #[.slice A L.length c, .slice A2 P.length c2] w (MissPost L P w) := by
  obtain ⟨K, hK⟩ : ∃ K, L.length = K := ⟨_, rfl⟩
  obtain ⟨M, hM⟩ : ∃ M, P.length = M := ⟨_, rfl⟩
  unfold MissPost
  have HKM := Lib.hid (And.intro hK hM)
  rw [hK] at hc ⊢
  rw [hM]
  obtain ⟨hA1, hB1, hR1, hW1⟩ := three_new w #[.slice A K c] #[.slice A2 M c2] #[.string ⟨#[]⟩, .string ⟨#[]⟩] 34 67 46
  have TR := Lib.hid (right2_any A A2 c c2 L P _ (hr.below hW1 (Nat.le_refl _)) (by rw [hK]; exact hc) (hp.below hW1 (Nat.le_refl _)) (hT.below hW1 (Nat.le_refl _)) (hZ.below hW1 (Nat.le_refl _)))
  rw [hK, hM] at TR
  have HW1 := Lib.hid hW1
  have HTL := Lib.hid (And.intro hr (And.intro hp (And.intro hT (And.intro hZ hc))))
  have c0 := hA1.cell 0
  have c0 : (((w.alloc (.cells #[.slice A K c] 34)).alloc (.cells #[.slice A2 M c2] 67)).alloc (.cells #[.string ⟨#[]⟩, .string ⟨#[]⟩] 46)).cell? ⟨w.heap.size, 0, none⟩ = some (.slice A K c) := c0
  have c1 := hB1.cell 0
  have c1 : (((w.alloc (.cells #[.slice A K c] 34)).alloc (.cells #[.slice A2 M c2] 67)).alloc (.cells #[.string ⟨#[]⟩, .string ⟨#[]⟩] 46)).cell? ⟨w.heap.size + 1, 0, none⟩ = some (.slice A2 M c2) := c1
  clear hW1 hr hp hT hZ hc hK hM
  by_cases h512 : 512 < M
  · have h512' : (512 : Int) < (M : Int) := by omega
    have H5 := Lib.hid h512
    clear h512
    obtain ⟨⟨r0, r1⟩, f0, f1⟩ := hR1.two
    go_enter Tryz.func42, Tryz.ntmps42
    go_wp2_with fail
    refine bodyPost_ret (results_ct (g := w.heap.size + 1 + 1) rfl rfl hR1 Tryz.underlying46 rfl (by kernel_rfl)) rfl ?_
    exact ⟨.inl ⟨by simp [pv], fun h => by have := H5.out; omega⟩, HW1.out⟩
  · have h512' : ¬ (512 : Int) < (M : Int) := by omega
    have H5 := Lib.hid (Nat.le_of_not_lt h512)
    clear h512
    go_enter Tryz.func42, Tryz.ntmps42
    go_wp2_with fail
    refine TR.out.mono ?_
    rintro e w2 ⟨⟨rfl, hk⟩ | ⟨rfl, hk⟩, hb2⟩
    · obtain ⟨N, q, hq⟩ := askM_of hk
      have hA2 := hA1.pass hb2
      have hB2 := hB1.pass hb2
      have hR2 := hR1.pass hb2
      have HB2 := Lib.hid (HW1.out.trans (hb2.mono HW1.out.size))
      have HQ := Lib.hid hq
      have eK : K = N + 1 := by rw [← HKM.out.1]; exact hq.1.len
      subst eK
      have TT := Lib.hid (tried_ex 92 #[.pointer (some ⟨w.heap.size + 1, 0, none⟩), .pointer (some ⟨w.heap.size, 0, none⟩)] _ w2 (fun _ _ => rfl)
        (fun W hb => miss1_any A A2 c c2 N M L P q W (w.heap.size + 1) w.heap.size (hB2.pass hb) (hA2.pass hb) (HTL.out.1.below (HB2.out.trans (hb.mono HB2.out.size)) (Nat.le_refl _)) HQ.out.1 HTL.out.2.2.2.2 (HTL.out.2.1.below (HB2.out.trans (hb.mono HB2.out.size)) (Nat.le_refl _)) HKM.out.2 (by rw [← HKM.out.2]; exact HQ.out.2) (HTL.out.2.2.1.below (HB2.out.trans (hb.mono HB2.out.size)) (Nat.le_refl _)) (HTL.out.2.2.2.1.below (HB2.out.trans (hb.mono HB2.out.size)) (Nat.le_refl _))))
      have hmf : ∀ (fn : Fn) (first cap : Array Value) (w : World), (Instr.makeFunc fn first cap).run Tryz.prog w = .ok (.func fn first cap) w := fun _ _ _ _ => rfl
      clear hk hb2 hq hA1 hB1 hR1 c0 c1 hA2 hB2
      go_wp2_with fail
      refine TT.out.mono ?_
      rintro e w3 ⟨⟨p1, p2, p3⟩, hs, he, hb3⟩
      simp only [pv] at he
      subst he
      have hR3 := hR2.pass hb3
      have HB3 := Lib.hid (HB2.out.trans (hb3.mono HB2.out.size))
      have HS := Lib.hid hs
      clear hb3 hs hR2
      obtain ⟨⟨r0, r1⟩, f0, f1⟩ := hR3.two
      go_wp2_with fail
      refine bodyPost_ret (results_ct (g := w.heap.size + 1 + 1) rfl rfl ((hR3.set 0 _).set 1 _) Tryz.underlying46 rfl (by kernel_rfl)) rfl ?_
      exact ⟨.inr ⟨N, q, (p1, p2, p3), H5.out, HQ.out, by simp [pv], HS.out⟩, (HB3.out.setCell (by simp; omega) _).setCell (by simp; omega) _⟩
    · have hR2 := hR1.pass hb2
      have HB2 := Lib.hid (HW1.out.trans (hb2.mono HW1.out.size))
      have HK := Lib.hid hk
      clear hk hb2 hA1 hB1 hR1 c0 c1
      obtain ⟨⟨r0, r1⟩, f0, f1⟩ := hR2.two
      go_wp2_with fail
      refine bodyPost_ret (results_ct (g := w.heap.size + 1 + 1) rfl rfl ((hR2.set 0 _).set 1 _) Tryz.underlying46 rfl (by kernel_rfl)) rfl ?_
      exact ⟨.inl ⟨by simp [pv], fun h => HK.out h.2⟩, (HB2.out.setCell (by simp; omega) _).setCell (by simp; omega) _⟩
end Go.Proofs.Cr
namespace Go.Proofs.Cr
open Go.RowKit Go.Shelf
attribute [local go_sem] Oper.semAt_some

/-- What the law DetectNames asks, answered one by one. -/
theorem halv2_N {N : Nat} (hc : CurveP (halvL 2) N) : N = 2 := by have := hc.len; rw [halvL_len] at this; omega
theorem ask_val {L : List Bd} {a b : ByteArray} {N M : Nat} {q p : Rat} (h : AskOK L a b N q) (k : AskOK L a b M p) : q = p := by
  have hf := h.2.1.1.fr
  rw [← h.2.2.1, ← h.2.2.2] at hf
  have hg := k.2.1.1.fr
  rw [← k.2.2.1, ← k.2.2.2] at hg
  exact hf.fun hg
theorem chance_lit (A : Option Addr) (c : Nat) (w : World) (a b rn rd : ByteArray) (q0 r0 : Rat) (hk : AskOK (halvL 2) a b 2 q0) (hR : ChanceR (halvL 2) 2 q0 r0) (hn : qN r0 = rn) (hd : qD r0 = rd)
    (hr : RdB w A (halvL 2)) (hc : 3 ≤ c) (hT : TabW w) (hZ : ZO w) :
    Calls Tryz.prog 28 #[.slice A 3 c, .agg #[.string a, .string b]] w fun e w' => e = .returned (.tuple #[.agg #[.string rn, .string rd], .int .i64 0]) ∧ Below w.heap.size w w' := by
  have h := Chance_any A c (halvL 2) a b w hr (by rw [halvL_len]; exact hc) hT hZ
  rw [halvL_len] at h
  refine h.mono ?_
  rintro e w' ⟨⟨_, h1⟩ | ⟨N, q, r, h1, rfl, h2, _⟩, hb⟩
  · exact (h1 _ _ hk).elim
  · have hN := halv2_N h1.1
    subst hN
    have hq := ask_val h1 hk
    subst hq
    have hr := chance_one h1.1 h2 hR
    subst hr
    rw [hn, hd]
    exact ⟨rfl, hb⟩
theorem slope_lit (A : Option Addr) (c : Nat) (w : World) (a b rn rd : ByteArray) (q0 r0 : Rat) (hk : AskOK (halvL 2) a b 2 q0) (hR : ∀ r, SlopeR (halvL 2) 2 q0 r → r = r0) (hn : qN r0 = rn) (hd : qD r0 = rd)
    (hr : RdB w A (halvL 2)) (hc : 3 ≤ c) (hT : TabW w) (hZ : ZO w) :
    Calls Tryz.prog 38 #[.slice A 3 c, .agg #[.string a, .string b]] w fun e w' => e = .returned (.tuple #[.agg #[.string rn, .string rd], .int .i64 0]) ∧ Below w.heap.size w w' := by
  have h := Slope_any A c (halvL 2) a b w hr (by rw [halvL_len]; exact hc) hT hZ
  rw [halvL_len] at h
  refine h.mono ?_
  rintro e w' ⟨⟨_, h1⟩ | ⟨N, q, r, h1, rfl, h2, _⟩, hb⟩
  · exact (h1 _ _ hk).elim
  · have hN := halv2_N h1.1
    subst hN
    have hq := ask_val h1 hk
    subst hq
    have hr := hR _ h2
    subst hr
    rw [hn, hd]
    exact ⟨rfl, hb⟩
theorem need_lit (A : Option Addr) (c : Nat) (w : World) (a b : ByteArray) (q0 : Rat) (hk : AskOK (halvL 2) a b 2 q0) (hq0 : 3 / 4 < q0)
    (hr : RdB w A (halvL 2)) (hc : 3 ≤ c) (hT : TabW w) (hZ : ZO w) :
    Calls Tryz.prog 32 #[.slice A 3 c, .agg #[.string a, .string b]] w fun e w' => e = .returned (.tuple #[.agg #[.string ⟨#[]⟩, .string ⟨#[]⟩], .int .i64 7]) ∧ Below w.heap.size w w' := by
  have h := Need_any A c (halvL 2) a b w hr (by rw [halvL_len]; exact hc) hT hZ
  rw [halvL_len] at h
  refine h.mono ?_
  rintro e w' ⟨⟨_, h1⟩ | ⟨N, q, h1, ⟨rfl, _⟩ | ⟨r, rfl, h3, _⟩⟩, hb⟩
  · exact (h1 _ _ hk).elim
  · exact ⟨rfl, hb⟩
  · have hN := halv2_N h1.1
    subst hN
    have hq := ask_val h1 hk
    subst hq
    rcases h3 with ⟨h3, _⟩ | ⟨i, hi, h4, h5, _⟩
    · rw [h3] at hq0; exact absurd hq0 (by decide +kernel)
    · have : i = 0 ∨ i = 1 := by omega
      rcases this with rfl | rfl
      · rw [halv2_y.2.1] at h5; grind
      · rw [halv2_y.2.2] at h5; grind
theorem small_fits (x y : Nat) (hx : x < 9223372036854775808) (hy : y < 9223372036854775808) : fits (mkRat x y) := mkRat_fits x y hx hy
theorem q11 : qN (mkRat 1 1) = ⟨#[49]⟩ ∧ qD (mkRat 1 1) = ⟨#[49]⟩ := ⟨by kernel_rfl, by kernel_rfl⟩
theorem ask11 : AskOK (halvL 2) ⟨#[49]⟩ ⟨#[49]⟩ 2 (mkRat 1 1) := ask_small _ _ 1 1 (by decide) (by decide) (by decide) (by kernel_rfl) (by kernel_rfl)
theorem ask12 : AskOK (halvL 2) ⟨#[49]⟩ ⟨#[50]⟩ 2 (mkRat 1 2) := ask_small _ _ 1 2 (by decide) (by decide) (by decide) (by kernel_rfl) (by kernel_rfl)
theorem ask71 : AskOK (halvL 2) ⟨#[55]⟩ ⟨#[49]⟩ 2 (mkRat 7 1) := ask_small _ _ 7 1 (by decide) (by decide) (by decide) (by kernel_rfl) (by kernel_rfl)
theorem ask21 : AskOK (halvL 2) ⟨#[50]⟩ ⟨#[49]⟩ 2 (mkRat 2 1) := ask_small _ _ 2 1 (by decide) (by decide) (by decide) (by kernel_rfl) (by kernel_rfl)
theorem ask45 : AskOK (halvL 2) ⟨#[52]⟩ ⟨#[53]⟩ 2 (mkRat 4 5) := ask_small _ _ 4 5 (by decide) (by decide) (by decide) (by kernel_rfl) (by kernel_rfl)
theorem q14 : qN (1 / 4) = ⟨#[49]⟩ ∧ qD (1 / 4) = ⟨#[52]⟩ := ⟨by kernel_rfl, by kernel_rfl⟩
theorem q34 : qN (3 / 4) = ⟨#[51]⟩ ∧ qD (3 / 4) = ⟨#[52]⟩ := ⟨by kernel_rfl, by kernel_rfl⟩
theorem q12 : qN (1 / 2) = ⟨#[49]⟩ ∧ qD (1 / 2) = ⟨#[50]⟩ := ⟨by kernel_rfl, by kernel_rfl⟩
theorem q01 : qN 0 = ⟨#[48]⟩ ∧ qD 0 = ⟨#[49]⟩ := ⟨by kernel_rfl, by kernel_rfl⟩
theorem ch12 : ChanceR (halvL 2) 2 (mkRat 1 2) (1 / 4) := .inl ⟨0, by decide, by rw [halv2_x.1]; decide +kernel, by rw [halv2_x.2.1]; decide +kernel, by rw [lineQ_eq, halv2_sl.1, halv2_x.1, halv2_y.1]; decide +kernel⟩
theorem ch71 : ChanceR (halvL 2) 2 (mkRat 7 1) (3 / 4) := .inr ⟨by rw [halv2_x.2.2]; decide +kernel, halv2_y.2.2.symm⟩
theorem ch11 : ChanceR (halvL 2) 2 (mkRat 1 1) (1 / 2) := .inl ⟨1, by decide, by rw [halv2_x.2.1]; decide +kernel, by rw [halv2_x.2.2]; decide +kernel, by rw [lineQ_eq, halv2_sl.2, halv2_x.2.1, halv2_y.2.1]; decide +kernel⟩
theorem sl12 (r : Rat) (h : SlopeR (halvL 2) 2 (mkRat 1 2) r) : r = 1 / 2 := by
  rcases h with ⟨i, hi, h1, h2, rfl⟩ | ⟨h1, rfl⟩
  · have : i = 0 ∨ i = 1 := by omega
    rcases this with rfl | rfl
    · exact halv2_sl.1
    · rw [halv2_x.2.1] at h1; exact absurd h1 (by decide +kernel)
  · rw [halv2_x.2.2] at h1; exact absurd h1 (by decide +kernel)
theorem sl11 (r : Rat) (h : SlopeR (halvL 2) 2 (mkRat 1 1) r) : r = 1 / 4 := by
  rcases h with ⟨i, hi, h1, h2, rfl⟩ | ⟨h1, rfl⟩
  · have : i = 0 ∨ i = 1 := by omega
    rcases this with rfl | rfl
    · rw [halv2_x.2.1] at h2; exact absurd h2 (by decide +kernel)
    · exact halv2_sl.2
  · rw [halv2_x.2.2] at h1; exact absurd h1 (by decide +kernel)
theorem sl21 (r : Rat) (h : SlopeR (halvL 2) 2 (mkRat 2 1) r) : r = 0 := by
  rcases h with ⟨i, hi, h1, h2, rfl⟩ | ⟨h1, rfl⟩
  · have : i = 0 ∨ i = 1 := by omega
    rcases this with rfl | rfl
    · rw [halv2_x.2.1] at h2; exact absurd h2 (by decide +kernel)
    · rw [halv2_x.2.2] at h2; exact absurd h2 (by decide +kernel)
  · rfl
/-- A fraction as the laws write it. -/
theorem of_lit (x y : Nat) (hx : x < 9223372036854775808) (hy : y < 9223372036854775808) (h0 : 0 < y) (n d : ByteArray) (hn : qN (mkRat x y) = n) (hd : qD (mkRat x y) = d) (w : World) (hT : TabW w) :
    Calls Tryz.prog 30 #[.int .i64 (x : Int), .int .i64 (y : Int)] w fun e w' => e = .returned (.agg #[.string n, .string d]) ∧ Below w.heap.size w w' := by
  have h := lawOf_any x y hx hy h0 w hT
  rw [hn, hd] at h
  exact h
/-- Two steps of coverage one each. -/
def twoP : List (ByteArray × ByteArray) := [(⟨#[49]⟩, ⟨#[49]⟩), (⟨#[49]⟩, ⟨#[49]⟩)]
theorem askM11 : AskM (halvL 2) twoP 2 (fun _ => mkRat 1 1) := by
  refine ⟨halv2_curve, fun k hk => ⟨⟨ask11.2.1.1, ask11.2.1.2⟩, ?_⟩⟩
  have h2 : k < 2 := hk
  have : k = 0 ∨ k = 1 := by omega
  rcases this with rfl | rfl <;> exact Prod.ext ask11.2.2.1 ask11.2.2.2
theorem twoP_reads {W : World} {g : Nat} {t : TypeId} (h : Blk W g #[.string ⟨#[49]⟩, .string ⟨#[49]⟩, .string ⟨#[49]⟩, .string ⟨#[49]⟩] t) : RdP W (some ⟨g, 0, none⟩) twoP := by
  refine ⟨by decide, fun _ => ⟨g, 0, rfl, h.lt, fun j hj => ?_⟩⟩
  match j, hj with
  | 0, _ => exact ⟨h.cell 0, h.cell 1⟩
  | 1, _ => exact ⟨h.cell 2, h.cell 3⟩
theorem miss_step {L : List Bd} {N k : Nat} {q : Nat → Rat} {o : Rat} (h : MissR L N q (k + 1) o) : ∃ p r, MissR L N q k p ∧ ChanceR L N (q k) r ∧ o = p * (1 - r) := h
theorem miss_nil {L : List Bd} {N : Nat} {q : Nat → Rat} {o : Rat} (h : MissR L N q 0 o) : o = 1 := h
theorem miss_1 {q : Nat → Rat} {o : Rat} (hq : ∀ k r, k < 2 → ChanceR (halvL 2) 2 (q k) r → r = 1 / 2) (h : MissR (halvL 2) 2 q 1 o) : o = 1 / 2 := by
  obtain ⟨p, r, hp, hr, ho⟩ := miss_step (k := 0) h
  rw [ho, miss_nil hp, hq 0 r (by decide) hr]
  decide +kernel
theorem miss_2 {q : Nat → Rat} {o : Rat} (hq : ∀ k r, k < 2 → ChanceR (halvL 2) 2 (q k) r → r = 1 / 2) (h : MissR (halvL 2) 2 q 2 o) : o = 1 / 4 := by
  obtain ⟨p, r, hp, hr, ho⟩ := miss_step (k := 1) h
  rw [ho, miss_1 hq hp, hq 1 r (by decide) hr]
  decide +kernel
theorem miss_two {q : Nat → Rat} (hq : ∀ k, k < 2 → q k = mkRat 1 1) : ∀ k r, k < 2 → ChanceR (halvL 2) 2 (q k) r → r = 1 / 2 := fun k r hk hr => by
  rw [hq k hk] at hr
  exact chance_one halv2_curve hr ch11
theorem miss_lit (A A2 : Option Addr) (c c2 : Nat) (w : World) (hr : RdB w A (halvL 2)) (hc : 3 ≤ c) (hp : RdP w A2 twoP) (hT : TabW w) (hZ : ZO w) :
    Calls Tryz.prog 42 #[.slice A 3 c, .slice A2 2 c2] w fun e w' => e = .returned (.tuple #[.agg #[.string ⟨#[49]⟩, .string ⟨#[52]⟩], .int .i64 0]) ∧ Below w.heap.size w w' := by
  have h := Miss_any A A2 c c2 (halvL 2) twoP w hr (by rw [halvL_len]; exact hc) hp hT hZ
  rw [halvL_len] at h
  refine h.mono ?_
  have hsh : shortL 300 twoP = true := by
    unfold shortL
    kernel_rfl
  rintro e w' ⟨⟨_, h1⟩ | ⟨N, q, p, h1, h2, rfl, h3⟩, hb⟩
  · exact (h1 ⟨by decide, ⟨2, halv2_curve⟩, hsh⟩).elim
  · have hN := halv2_N h2.1
    subst hN
    have hq : ∀ k, k < 2 → q k = mkRat 1 1 := fun k hk => by
      have h4 := h2.2 k hk
      have h5 := askM11.2 k hk
      have hf := h4.1.1.fr
      have hg := h5.1.1.fr
      have he := h4.2.symm.trans h5.2
      rw [(Prod.mk.inj he).1, (Prod.mk.inj he).2] at hf
      exact hf.fun hg
    rcases h3 with ⟨o, rfl, h4, _⟩ | ⟨rfl, k, o, hk, h4, h5⟩
    · rw [miss_2 (miss_two hq) h4, q14.1, q14.2]
      exact ⟨rfl, hb⟩
    · exfalso
      have hk2 : k < 2 := hk
      have : k = 0 ∨ k = 1 := by omega
      rcases this with rfl | rfl
      · rw [miss_1 (miss_two hq) h4] at h5
        exact h5 (by rw [show (1 / 2 : Rat) = mkRat (1 : Nat) 2 by decide +kernel]; exact small_fits 1 2 (by decide) (by decide))
      · rw [miss_2 (miss_two hq) h4] at h5
        exact h5 (by rw [show (1 / 4 : Rat) = mkRat (1 : Nat) 4 by decide +kernel]; exact small_fits 1 4 (by decide) (by decide))
/-- A curve that is not concave. -/
def badL : List Bd := [⟨⟨#[48]⟩, ⟨#[49]⟩, ⟨#[48]⟩, ⟨#[49]⟩⟩, ⟨⟨#[49]⟩, ⟨#[49]⟩, ⟨#[49]⟩, ⟨#[52]⟩⟩, ⟨⟨#[50]⟩, ⟨#[49]⟩, ⟨#[51]⟩, ⟨#[52]⟩⟩]
theorem fr_lit (x y : Nat) (hx : x < 9223372036854775808) (hy : y < 9223372036854775808) (n d : ByteArray) (hn : n = qN (mkRat x y)) (hd : d = qD (mkRat x y)) : qv n d = mkRat x y := by
  have h := ratio_fr x y hx hy
  rw [hn, hd]
  exact h.qv
theorem bad_no (N : Nat) : ¬ CurveP badL N := by
  intro h
  have hN : N = 2 := by have := h.len; have e : badL.length = 3 := rfl; omega
  subst hN
  have hc := h.cc 0 (by decide)
  have x0 : qx badL 0 = mkRat (0 : Nat) 1 := fr_lit 0 1 (by decide) (by decide) _ _ (by kernel_rfl) (by kernel_rfl)
  have y0 : qy badL 0 = mkRat (0 : Nat) 1 := fr_lit 0 1 (by decide) (by decide) _ _ (by kernel_rfl) (by kernel_rfl)
  have x1 : qx badL 1 = mkRat (1 : Nat) 1 := fr_lit 1 1 (by decide) (by decide) _ _ (by kernel_rfl) (by kernel_rfl)
  have y1 : qy badL 1 = mkRat (1 : Nat) 4 := fr_lit 1 4 (by decide) (by decide) _ _ (by kernel_rfl) (by kernel_rfl)
  have x2 : qx badL 2 = mkRat (2 : Nat) 1 := fr_lit 2 1 (by decide) (by decide) _ _ (by kernel_rfl) (by kernel_rfl)
  have y2 : qy badL 2 = mkRat (3 : Nat) 4 := fr_lit 3 4 (by decide) (by decide) _ _ (by kernel_rfl) (by kernel_rfl)
  unfold slq at hc
  rw [show 0 + 1 = 1 from rfl, show 1 + 1 = 2 from rfl, x0, x1, x2, y0, y1, y2] at hc
  exact absurd hc (by decide +kernel)
theorem badL_reads {W : World} {g : Nat} {t : TypeId} (h : Blk W g #[.string ⟨#[48]⟩, .string ⟨#[49]⟩, .string ⟨#[48]⟩, .string ⟨#[49]⟩, .string ⟨#[49]⟩, .string ⟨#[49]⟩, .string ⟨#[49]⟩, .string ⟨#[52]⟩, .string ⟨#[50]⟩, .string ⟨#[49]⟩, .string ⟨#[51]⟩, .string ⟨#[52]⟩] t) : RdB W (some ⟨g, 0, none⟩) badL := by
  refine ⟨by decide, fun _ => ⟨g, 0, rfl, h.lt, fun j hj => ?_⟩⟩
  match j, hj with
  | 0, _ => exact ⟨⟨h.cell 0, h.cell 1⟩, h.cell 2, h.cell 3⟩
  | 1, _ => exact ⟨⟨h.cell 4, h.cell 5⟩, h.cell 6, h.cell 7⟩
  | 2, _ => exact ⟨⟨h.cell 8, h.cell 9⟩, h.cell 10, h.cell 11⟩
theorem bad_lit (A : Option Addr) (c : Nat) (w : World) (hr : RdB w A badL) (hc : 3 ≤ c) (hT : TabW w) (hZ : ZO w) :
    Calls Tryz.prog 22 #[.slice A 3 c] w fun e w' => e = .returned (.int .i64 2) ∧ Below w.heap.size w w' := by
  refine (checkCurve_any A c badL w hr hc hT hZ).mono ?_
  rintro e w' ⟨⟨_, N, h⟩ | ⟨h, _⟩, hb⟩
  · exact (bad_no N h).elim
  · exact ⟨h, hb⟩
/-- Tables. -/
def oneL : List Sg := [⟨1, 2, 0, 3, 800⟩]
theorem oneL_width {p : Int × Int} (h : WidthR oneL (1, 2, 0) 6 p) : p = (0, 7) := by
  have hT : TableP oneL := ⟨by decide, fun k hk => by
    have : k = 0 := by have : k < 1 := hk; omega
    subst this
    exact ⟨by decide, fun j hj => by omega⟩⟩
  exact width_one h (.inr ⟨hT, .inl ⟨by decide, rfl⟩⟩)
theorem oneL_reads {W : World} {g : Nat} {t : TypeId} (h : Blk W g #[.int .i64 1, .int .i64 2, .int .i64 0, .int .i64 3, .int .i64 800] t) : RdS W (some ⟨g, 0, none⟩) oneL := by
  refine ⟨by decide, fun _ => ⟨g, 0, rfl, h.lt, fun j hj => ?_⟩⟩
  match j, hj with
  | 0, _ => exact ⟨⟨⟨h.cell 0, h.cell 1⟩, h.cell 2, h.cell 3⟩, h.cell 4⟩
def badT : List Sg := [⟨0, 0, 0, 1, 5⟩, ⟨0, 0, 0, 2, 6⟩]
theorem badT_no : ¬ TableP badT := fun h => by
  have h2 := (h.2 1 (by decide)).2 0 (by decide) rfl
  exact absurd h2 (by decide)
theorem badT_reads {W : World} {g : Nat} {t : TypeId} (h : Blk W g #[.int .i64 0, .int .i64 0, .int .i64 0, .int .i64 1, .int .i64 5, .int .i64 0, .int .i64 0, .int .i64 0, .int .i64 2, .int .i64 6] t) : RdS W (some ⟨g, 0, none⟩) badT := by
  refine ⟨by decide, fun _ => ⟨g, 0, rfl, h.lt, fun j hj => ?_⟩⟩
  match j, hj with
  | 0, _ => exact ⟨⟨⟨h.cell 0, h.cell 1⟩, h.cell 2, h.cell 3⟩, h.cell 4⟩
  | 1, _ => exact ⟨⟨⟨h.cell 5, h.cell 6⟩, h.cell 7, h.cell 8⟩, h.cell 9⟩
theorem badT_lit (A : Option Addr) (c : Nat) (w : World) (hr : RdS w A badT) : Calls Tryz.prog 17 #[.slice A 2 c] w fun e w' => e = .returned (.int .i64 2) ∧ Below w.heap.size w w' := by
  refine (CheckTable_any A c badT w hr).mono ?_
  rintro e w' ⟨⟨_, h⟩ | ⟨h, _⟩, hb⟩
  · exact (badT_no h).elim
  · exact ⟨h, hb⟩
theorem oneL_lit (A : Option Addr) (c : Nat) (w : World) (hr : RdS w A oneL) : Calls Tryz.prog 15 #[.slice A 1 c, .int .i64 1, .int .i64 2, .int .i64 0, .int .i64 6] w fun e w' => e = .returned (.tuple #[.int .i64 0, .int .i64 7]) ∧ Below w.heap.size w w' := by
  refine (Width_any A c oneL 1 2 0 6 w hr).mono ?_
  rintro e w' ⟨⟨p, rfl, h⟩, hb⟩
  obtain rfl := oneL_width h
  exact ⟨rfl, hb⟩
/-- The coverage of the chapter. -/
theorem cover_lit (w : World) (hT : TabW w) : Calls Tryz.prog 33 #[.int .i64 1000, .int .i64 5000, .int .i64 3600, .int .i64 36000000] w fun e w' => e = .returned (.tuple #[.agg #[.string ⟨#[49]⟩, .string ⟨#[50]⟩], .int .i64 0]) ∧ Below w.heap.size w w' := by
  refine (Cover_any 1000 5000 3600 36000000 w hT).mono ?_
  rintro e w' ⟨rfl, hb⟩
  refine ⟨?_, hb⟩
  rw [show coverS 1000 5000 3600 36000000 = (⟨#[49]⟩, ⟨#[50]⟩, 0) by kernel_rfl]
  rfl
end Go.Proofs.Cr
