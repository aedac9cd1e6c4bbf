/- Contracts of functions that the laws reach, and plain lemmas. Part 17. -/
import Derived.Test.YtolofiiolinnoaaGreatDoorC13
import Derived.Test.YtolofiiolinnoaaGreatDoorC16
set_option linter.all false
namespace Go.Proofs.Cr
open Go.RowKit Go.Shelf
attribute [local go_sem] Oper.semAt_some

def bigB (x : Bd) : Bool := decide (30 < max (max x.cn.size x.cd.size) (max x.hn.size x.hd.size))
/-- Has a curve longer numbers than statements look at? -/
def greatB (L : List Bd) : Bool := decide (66 < L.length) || anyN (fun k => bigB (L.getD k .zero)) L.length
set_option maxRecDepth 100000 in
set_option maxHeartbeats 4000000 in
theorem great_any (A : Option Addr) (c : Nat) (L : List Bd) (w : World) (hr : RdB w A L) :
    Calls Tryz.prog 19 #[.slice A L.length c] w fun e w' => e = .returned (.bool (greatB L)) ∧ Below w.heap.size w w' := by
  obtain ⟨hl9, hr⟩ := hr
  have HR := Lib.hid hr
  by_cases h66 : 66 < L.length
  · have HG : Hid (greatB L = true) := Lib.hid (by simp [greatB, h66])
    rw [HG.out]
    have h66' : (66 : Int) < (L.length : Int) := by omega
    generalize L.length = N at *
    clear h66 hr
    go_enter Tryz.func19, Tryz.ntmps19
    go_wp2
    go_ret
    exact ⟨rfl, Below.refl _ _⟩
  · have HG : Hid (greatB L = anyN (fun k => bigB (L.getD k .zero)) L.length) := Lib.hid (by simp [greatB, h66])
    rw [HG.out]
    obtain ⟨h, hh⟩ : ∃ h : Nat → Bool, h = (fun k => bigB (L.getD k .zero)) := ⟨_, rfl⟩
    rw [← hh]
    have HH := Lib.hid hh
    obtain ⟨N, hN⟩ : ∃ N, L.length = N := ⟨_, rfl⟩
    rw [hN] at hl9 h66 ⊢
    have HN := Lib.hid hN
    have h66' : ¬ (66 : Int) < (N : Int) := by omega
    clear hr hN hh HG
    have hm : Tryz.prog.follows .mixedOrders = true := by kernel_rfl
    have hfnR : ∀ f, Fence.wide.fn f := fun _ => trivial
    go_enter Tryz.func19, Tryz.ntmps19
    go_wp2
    go_loopw [3] (fun i wr => ∃ k : Nat, k ≤ N ∧ i = .int .i64 (k : Int) ∧ Below w.heap.size w wr ∧ Hid (anyN h k = false))
      (fun i _ => (N - intOf i).toNat)
    case atStart => exact ⟨0, Nat.zero_le _, by simp, Below.refl _ _, Lib.hid rfl⟩
    case round =>
      obtain ⟨k, hk, rfl, hB, hA⟩ := hrel
      have HB := Lib.hid hB
      by_cases hlt : k < N
      · obtain ⟨b, off, rfl, hb, hcs⟩ := HR.out (by have := HN.out; omega)
        have hcx := hcs k (by have := HN.out; omega)
        have hhk : h k = bigB (L.getD k .zero) := by rw [HH.out]
        generalize L.getD k .zero = x at hcx hhk
        obtain ⟨x1, x2, x3, x4⟩ := x
        have kc : ∀ {p v}, w.cell? p = some v → p.block < w.heap.size → wr.drew.cell? p = some v := fun hv hp => (HB.out.cell hp).trans hv
        have q := (And.intro (And.intro (kc hcx.1.1 hb) (kc hcx.1.2 hb)) (And.intro (kc hcx.2.1 hb) (kc hcx.2.2 hb)))
        obtain ⟨mx, hmx⟩ : ∃ mx : Int, mx = max (x1.size : Int) (max (x2.size : Int) (max (x3.size : Int) (x4.size : Int))) := ⟨_, rfl⟩
        have hbig : h k = decide (30 < mx) := by
          rw [hhk, hmx]; unfold bigB; simp only [decide_eq_decide]; omega
        have HBIG := Lib.hid hbig
        have HMX := Lib.hid hmx
        clear hcs hB hcx hhk kc hbig hmx
        have hN9 : (k : Int) < (N : Int) := by omega
        go_wp2_with fail
        refine wp_region_J (fun W => ((W.cell? ⟨b, off + k * 4, none⟩ = some (.string x1) ∧ W.cell? ⟨b, off + k * 4 + 1, none⟩ = some (.string x2)) ∧ (W.cell? ⟨b, off + k * 4 + 2, none⟩ = some (.string x3) ∧ W.cell? ⟨b, off + k * 4 + 3, none⟩ = some (.string x4)))) [] hm ?hCells0 (fun hCells => ?_)
        case hCells0 => exact q
        clear q
        refine takeB hfnR (by kernel_rfl) 0 (v := ?_) rfl (by kernel_rfl) (fun _ _ _ h => h) (by kernel_rfl) hCells (Or.inl ⟨by rfl, ?_⟩) ?_
        rotate_left 1
        · intro w hSw; (try dsimp only at hSw); go_simp; (try with_reducible rfl)
        try simp only [Act.put, List.setIfInBounds_toArray, List.set_cons_zero, List.set_cons_succ]
        refine takeB hfnR (by kernel_rfl) 1 (v := ?_) rfl (by kernel_rfl) (fun _ _ _ h => h) (by kernel_rfl) hCells (Or.inl ⟨by rfl, ?_⟩) ?_
        rotate_left 1
        · intro w hSw; (try dsimp only at hSw); go_simp; (try with_reducible rfl)
        try simp only [Act.put, List.setIfInBounds_toArray, List.set_cons_zero, List.set_cons_succ]
        refine takeB hfnR (by kernel_rfl) 2 (v := ?_) rfl (by kernel_rfl) (fun _ _ _ h => h) (by kernel_rfl) hCells (Or.inl ⟨by rfl, ?_⟩) ?_
        rotate_left 1
        · intro w hSw; (try dsimp only at hSw); go_simp; (try with_reducible rfl)
        try simp only [Act.put, List.setIfInBounds_toArray, List.set_cons_zero, List.set_cons_succ]
        refine takeB hfnR (by kernel_rfl) 3 (v := ?_) rfl (by kernel_rfl) (fun _ _ _ h => h) (by kernel_rfl) hCells (Or.inl ⟨by rfl, ?_⟩) ?_
        rotate_left 1
        · intro w hSw; (try dsimp only at hSw); go_simp; (try with_reducible rfl)
        try simp only [Act.put, List.setIfInBounds_toArray, List.set_cons_zero, List.set_cons_succ]
        refine takeB hfnR (by kernel_rfl) 4 (v := ?_) rfl (by kernel_rfl) (fun _ _ _ h => h) (by kernel_rfl) hCells (Or.inl ⟨by rfl, ?_⟩) ?_
        rotate_left 1
        · intro w hSw; (try dsimp only at hSw); go_simp; (try with_reducible rfl)
        try simp only [Act.put, List.setIfInBounds_toArray, List.set_cons_zero, List.set_cons_succ]
        refine takeB hfnR (by kernel_rfl) 5 (v := ?_) rfl (by kernel_rfl) (fun _ _ _ h => h) (by kernel_rfl) hCells (Or.inl ⟨by rfl, ?_⟩) ?_
        rotate_left 1
        · intro w hSw; (try dsimp only at hSw); go_simp; (try with_reducible rfl)
        try simp only [Act.put, List.setIfInBounds_toArray, List.set_cons_zero, List.set_cons_succ]
        refine takeB hfnR (by kernel_rfl) 6 (v := ?_) rfl (by kernel_rfl) (fun _ _ _ h => h) (by kernel_rfl) hCells (Or.inl ⟨by rfl, ?_⟩) ?_
        rotate_left 1
        · intro w hSw; (try dsimp only at hSw); go_simp; (try with_reducible rfl)
        try simp only [Act.put, List.setIfInBounds_toArray, List.set_cons_zero, List.set_cons_succ]
        refine takeB hfnR (by kernel_rfl) 7 (v := ?_) rfl (by kernel_rfl) (fun _ _ _ h => h) (by kernel_rfl) hCells (Or.inl ⟨by rfl, ?_⟩) ?_
        rotate_left 1
        · intro w hSw; (try dsimp only at hSw); go_simp; (try with_reducible rfl)
        try simp only [Act.put, List.setIfInBounds_toArray, List.set_cons_zero, List.set_cons_succ]
        refine takeB hfnR (by kernel_rfl) 8 (v := ?_) rfl (by kernel_rfl) (fun _ _ _ h => h) (by kernel_rfl) hCells (Or.inl ⟨by rfl, ?_⟩) ?_
        rotate_left 1
        · intro w hSw; (try dsimp only at hSw); go_simp; (try with_reducible rfl)
        try simp only [Act.put, List.setIfInBounds_toArray, List.set_cons_zero, List.set_cons_succ]
        refine takeB hfnR (by kernel_rfl) 9 (v := ?_) rfl (by kernel_rfl) (fun _ _ _ h => h) (by kernel_rfl) hCells (Or.inl ⟨by rfl, ?_⟩) ?_
        rotate_left 1
        · intro w hSw; (try dsimp only at hSw); go_simp; (try with_reducible rfl)
        try simp only [Act.put, List.setIfInBounds_toArray, List.set_cons_zero, List.set_cons_succ]
        refine takeB hfnR (by kernel_rfl) 10 (v := ?_) rfl (by kernel_rfl) (fun _ _ _ h => h) (by kernel_rfl) hCells (Or.inl ⟨by rfl, ?_⟩) ?_
        rotate_left 1
        · intro w hSw; (try dsimp only at hSw); go_simp; (try with_reducible rfl)
        try simp only [Act.put, List.setIfInBounds_toArray, List.set_cons_zero, List.set_cons_succ]
        refine takeB hfnR (by kernel_rfl) 11 (v := ?_) rfl (by kernel_rfl) (fun _ _ _ h => h) (by kernel_rfl) hCells (Or.inl ⟨by rfl, ?_⟩) ?_
        rotate_left 1
        · intro w hSw; (try dsimp only at hSw); go_simp; (try with_reducible rfl)
        try simp only [Act.put, List.setIfInBounds_toArray, List.set_cons_zero, List.set_cons_succ]
        refine takeB hfnR (by kernel_rfl) 12 (v := ?_) rfl (by kernel_rfl) (fun _ _ _ h => h) (by kernel_rfl) hCells (Or.inl ⟨by rfl, ?_⟩) ?_
        rotate_left 1
        · intro w hSw; (try dsimp only at hSw); go_simp; (try with_reducible rfl)
        try simp only [Act.put, List.setIfInBounds_toArray, List.set_cons_zero, List.set_cons_succ]
        refine takeB hfnR (by kernel_rfl) 13 (v := ?_) rfl (by kernel_rfl) (fun _ _ _ h => h) (by kernel_rfl) hCells (Or.inl ⟨by rfl, ?_⟩) ?_
        rotate_left 1
        · intro w hSw; (try dsimp only at hSw); go_simp; (try with_reducible rfl)
        try simp only [Act.put, List.setIfInBounds_toArray, List.set_cons_zero, List.set_cons_succ]
        refine takeB hfnR (by kernel_rfl) 14 (v := ?_) rfl (by kernel_rfl) (fun _ _ _ h => h) (by kernel_rfl) hCells (Or.inl ⟨by rfl, ?_⟩) ?_
        rotate_left 1
        · intro w hSw; (try dsimp only at hSw); go_simp; (try with_reducible rfl)
        try simp only [Act.put, List.setIfInBounds_toArray, List.set_cons_zero, List.set_cons_succ]
        refine takeB hfnR (by kernel_rfl) 15 (v := ?_) rfl (by kernel_rfl) (fun _ _ _ h => h) (by kernel_rfl) hCells (Or.inl ⟨by rfl, ?_⟩) ?_
        rotate_left 1
        · intro w hSw; (try dsimp only at hSw); go_simp; (try with_reducible rfl)
        try simp only [Act.put, List.setIfInBounds_toArray, List.set_cons_zero, List.set_cons_succ]
        refine takeB hfnR (by kernel_rfl) 16 (v := ?_) rfl (by kernel_rfl) (fun _ _ _ h => h) (by kernel_rfl) hCells (Or.inl ⟨by rfl, ?_⟩) ?_
        rotate_left 1
        · intro w hSw; (try dsimp only at hSw); go_simp; (try with_reducible rfl)
        try simp only [Act.put, List.setIfInBounds_toArray, List.set_cons_zero, List.set_cons_succ]
        refine takeB hfnR (by kernel_rfl) 17 (v := ?_) rfl (by kernel_rfl) (fun _ _ _ h => h) (by kernel_rfl) hCells (Or.inl ⟨by rfl, ?_⟩) ?_
        rotate_left 1
        · intro w hSw; (try dsimp only at hSw); go_simp; (try with_reducible rfl)
        try simp only [Act.put, List.setIfInBounds_toArray, List.set_cons_zero, List.set_cons_succ]
        refine takeB hfnR (by kernel_rfl) 18 (v := ?_) rfl (by kernel_rfl) (fun _ _ _ h => h) (by kernel_rfl) hCells (Or.inl ⟨by rfl, ?_⟩) ?_
        rotate_left 1
        · intro w hSw; (try dsimp only at hSw); go_simp; (try with_reducible rfl)
        try simp only [Act.put, List.setIfInBounds_toArray, List.set_cons_zero, List.set_cons_succ]
        refine takeB hfnR (by kernel_rfl) 19 (v := ?_) rfl (by kernel_rfl) (fun _ _ _ h => h) (by kernel_rfl) hCells (Or.inl ⟨by rfl, ?_⟩) ?_
        rotate_left 1
        · intro w hSw; (try dsimp only at hSw); go_simp; (try with_reducible rfl)
        try simp only [Act.put, List.setIfInBounds_toArray, List.set_cons_zero, List.set_cons_succ]
        refine takeB hfnR (by kernel_rfl) 20 (v := ?_) rfl (by kernel_rfl) (fun _ _ _ h => h) (by kernel_rfl) hCells (Or.inl ⟨by rfl, ?_⟩) ?_
        rotate_left 1
        · intro w hSw; (try dsimp only at hSw); go_simp; (try with_reducible rfl)
        try simp only [Act.put, List.setIfInBounds_toArray, List.set_cons_zero, List.set_cons_succ]
        refine takeB hfnR (by kernel_rfl) 21 (v := ?_) rfl (by kernel_rfl) (fun _ _ _ h => h) (by kernel_rfl) hCells (Or.inl ⟨by rfl, ?_⟩) ?_
        rotate_left 1
        · intro w hSw; (try dsimp only at hSw); go_simp; (try with_reducible rfl)
        try simp only [Act.put, List.setIfInBounds_toArray, List.set_cons_zero, List.set_cons_succ]
        refine takeB hfnR (by kernel_rfl) 22 (v := ?_) rfl (by kernel_rfl) (fun _ _ _ h => h) (by kernel_rfl) hCells (Or.inl ⟨by rfl, ?_⟩) ?_
        rotate_left 1
        · intro w hSw; (try dsimp only at hSw); go_simp; (try with_reducible rfl)
        try simp only [Act.put, List.setIfInBounds_toArray, List.set_cons_zero, List.set_cons_succ]
        refine takeB hfnR (by kernel_rfl) 23 (v := ?_) rfl (by kernel_rfl) (fun _ _ _ h => h) (by kernel_rfl) hCells (Or.inl ⟨by rfl, ?_⟩) ?_
        rotate_left 1
        · intro w hSw; (try dsimp only at hSw); go_simp; (try with_reducible rfl)
        try simp only [Act.put, List.setIfInBounds_toArray, List.set_cons_zero, List.set_cons_succ]
        refine takeB hfnR (by kernel_rfl) 24 (v := ?_) rfl (by kernel_rfl) (fun _ _ _ h => h) (by kernel_rfl) hCells (Or.inl ⟨by rfl, ?_⟩) ?_
        rotate_left 1
        · intro w hSw; (try dsimp only at hSw); go_simp; (try with_reducible rfl)
        try simp only [Act.put, List.setIfInBounds_toArray, List.set_cons_zero, List.set_cons_succ]
        refine takeB hfnR (by kernel_rfl) 25 (v := ?_) rfl (by kernel_rfl) (fun _ _ _ h => h) (by kernel_rfl) hCells (Or.inl ⟨by rfl, ?_⟩) ?_
        rotate_left 1
        · intro w hSw; (try dsimp only at hSw); go_simp; (try with_reducible rfl)
        try simp only [Act.put, List.setIfInBounds_toArray, List.set_cons_zero, List.set_cons_succ]
        refine takeB hfnR (by kernel_rfl) 26 (v := ?_) rfl (by kernel_rfl) (fun _ _ _ h => h) (by kernel_rfl) hCells (Or.inl ⟨by rfl, ?_⟩) ?_
        rotate_left 1
        · intro w hSw; (try dsimp only at hSw); go_simp; (try with_reducible rfl)
        try simp only [Act.put, List.setIfInBounds_toArray, List.set_cons_zero, List.set_cons_succ]
        refine takeB hfnR (by kernel_rfl) 27 (v := ?_) rfl (by kernel_rfl) (fun _ _ _ h => h) (by kernel_rfl) hCells (Or.inl ⟨by rfl, ?_⟩) ?_
        rotate_left 1
        · intro w hSw; (try dsimp only at hSw); go_simp; (try with_reducible rfl)
        try simp only [Act.put, List.setIfInBounds_toArray, List.set_cons_zero, List.set_cons_succ]
        refine takeB hfnR (by kernel_rfl) 28 (v := ?_) rfl (by kernel_rfl) (fun _ _ _ h => h) (by kernel_rfl) hCells (Or.inl ⟨by rfl, ?_⟩) ?_
        rotate_left 1
        · intro w hSw; (try dsimp only at hSw); go_simp; (try with_reducible rfl)
        try simp only [Act.put, List.setIfInBounds_toArray, List.set_cons_zero, List.set_cons_succ]
        refine takeB hfnR (by kernel_rfl) 29 (v := ?_) rfl (by kernel_rfl) (fun _ _ _ h => h) (by kernel_rfl) hCells (Or.inl ⟨by rfl, ?_⟩) ?_
        rotate_left 1
        · intro w hSw; (try dsimp only at hSw); go_simp; (try with_reducible rfl)
        try simp only [Act.put, List.setIfInBounds_toArray, List.set_cons_zero, List.set_cons_succ]
        refine takeB hfnR (by kernel_rfl) 30 (v := ?_) rfl (by kernel_rfl) (fun _ _ _ h => h) (by kernel_rfl) hCells (Or.inl ⟨by rfl, ?_⟩) ?_
        rotate_left 1
        · intro w hSw; (try dsimp only at hSw); go_simp; (try with_reducible rfl)
        try simp only [Act.put, List.setIfInBounds_toArray, List.set_cons_zero, List.set_cons_succ]
        refine takeB hfnR (by kernel_rfl) 31 (v := ?_) rfl (by kernel_rfl) (fun _ _ _ h => h) (by kernel_rfl) hCells (Or.inl ⟨by rfl, ?_⟩) ?_
        rotate_left 1
        · intro w hSw; (try dsimp only at hSw); go_simp; (try with_reducible rfl)
        try simp only [Act.put, List.setIfInBounds_toArray, List.set_cons_zero, List.set_cons_succ]
        refine wpAnyJ_done (by kernel_rfl) (NoPan.normal ?_) _
        rw [← HMX.out]
        clear hCells
        have HB2 := Lib.hid (show Below w.heap.size w wr.drew from HB.out.drew)
        by_cases c1 : 30 < mx
        · have HT : Hid (h k = true) := Lib.hid (by rw [HBIG.out]; simp [c1])
          go_wp2_with fail
          go_ret
          exact ⟨by rw [anyN_true hlt HT.out]; rfl, HB2.out⟩
        · have HT : Hid (h k = false) := Lib.hid (by rw [HBIG.out]; simp [c1])
          go_wp2_with fail
          go_roundw
          case rel =>
            have hk1 : k + 1 ≤ N := hlt
            exact ⟨k + 1, hk1, by simp, HB2.out, Lib.hid (by rw [anyN_succ, hA.out, HT.out]; rfl)⟩
          case measure =>
            simp [intOf]
            omega
      · have hkk : k = N := by omega
        subst hkk
        clear hB
        go_wp2_with fail
        go_ret
        exact ⟨by rw [hA.out]; rfl, HB.out⟩
end Go.Proofs.Cr
namespace Go.Proofs.Cr
open Go.RowKit Go.Shelf
attribute [local go_sem] Oper.semAt_some

set_option maxRecDepth 100000 in
theorem great_long (A : Option Addr) (c N : Nat) (h : 66 < N) (w : World) : Calls Tryz.prog 19 #[.slice A N c] w fun e w' => e = .returned (.bool true) ∧ Below w.heap.size w w' := by
  have h66' : (66 : Int) < (N : Int) := by omega
  clear h
  go_enter Tryz.func19, Tryz.ntmps19
  go_wp2
  go_ret
  exact ⟨rfl, Below.refl _ _⟩
/-- 'Great' of whatever curve. -/
theorem great_all (A : Option Addr) (c : Nat) (L : List Bd) (w : World) (hr : L.length ≤ 66 → RdB w A L) : Calls Tryz.prog 19 #[.slice A L.length c] w fun e w' => (∃ b, e = .returned (.bool b) ∧ (b = false → L.length ≤ 66 ∧ greatB L = false)) ∧ Below w.heap.size w w' := by
  by_cases h : 66 < L.length
  · exact (great_long A c L.length h w).mono fun e w' h2 => ⟨⟨true, h2.1, fun h3 => by cases h3⟩, h2.2⟩
  · exact (great_any A c L w (hr (by omega))).mono fun e w' h2 => ⟨⟨greatB L, h2.1, fun h3 => ⟨by omega, h3⟩⟩, h2.2⟩
/-- What the laws' questions stand on. -/
def EnvL (A : Option Addr) (c : Nat) (L : List Bd) (N : Nat) (W : World) : Prop := (RdB W A L ∧ L.length ≤ c) ∧ (TabW W ∧ ZO W) ∧ CurveP L N
theorem EnvL.pass {A : Option Addr} {c : Nat} {L : List Bd} {N : Nat} {W W' : World} (h : EnvL A c L N W) (hb : Below W.heap.size W W') : EnvL A c L N W' :=
  ⟨⟨h.1.1.below hb (Nat.le_refl _), h.1.2⟩, ⟨h.2.1.1.below hb (Nat.le_refl _), h.2.1.2.below hb (Nat.le_refl _)⟩, h.2.2⟩
theorem EnvL.alloc {A : Option Addr} {c : Nat} {L : List Bd} {N : Nat} {W : World} (h : EnvL A c L N W) (o : Obj) : EnvL A c L N (W.alloc o) := h.pass (below_alloc W o)
theorem curve_one {L : List Bd} {N M : Nat} (h : CurveP L N) (k : CurveP L M) : N = M := by have := h.len; have := k.len; omega
theorem ask_q {L : List Bd} {N : Nat} {q : Rat} (h : CurveP L N) (hq : okQ q) (hs : sm 300 q) : AskOK L (qN q) (qD q) N q := ⟨h, ⟨hq, hs⟩, rfl, rfl⟩
theorem ask_same {L : List Bd} {N M : Nat} {p q : Rat} (h : AskOK L (qN q) (qD q) M p) (k : CurveP L N) (hq : okQ q) : M = N ∧ p = q := by
  refine ⟨curve_one h.1 k, ?_⟩
  have h1 := h.2.1.1.fr
  rw [← h.2.2.1, ← h.2.2.2] at h1
  exact h1.fun hq.fr
/-- A number's result, in memory's terms. -/
def GotR (p : Rat → Prop) (w : World) (e : Ending) (w' : World) : Prop := ∃ r, (e = .returned (.tuple #[.agg #[.string (qN r), .string (qD r)], .int .i64 0]) ∧ p r ∧ okQ r) ∧ Below w.heap.size w w'
theorem got_r {q : Rat} {w : World} {e : Ending} {w' : World} (hq : okQ q) (h : GotQ q w e w') : GotR (fun r => r = q) w e w' := ⟨q, ⟨h.1, rfl, hq⟩, h.2⟩
theorem Chance_q {A : Option Addr} {c : Nat} {L : List Bd} {N : Nat} {W : World} (h : EnvL A c L N W) (q : Rat) (hq : okQ q) (hs : sm 300 q) :
    Calls Tryz.prog 28 #[.slice A L.length c, .agg #[.string (qN q), .string (qD q)]] W (GotR (ChanceR L N q) W) := by
  refine (Chance_any A c L (qN q) (qD q) W h.1.1 h.1.2 h.2.1.1 h.2.1.2).mono ?_
  rintro e w' ⟨⟨_, h1⟩ | ⟨M, p, r, h1, he, h2, h3⟩, hb⟩
  · exact (h1 _ _ (ask_q h.2.2 hq hs)).elim
  · obtain ⟨rfl, rfl⟩ := ask_same h1 h.2.2 hq
    exact ⟨r, ⟨he, h2, h3⟩, hb⟩
theorem Slope_q {A : Option Addr} {c : Nat} {L : List Bd} {N : Nat} {W : World} (h : EnvL A c L N W) (q : Rat) (hq : okQ q) (hs : sm 300 q) :
    Calls Tryz.prog 38 #[.slice A L.length c, .agg #[.string (qN q), .string (qD q)]] W (GotR (SlopeR L N q) W) := by
  refine (Slope_any A c L (qN q) (qD q) W h.1.1 h.1.2 h.2.1.1 h.2.1.2).mono ?_
  rintro e w' ⟨⟨_, h1⟩ | ⟨M, p, r, h1, he, h2, h3⟩, hb⟩
  · exact (h1 _ _ (ask_q h.2.2 hq hs)).elim
  · obtain ⟨rfl, rfl⟩ := ask_same h1 h.2.2 hq
    exact ⟨r, ⟨he, h2, h3⟩, hb⟩
/-- The size of a chance. -/
theorem chance_sm {L : List Bd} {N k : Nat} {q r : Rat} (h : CurveP L N) (hq0 : 0 ≤ q) (hs : sm k q) (hr : ChanceR L N q r) : sm (k + 109) r := by
  rcases hr with ⟨i, hi, h1, h2, rfl⟩ | ⟨_, rfl⟩
  · have hrr := rise_ok (h.sh i (by omega)) (h.sh (i + 1) (by omega)) (h.up i hi).1 (h.up i hi).2
    obtain ⟨⟨f1, s1⟩, f2, s2⟩ := shortB_fr (h.sh i (by omega))
    obtain ⟨⟨f3, s3⟩, f4, s4⟩ := shortB_fr (h.sh (i + 1) (by omega))
    have m1 : sm 36 (qy L (i + 1) - qy L i) := sm.sub s4 s2 f4.1 f2.1
    have m2 : sm 36 (qx L (i + 1) - qx L i) := sm.sub s3 s1 f3.1 f1.1
    have m3 : sm 72 ((qy L (i + 1) - qy L i) / (qx L (i + 1) - qx L i)) := sm.div m1 m2 hrr.s2.1 hrr.n2
    have m4 : sm (k + 18) (q - qx L i) := sm.sub hs s1 hq0 f1.1
    have d4 : 0 ≤ q - qx L i := by grind
    have m5 : sm (72 + (k + 18)) ((qy L (i + 1) - qy L i) / (qx L (i + 1) - qx L i) * (q - qx L i)) := sm.mul m3 m4
    have d5 : 0 ≤ (qy L (i + 1) - qy L i) / (qx L (i + 1) - qx L i) * (q - qx L i) := Rat.mul_nonneg hrr.s3.1 d4
    have m6 : sm (18 + (72 + (k + 18)) + 1) (qy L i + (qy L (i + 1) - qy L i) / (qx L (i + 1) - qx L i) * (q - qx L i)) := sm.add s2 m5 f2.1 d5
    exact m6.mono (by omega)
  · obtain ⟨_, f2, s2⟩ := shortB_fr (h.sh N (Nat.le_refl _))
    exact s2.mono (by omega)
theorem slope_sm {L : List Bd} {N : Nat} {q r : Rat} (h : CurveP L N) (hr : SlopeR L N q r) : sm 72 r := by
  rcases hr with ⟨i, hi, h1, h2, rfl⟩ | ⟨_, rfl⟩
  · have hrr := rise_ok (h.sh i (by omega)) (h.sh (i + 1) (by omega)) (h.up i hi).1 (h.up i hi).2
    obtain ⟨⟨f1, s1⟩, f2, s2⟩ := shortB_fr (h.sh i (by omega))
    obtain ⟨⟨f3, s3⟩, f4, s4⟩ := shortB_fr (h.sh (i + 1) (by omega))
    have m1 : sm 36 (qy L (i + 1) - qy L i) := sm.sub s4 s2 f4.1 f2.1
    have m2 : sm 36 (qx L (i + 1) - qx L i) := sm.sub s3 s1 f3.1 f1.1
    exact sm.div m1 m2 hrr.s2.1 hrr.n2
  · exact ⟨Nat.pow_pos (by decide), by rw [show (0 : Rat).den = 1 from rfl]; exact Nat.one_lt_pow (by decide) (by decide)⟩
/-- A valid fraction of few bytes. -/
theorem few_fr {d : Nat} {a b : ByteArray} (h1 : a.size ≤ d) (h2 : b.size ≤ d) (h3 : chk a b = true) : ∃ q, okQ q ∧ sm d q ∧ a = qN q ∧ b = qD q := by
  obtain ⟨f, s⟩ := short_fr (d := d) (a := a) (b := b) (by unfold shortP; simp [h1, h2, h3])
  exact ⟨_, f.ok.1, s, f.ok.2.1, f.ok.2.2⟩
theorem few_two {d : Nat} {a b e f : ByteArray} (h : fewL d [(a, b), (e, f)] = true) : (a.size ≤ d ∧ b.size ≤ d) ∧ e.size ≤ d ∧ f.size ≤ d := by
  simp [fewL, anyN, List.range_succ] at h
  omega
theorem few_one {d : Nat} {a b : ByteArray} (h : fewL d [(a, b)] = true) : a.size ≤ d ∧ b.size ≤ d := by
  simp [fewL, anyN, List.range_succ] at h
  omega
theorem half_ok : okQ (mkRat 1 2) ∧ sm 19 (mkRat 1 2) := ⟨(ratio_fr 1 2 (by decide) (by decide)).ok.1, sm_ratio 1 2 (by decide) (by decide) (by decide)⟩
theorem half_eq : mkRat 1 2 = (1 : Rat) / 2 := by decide +kernel
theorem half_pos : 0 ≤ mkRat 1 2 := half_ok.1.1
theorem cmp_notgt {p q : Rat} (h : p ≤ q) : cmpQ p q ≤ 0 := Int.not_lt.1 (cmpQ_le (Rat.not_lt.2 h))
end Go.Proofs.Cr
