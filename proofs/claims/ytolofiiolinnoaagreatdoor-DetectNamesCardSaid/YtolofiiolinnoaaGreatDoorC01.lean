/- Contracts of functions that the laws reach, and plain lemmas. Part 1. -/
import Derived.RangeFuncNested
import Derived.RangeFuncBound
import Derived.RangeFuncCalls
import Derived.RangeFuncLeaves
import Derived.Shelf.Abstract
import Derived.Shelf.RegionOpen
import Derived.WalkKit
import Derived.OwnWalkIn
import Derived.TacticsInMore
import Derived.LoopNIn
import Derived.LoopIn
import Derived.Lib.ItoaNum
import Derived.WalkSpells
import Derived.WalkLawsBesides
import Derived.Lib.Hide
import Derived.Laws.CopyOwn
import Derived.Test.YtolofiiolinnoaaGreatDoorProg
import Derived.Deep.OwnRows
set_option linter.all false
/- A range over a function: the iterator's contract says its items by their number; it may write cells of its own. -/
namespace Go.Proofs.Cr
open Go Go.RowKit

variable {F : Fence} {n : Nat} {P : Program}

/-- A fence that asks nothing. -/
structure Wide (F : Fence) : Prop where
  fn : ∀ f, F.fn f
  ro : F.round = none
  tr : ∀ {n : Nat} {P : Program} {f : FuncId} {args : Array Value} {w : World} {R : Ending → World → Prop}, Calls P f args w R → CallsIn F n P f args w R
theorem wide_wide : Wide Fence.wide := ⟨fun _ => trivial, rfl, fun h => callsIn_wide.2 h⟩

/-- I abides new blocks and writes to the iterator's own cells (the blocks C). -/
def StabJ (C : Nat → Prop) (J : Nat → World → Prop) : Prop :=
  ∀ s W W' row, J s W → W.grownBy W' row → (∀ r, row = some r → C r) → J s W'
/-- And the turns of the loop's own book-keeping from B on. -/
def StabI (B : Nat) (C : Nat → Prop) (I : Nat → World → Prop) : Prop :=
  ∀ s W W' row, I s W → W.grownBy W' row → (∀ r, row = some r → C r ∨ (B ≤ r ∧ ∃ o : Obj, W.heap[r]? = some o ∧ o.isCells = false)) → I s W'
theorem StabI.putObj {B : Nat} {C : Nat → Prop} {I : Nat → World → Prop} (h : StabI B C I) {s : Nat} {W : World} {l : Nat} {o : Obj} (o' : Obj) (hs : I s W) (hB : B ≤ l) (hl : W.heap[l]? = some o) (ho : o.isCells = false) : I s (W.putObj l o') :=
  h s W _ (some l) hs (grownBy_putObj' W l o') (fun r e => by cases e; exact .inr ⟨hB, o, hl, ho⟩)
theorem StabI.alloc {B : Nat} {C : Nat → Prop} {I : Nat → World → Prop} (h : StabI B C I) {s : Nat} {W : World} (o : Obj) (hs : I s W) : I s (W.alloc o) :=
  h s W _ none hs (World.grownBy_alloc W o _) (fun r e => by cases e)

/-- A variable: its value; it is not frozen. -/
def VarIs (W : World) (b : Nat) (v : Value) : Prop := W.cell? ⟨b, 0, none⟩ = some v ∧ W.frozen? ⟨b, 0, none⟩ = false
theorem VarIs.lt {W : World} {b : Nat} {v : Value} (h : VarIs W b v) : b < W.heap.size := World.block_lt_of_cell? W ⟨b, 0, none⟩ h.1
theorem VarIs.of_block {W W' : World} {b : Nat} {v : Value} (h : VarIs W b v) (e : W'.heap[b]? = W.heap[b]?) : VarIs W' b v :=
  ⟨(World.cell?_of_block (w := W) (a := ⟨b, 0, none⟩) e).trans h.1, (World.frozen?_of_block (w := W) (a := ⟨b, 0, none⟩) e).trans h.2⟩
theorem VarIs.below {W W' : World} {b n : Nat} {v : Value} (h : VarIs W b v) (hb : Below n W W') (hn : b < n) : VarIs W' b v := h.of_block (hb.block b hn)
theorem VarIs.new (W : World) (v : Value) (t : TypeId) : VarIs (W.alloc (.cells #[v] t)) W.heap.size v := by
  constructor
  · show (match (W.alloc (.cells #[v] t)).heap[W.heap.size]? with | some (.cells c _ _) => if (none : Option Nat).isSome then none else c[0]? | _ => none) = _
    rw [heap_alloc_new]; rfl
  · show (match (W.alloc (.cells #[v] t)).heap[W.heap.size]? with | some (.cells _ _ (lo, hi)) => decide (lo ≤ 0) && decide (0 < hi) | _ => false) = _
    rw [heap_alloc_new]; rfl
theorem VarIs.alloc {W : World} {b : Nat} {v : Value} (h : VarIs W b v) (o : Obj) : VarIs (W.alloc o) b v := h.of_block (Below.heap_alloc W o b h.lt)
theorem VarIs.drew {W : World} {b : Nat} {v : Value} (h : VarIs W b v) : VarIs W.drew b v := h
theorem VarIs.set {W : World} {b : Nat} {v : Value} (h : VarIs W b v) (u : Value) : VarIs (W.setCell ⟨b, 0, none⟩ u) b u :=
  ⟨World.cell?_setCell_same' _ _ _ (by rw [h.1]; rfl), by rw [World.frozen?_setCell]; exact h.2⟩
theorem VarIs.far {W : World} {b : Nat} {v : Value} (h : VarIs W b v) {p : Addr} (hp : b ≠ p.block) (u : Value) : VarIs (W.setCell p u) b v := h.of_block (Below.heap_setCell W p u b hp)
theorem VarIs.is_cells {W : World} {b : Nat} {v : Value} (h : VarIs W b v) {o : Obj} (ho : W.heap[b]? = some o) : o.isCells = true := by
  have := h.1
  unfold World.cell? at this
  rw [ho] at this
  cases o <;> simp_all [Obj.isCells]
/-- The iterator's contract. -/
def SeqK (F : Fence) (n : Nat) (P : Program) (g : Nat) (lb : Array Value) (items : Nat → Array Value) (N : Nat) (C : Nat → Prop) (Kp : World → World → Prop) (w : World) : Prop :=
  ∀ (l : Nat) (J Jx : Nat → World → Prop) (W : World), Below w.heap.size w W → StabJ C J → StabJ C Jx →
    (∀ k W1, k < N → J k W1 → YieldAt F (n - 1) P l (items k) W1 fun e W' =>
      (e = .returned (.bool true) ∧ J (k + 1) W' ∧ Kp W1 W') ∨ (e = .returned (.bool false) ∧ Jx (k + 1) W')) →
    J 0 W →
    CallsIn F n P g (#[.func (.yield l) #[] #[]] ++ lb) W fun e W' => (∃ v, e = .returned v) ∧ (J N W' ∨ ∃ k, k ≤ N ∧ Jx k W')

/-- How the body of a round may be left. -/
def roundP (B : Nat) (Kp : World → World → Prop) (I : Nat → World → Prop) (Ix : Code → Nat → World → Prop) (k : Nat) (W : World) : Exit → Act → World → Prop
  | .normal, _, W' => KeepsFrom B W W' ∧ Kp W W' ∧ I (k + 1) W'
  | .ret, _, W' => KeepsFrom B W W' ∧ Ix .ret (k + 1) W'
  | .exit id, _, W' => KeepsFrom B W W' ∧ Ix (.exit id) (k + 1) W'
  | .goto t, _, W' => KeepsFrom B W W' ∧ Ix (.goto t) (k + 1) W'
  | .panic _, _, _ => False
  | .outgrown, _, _ => False

theorem wpIn_range {g : Operand} {ps : Array Tmp} {assign body : Code} {Q : Exit → Act → World → Prop} {a : Act} {w : World}
    (hW : Wide F) (h1 : 1 ≤ n) {gf : Nat} {lb : Array Value} (hg : a.eval g = .func (.func gf) #[] lb) (eg : ∀ args w, (callFunc gf args).run P w = .ok (.enter gf args) w)
    {items : Nat → Array Value} {N : Nat} {C : Nat → Prop} {Kp : World → World → Prop} {w0 : World} (hseq : SeqK F (n - 1) P gf lb items N C Kp w0)
    (hC : ∀ r, C r → r < w.heap.size) (hKt : ∀ {A B C : World}, Kp A B → Kp B C → Kp A C) (hKb : ∀ (W : World) (l : Nat) (o o' : Obj), w.heap.size ≤ l → W.heap[l]? = some o → o.isCells = false → Kp W (W.putObj l o')) (hb0 : Below w0.heap.size w0 w) (hps : ∀ k, (items k).size = ps.size)
    (I : Nat → World → Prop) (Ix : Code → Nat → World → Prop) (hI : StabI w.heap.size C I) (hIx : ∀ c, StabI w.heap.size C (Ix c)) (h0 : I 0 w)
    (hround : ∀ (l k : Nat) (W : World), k < N → I k W → assign.wpIn (F.inRound l) (n - 1 - 1) P (Exit.then (fun a' W' => KeepsFrom w.heap.size W W' ∧ Kp W W' ∧ I k W' ∧
        ∀ W2, I k W2 → W'.heap.size ≤ W2.heap.size → (∀ b v, VarIs W' b v → VarIs W2 b v) → body.wpIn (F.inRound l) (n - 1 - 1) P (roundP w.heap.size Kp I Ix k W2) a' W2) (fun _ _ _ => False))
      { tmps := (ps.zip (items k)).foldl (fun t (p, v) => t.setIfInBounds p v) a.tmps, defers := [] } W)
    (hdone : ∀ (D : Nat) (W : World), w.heap.size ≤ D → I N W → W.heap[D]? = some (.deferred (some [])) → Q .normal { a with defers := { target := .collected D, args := #[] } :: a.defers } W)
    (hstop : ∀ (D : Nat) (c : Code) (k : Nat) (W : World), w.heap.size ≤ D → k ≤ N → Ix c k W → W.heap[D]? = some (.deferred (some [])) → c.wpIn F n P Q { a with defers := { target := .collected D, args := #[] } :: a.defers } W) :
    (Code.rangeFunc g ps assign body).wpIn F n P Q a w := by
  refine wpIn_rangeFunc ?_
  intro fn hfn
  rw [hW.ro]
  obtain ⟨rec, hrec⟩ : ∃ rec : LoopState → Option Code → Loop, rec = fun st pe => { state := st, pending := pe, fn, tmps := a.tmps, params := ps, assign, body, defers := w.heap.size } := ⟨_, rfl⟩
  obtain ⟨W1, hW1⟩ : ∃ W1, (w.alloc (.deferred (some []))).alloc (.loop (rec .ready none)) = W1 := ⟨_, rfl⟩
  have hL1 : W1.heap[w.heap.size + 1]? = some (.loop (rec .ready none)) := by
    rw [← hW1]; have := World.alloc_heap_new (w.alloc (.deferred (some []))) (.loop (rec .ready none)); rwa [World.size_alloc] at this
  have hK1 : W1.heap[w.heap.size]? = some (.deferred (some [])) := by
    rw [← hW1]; exact (Below.heap_alloc _ _ _ (by simp)).trans (World.alloc_heap_new w _)
  have hI1 : I 0 W1 := by rw [← hW1]; exact hI.alloc _ (hI.alloc _ h0)
  have hb1 : Below w0.heap.size w0 W1 := by
    rw [← hW1]; exact hb0.trans ((((Below.refl _ w).alloc (Nat.le_refl _) _).alloc (by simp) _).mono hb0.size)
  refine ⟨w.heap.size + 1, [{ target := .collected w.heap.size, args := #[] }], W1, { target := .fn (.func gf) lb, args := #[.func (.yield (w.heap.size + 1)) #[] #[]] }, W1, gf,
    #[.func (.yield (w.heap.size + 1)) #[] #[]] ++ lb, W1, ?_, ?_, ?_, ?_, fun _ => h1, ?_⟩
  · rw [← hW1, hrec]; exact run_enterLoop_outer _ _ _ _ _
  · simp only [resolve, hg]
    simp [go_sem]
  · intro f' hf'; exact hW.fn f'
  · simp [invoke, go_sem, eg]
  · have hne : ∀ {A B : World} {row : Option Nat} {k : Nat} {o : Obj}, A.grownBy B row → (∀ r, row = some r → C r) → w.heap.size ≤ k → A.heap[k]? = some o → B.heap[k]? = some o := fun {A B row k o} hg hr hk ho => by
      rw [hg.block k (Array.getElem?_eq_some_iff.1 ho).1 (fun e => by have := hC k (hr k e.symm); omega)]; exact ho
    have hst : ∀ {G : Nat → World → Prop}, StabI w.heap.size C G → ∀ (o1 o2 : Obj), StabJ C (fun k W => G k W ∧ W.heap[w.heap.size + 1]? = some o1 ∧ W.heap[w.heap.size]? = some o2) := fun hG o1 o2 s A B row hs hg' hr =>
      ⟨hG s A B row hs.1 hg' (fun r e => .inl (hr r e)), hne hg' hr (by omega) hs.2.1, hne hg' hr (Nat.le_refl _) hs.2.2⟩
    refine (hseq (w.heap.size + 1)
      (fun k W => I k W ∧ W.heap[w.heap.size + 1]? = some (.loop (rec .ready none)) ∧ W.heap[w.heap.size]? = some (.deferred (some [])))
      (fun k W => ∃ c, Ix c k W ∧ W.heap[w.heap.size + 1]? = some (.loop (rec .done (some c))) ∧ W.heap[w.heap.size]? = some (.deferred (some [])))
      W1 hb1 (hst hI _ _)
      (fun s A B row hs hg' hr => by
        obtain ⟨c, hs⟩ := hs
        exact ⟨c, hst (hIx c) _ _ s A B row hs hg' hr⟩)
      ?_ ⟨hI1, hL1, hK1⟩).mono ?_
    · rintro k W hkN ⟨hi, hl, hk⟩
      have hlt : w.heap.size + 1 < W.heap.size := (Array.getElem?_eq_some_iff.1 hl).1
      have hy := run_yield (P := P) (args := items k) hl (by rw [hrec]; exact hps k)
      rw [hrec] at hy
      refine ⟨fn, _, assign, body, hy, roundIn_of_wpIn hfn (wpIn_mono (hround (w.heap.size + 1) k W hkN hi) ?_)⟩
      intro ea a' Wa hea
      cases ea with
      | ret => exact hea.elim
      | exit id => exact hea.elim
      | goto t => exact hea.elim
      | panic ch => exact hea.elim
      | outgrown => exact hea.elim
      | normal =>
      obtain ⟨hka, hkpa, hia, hbody⟩ := hea
      have hla := hka.same _ _ (by omega) hl rfl
      have hda := hka.same _ _ (Nat.le_refl _) hk rfl
      have hlta : w.heap.size + 1 < Wa.heap.size := (Array.getElem?_eq_some_iff.1 hla).1
      refine ⟨_, run_beginRound hla (by rw [hrec]), ?_⟩
      have hl2 : (Wa.putObj (w.heap.size + 1) (.loop { rec .ready none with state := .busy })).heap[w.heap.size + 1]? = some (.loop { rec .ready none with state := .busy }) := World.putObj_heap_same hlta
      have hk2 : (Wa.putObj (w.heap.size + 1) (.loop { rec .ready none with state := .busy })).heap[w.heap.size]? = some (.deferred (some [])) := (World.putObj_heap_other (by omega)).trans hda
      have hw2 : Kp W (Wa.putObj (w.heap.size + 1) (.loop { rec .ready none with state := .busy })) := hKt hkpa (hKb _ _ _ _ (by omega) hla rfl)
      refine wpIn_mono (hbody _ (hI.putObj _ hia (by omega) hla rfl) (by simp) (fun b v hv => hv.of_block (World.putObj_heap_other (fun e => by subst e; have := hv.is_cells hla; cases this)))) ?_
      have fin : ∀ (jump : Option Code) (W3 : World), KeepsFrom w.heap.size (Wa.putObj (w.heap.size + 1) (.loop { rec .ready none with state := .busy })) W3 →
          (Instr.endRound (w.heap.size + 1) jump).run P W3 = .ok (.bool jump.isNone) (W3.putObj (w.heap.size + 1) (.loop (rec (if jump.isNone then .ready else .done) jump))) ∧
          W3.heap[w.heap.size + 1]? = some (.loop { rec .ready none with state := .busy }) ∧
          (W3.putObj (w.heap.size + 1) (.loop (rec (if jump.isNone then .ready else .done) jump))).heap[w.heap.size + 1]? = some (.loop (rec (if jump.isNone then .ready else .done) jump)) ∧
          (W3.putObj (w.heap.size + 1) (.loop (rec (if jump.isNone then .ready else .done) jump))).heap[w.heap.size]? = some (.deferred (some [])) := fun jump W3 hk3 => by
        have hl3 := hk3.same _ _ (by omega) hl2 rfl
        have := run_endRound (P := P) jump hl3
        rw [hrec] at this ⊢
        exact ⟨this, by rw [hrec] at hl3; exact hl3, World.putObj_heap_same (Array.getElem?_eq_some_iff.1 hl3).1, (World.putObj_heap_other (by omega)).trans (hk3.same _ _ (Nat.le_refl _) hk2 rfl)⟩
      rintro e a3 W3 hp
      cases e with
      | normal =>
        obtain ⟨hk3, hkp3, hi3⟩ := hp
        obtain ⟨hr, hl3, hl4, hk4⟩ := fin none W3 hk3
        exact ⟨_, _, hr, .inl ⟨rfl, ⟨hI.putObj _ hi3 (by omega) hl3 rfl, hl4, hk4⟩, hKt (hKt hw2 hkp3) (hKb _ _ _ _ (by omega) hl3 rfl)⟩⟩
      | ret =>
        obtain ⟨hk3, hi3⟩ := hp
        obtain ⟨hr, hl3, hl4, hk4⟩ := fin (some .ret) W3 hk3
        exact ⟨_, _, hr, .inr ⟨rfl, .ret, (hIx _).putObj _ hi3 (by omega) hl3 rfl, hl4, hk4⟩⟩
      | exit id =>
        obtain ⟨hk3, hi3⟩ := hp
        obtain ⟨hr, hl3, hl4, hk4⟩ := fin (some (.exit id)) W3 hk3
        exact ⟨_, _, hr, .inr ⟨rfl, .exit id, (hIx _).putObj _ hi3 (by omega) hl3 rfl, hl4, hk4⟩⟩
      | goto t =>
        obtain ⟨hk3, hi3⟩ := hp
        obtain ⟨hr, hl3, hl4, hk4⟩ := fin (some (.goto t)) W3 hk3
        exact ⟨_, _, hr, .inr ⟨rfl, .goto t, (hIx _).putObj _ hi3 (by omega) hl3 rfl, hl4, hk4⟩⟩
      | panic ch => exact hp.elim
      | outgrown => exact hp.elim
    · rintro e W2 ⟨⟨v, rfl⟩, (⟨hi, hl, hk⟩ | ⟨k, hkN, c, hi, hl, hk⟩)⟩
      · exact ⟨none, _, by have := run_endLoop (P := P) hl (by rw [hrec]; simp); rw [hrec] at this; exact this, hdone _ _ (Nat.le_refl _) (hI.putObj _ hi (by omega) hl rfl) ((World.putObj_heap_other (by omega)).trans hk)⟩
      · exact ⟨some c, _, by have := run_endLoop (P := P) hl (by rw [hrec]; simp); rw [hrec] at this; exact this, hstop _ c k _ (Nat.le_refl _) hkN ((hIx c).putObj _ hi (by omega) hl rfl) ((World.putObj_heap_other (by omega)).trans hk)⟩
end Go.Proofs.Cr
namespace Go.Proofs.Cr
open Go Go.RowKit
section
variable {B : Nat} {C : Nat → Prop}
theorem StabI.and {I J : Nat → World → Prop} (h : StabI B C I) (k : StabI B C J) : StabI B C (fun s W => I s W ∧ J s W) :=
  fun s W W' row hs hg hr => ⟨h s W W' row hs.1 hg hr, k s W W' row hs.2 hg hr⟩
theorem stabI_pure (p : Nat → Prop) : StabI B C (fun s _ => p s) := fun _ _ _ _ hs _ _ => hs
theorem stabI_ex {α : Type} {I : α → Nat → World → Prop} (h : ∀ a, StabI B C (I a)) : StabI B C (fun s W => ∃ a, I a s W) :=
  fun s W W' row hs hg hr => let ⟨a, ha⟩ := hs; ⟨a, h a s W W' row ha hg hr⟩
theorem stabI_false : StabI B C (fun _ _ => False) := fun _ _ _ _ hs _ _ => hs
theorem stabI_var {b : Nat} {v : Nat → Value} (hc : ¬ C b) : StabI B C (fun s W => VarIs W b (v s)) := fun s W W' row hs hg hr => by
  refine hs.of_block (hg.block b hs.lt (fun e => ?_))
  rcases hr b e.symm with h | ⟨_, o, ho, hn⟩
  · exact hc h
  · rw [hs.is_cells ho] at hn; cases hn
theorem stabI_below {n : Nat} {w : World} (hn : n ≤ B) (hw : n ≤ w.heap.size) (hC : ∀ r, C r → n ≤ r) : StabI B C (fun _ W => Below n w W) := fun s W W' row hs hg hr => by
  refine hs.grown hg (by have := hs.size; omega) (fun k e => ?_)
  rcases hr k e with h | ⟨h, _⟩
  · exact hC k h
  · omega
end
end Go.Proofs.Cr
/- Plain arithmetic of natural numbers in limbs, the lowest first: values, normal forms, comparison. -/
namespace Go.Proofs.Cr

/-- The value of limbs, the lowest first. -/
def val (B : Nat) : List Nat → Nat
  | [] => 0
  | x :: xs => x + B * val B xs

def Bnd (B : Nat) (xs : List Nat) : Prop := ∀ x ∈ xs, x < B

/-- The limbs without zeros at the end. -/
def trimN : List Nat → List Nat
  | [] => []
  | x :: xs => if trimN xs = [] ∧ x = 0 then [] else x :: trimN xs

def limbsF (B : Nat) : Nat → Nat → List Nat
  | 0, _ => []
  | f + 1, n => if n = 0 then [] else (n % B) :: limbsF B f (n / B)
/-- The limbs of a number: no zeros at the end. -/
def limbs (B n : Nat) : List Nat := limbsF B n n

theorem val_nil (B : Nat) : val B [] = 0 := rfl
theorem val_cons (B x : Nat) (xs : List Nat) : val B (x :: xs) = x + B * val B xs := rfl
theorem val_append (B : Nat) (xs ys : List Nat) : val B (xs ++ ys) = val B xs + B ^ xs.length * val B ys := by
  induction xs with
  | nil => simp [val]
  | cons x xs ih => simp only [List.cons_append, val, ih, List.length_cons, Nat.pow_succ]; grind
theorem val_single (B x : Nat) : val B [x] = x := by simp [val]
theorem val_snoc (B : Nat) (xs : List Nat) (x : Nat) : val B (xs ++ [x]) = val B xs + B ^ xs.length * x := by
  rw [val_append, val_single]
theorem val_take_succ (B : Nat) (xs : List Nat) (i : Nat) (h : i < xs.length) : val B (xs.take (i + 1)) = val B (xs.take i) + B ^ i * xs.getD i 0 := by
  rw [List.take_succ_eq_append_getElem h, val_snoc, List.length_take, Nat.min_eq_left (by omega)]
  simp [List.getD_eq_getElem?_getD, h]
theorem val_take_drop (B : Nat) (xs : List Nat) (i : Nat) (h : i ≤ xs.length) : val B xs = val B (xs.take i) + B ^ i * val B (xs.drop i) := by
  conv => lhs; rw [← List.take_append_drop i xs]
  rw [val_append, List.length_take, Nat.min_eq_left h]
theorem val_drop (B : Nat) (xs : List Nat) (i : Nat) (h : i < xs.length) : val B (xs.drop i) = xs.getD i 0 + B * val B (xs.drop (i + 1)) := by
  rw [List.drop_eq_getElem_cons h, val_cons]
  simp [List.getD_eq_getElem?_getD, h]
theorem val_replicate (B n : Nat) : val B (List.replicate n 0) = 0 := by
  induction n with
  | zero => rfl
  | succ n ih => simp [List.replicate_succ, val, ih]

theorem Bnd.nil (B : Nat) : Bnd B [] := by intro x h; cases h
theorem Bnd.cons {B x : Nat} {xs : List Nat} (h : x < B) (h' : Bnd B xs) : Bnd B (x :: xs) := by
  intro y hy
  rcases List.mem_cons.1 hy with rfl | hy
  · exact h
  · exact h' y hy
theorem Bnd.append {B : Nat} {xs ys : List Nat} (h : Bnd B xs) (h' : Bnd B ys) : Bnd B (xs ++ ys) := by
  intro y hy
  rcases List.mem_append.1 hy with hy | hy
  · exact h y hy
  · exact h' y hy
theorem Bnd.snoc {B : Nat} {xs : List Nat} {x : Nat} (h : Bnd B xs) (h' : x < B) : Bnd B (xs ++ [x]) := h.append (.cons h' (.nil B))
theorem Bnd.take {B : Nat} {xs : List Nat} (h : Bnd B xs) (i : Nat) : Bnd B (xs.take i) := fun x hx => h x (List.mem_of_mem_take hx)
theorem Bnd.drop {B : Nat} {xs : List Nat} (h : Bnd B xs) (i : Nat) : Bnd B (xs.drop i) := fun x hx => h x (List.mem_of_mem_drop hx)
theorem Bnd.getD {B : Nat} {xs : List Nat} (h : Bnd B xs) (hB : 0 < B) (i : Nat) : xs.getD i 0 < B := by
  rw [List.getD_eq_getElem?_getD]
  by_cases hi : i < xs.length
  · simp [hi]; exact h _ (List.getElem_mem hi)
  · simp [Nat.not_lt.1 hi]; exact hB
theorem Bnd.set {B : Nat} {xs : List Nat} (h : Bnd B xs) (i : Nat) {x : Nat} (hx : x < B) : Bnd B (xs.set i x) := by
  intro y hy
  rcases List.mem_or_eq_of_mem_set hy with hy | rfl
  · exact h y hy
  · exact hx
theorem Bnd.replicate {B : Nat} (hB : 0 < B) (n : Nat) : Bnd B (List.replicate n 0) := by
  intro y hy
  rw [(List.mem_replicate.1 hy).2]; exact hB
theorem Bnd.tail {B x : Nat} {xs : List Nat} (h : Bnd B (x :: xs)) : Bnd B xs := fun y hy => h y (List.mem_cons_of_mem _ hy)
theorem Bnd.head {B x : Nat} {xs : List Nat} (h : Bnd B (x :: xs)) : x < B := h x (List.mem_cons_self ..)

theorem val_lt {B : Nat} {xs : List Nat} (h : Bnd B xs) : val B xs < B ^ xs.length := by
  induction xs with
  | nil => simp [val]
  | cons x xs ih =>
    have h1 := h.head
    have h2 := ih h.tail
    simp only [val, List.length_cons, Nat.pow_succ]
    calc x + B * val B xs < B + B * val B xs := by omega
      _ = B * (val B xs + 1) := by grind
      _ ≤ B * B ^ xs.length := Nat.mul_le_mul_left _ h2
      _ = B ^ xs.length * B := Nat.mul_comm ..

theorem trimN_val (B : Nat) (xs : List Nat) : val B (trimN xs) = val B xs := by
  induction xs with
  | nil => rfl
  | cons x xs ih =>
    simp only [trimN]
    split
    · rename_i h
      rw [h.1] at ih
      simp only [val] at ih ⊢
      rw [← ih, h.2]; simp
    · simp only [val, ih]
theorem trimN_bnd {B : Nat} {xs : List Nat} (h : Bnd B xs) : Bnd B (trimN xs) := by
  induction xs with
  | nil => exact h
  | cons x xs ih =>
    simp only [trimN]
    split
    · exact .nil B
    · exact .cons h.head (ih h.tail)
/-- No zeros at the end. -/
def Trimmed (xs : List Nat) : Prop := trimN xs = xs
theorem trimN_trimmed (xs : List Nat) : Trimmed (trimN xs) := by
  unfold Trimmed
  induction xs with
  | nil => rfl
  | cons x xs ih =>
    simp only [trimN]
    split
    · rfl
    · rename_i h
      simp only [trimN, ih]
      rw [if_neg h]
theorem trimN_le (xs : List Nat) : (trimN xs).length ≤ xs.length := by
  induction xs with
  | nil => simp [trimN]
  | cons x xs ih =>
    simp only [trimN]
    split
    · simp
    · simp; exact ih
theorem trimN_prefix (xs : List Nat) : trimN xs = xs.take (trimN xs).length := by
  induction xs with
  | nil => simp [trimN]
  | cons x xs ih =>
    simp only [trimN]
    split
    · simp
    · simp only [List.length_cons, List.take_succ_cons]; rw [← ih]
theorem trimN_snoc (xs : List Nat) (x : Nat) : trimN (xs ++ [x]) = if x = 0 then trimN xs else xs ++ [x] := by
  induction xs with
  | nil => simp [trimN]
  | cons y xs ih =>
    simp only [List.cons_append, trimN, ih]
    by_cases hx : x = 0
    · simp [hx]
    · simp [hx]
theorem trimN_take_zero (xs : List Nat) (k : Nat) (hk : k < xs.length) (h0 : xs.getD k 0 = 0) : trimN (xs.take (k + 1)) = trimN (xs.take k) := by
  rw [List.take_succ_eq_append_getElem hk, trimN_snoc, if_pos]
  simpa [List.getD_eq_getElem?_getD, hk] using h0
theorem trimN_take_pos (xs : List Nat) (k : Nat) (hk : k < xs.length) (h0 : xs.getD k 0 ≠ 0) : trimN (xs.take (k + 1)) = xs.take (k + 1) := by
  rw [List.take_succ_eq_append_getElem hk, trimN_snoc, if_neg]
  simpa [List.getD_eq_getElem?_getD, hk] using h0

theorem trimmed_zero {B : Nat} (hB : 0 < B) {xs : List Nat} (ht : Trimmed xs) (h : val B xs = 0) : xs = [] := by
  induction xs with
  | nil => rfl
  | cons x xs ih =>
    simp only [val] at h
    have hx : x = 0 := by omega
    have hv : val B xs = 0 := by
      have : B * val B xs = 0 := by omega
      rcases Nat.mul_eq_zero.1 this with h | h
      · omega
      · exact h
    unfold Trimmed at ht
    simp only [trimN] at ht
    split at ht
    · cases ht
    · rename_i hn
      have htx : trimN xs = xs := (List.cons.inj ht).2
      have := ih htx hv
      subst this
      exact absurd ⟨rfl, hx⟩ hn
theorem Trimmed.tail {x : Nat} {xs : List Nat} (ht : Trimmed (x :: xs)) : Trimmed xs := by
  unfold Trimmed at *
  simp only [trimN] at ht
  split at ht
  · cases ht
  · exact (List.cons.inj ht).2
/-- Two normal forms of one value are one. -/
theorem trimmed_inj {B : Nat} (hB : 0 < B) {xs ys : List Nat} (hx : Bnd B xs) (hy : Bnd B ys) (tx : Trimmed xs) (ty : Trimmed ys) (h : val B xs = val B ys) : xs = ys := by
  induction xs generalizing ys with
  | nil => exact (trimmed_zero hB ty (by rw [← h]; rfl)).symm
  | cons x xs ih =>
    cases ys with
    | nil => exact trimmed_zero hB tx (by rw [h]; rfl)
    | cons y ys =>
      simp only [val] at h
      have h1 := hx.head
      have h2 := hy.head
      have e1 : (x + B * val B xs) % B = x := by rw [Nat.add_mul_mod_self_left, Nat.mod_eq_of_lt h1]
      have e2 : (y + B * val B ys) % B = y := by rw [Nat.add_mul_mod_self_left, Nat.mod_eq_of_lt h2]
      have e : x = y := by rw [← e1, ← e2, h]
      subst e
      have hv : val B xs = val B ys := Nat.eq_of_mul_eq_mul_left hB (by omega)
      rw [ih hx.tail hy.tail tx.tail ty.tail hv]

theorem limbsF_val {B : Nat} (hB : 2 ≤ B) (f n : Nat) (h : n ≤ f) : val B (limbsF B f n) = n := by
  induction f generalizing n with
  | zero => have : n = 0 := by omega
            subst this; rfl
  | succ f ih =>
    simp only [limbsF]
    split
    · rename_i h0; rw [h0]; rfl
    · rename_i h0
      have : n / B < n := Nat.div_lt_self (by omega) hB
      rw [val, ih _ (by omega)]
      exact Nat.mod_add_div ..
theorem limbsF_bnd {B : Nat} (hB : 2 ≤ B) (f n : Nat) : Bnd B (limbsF B f n) := by
  induction f generalizing n with
  | zero => exact .nil B
  | succ f ih =>
    simp only [limbsF]
    split
    · exact .nil B
    · exact .cons (Nat.mod_lt _ (by omega)) (ih _)
theorem limbsF_trimmed {B : Nat} (hB : 2 ≤ B) (f n : Nat) (h : n ≤ f) : Trimmed (limbsF B f n) := by
  induction f generalizing n with
  | zero => rfl
  | succ f ih =>
    simp only [limbsF]
    split
    · rfl
    · rename_i h0
      have hd : n / B < n := Nat.div_lt_self (by omega) hB
      have := ih (n / B) (by omega)
      unfold Trimmed at *
      simp only [trimN]
      rw [this, if_neg]
      rintro ⟨e1, e2⟩
      have hv := limbsF_val hB f (n / B) (by omega)
      rw [e1] at hv
      simp only [val] at hv
      have := Nat.mod_add_div n B
      rw [e2, ← hv] at this
      omega
theorem val_limbs {B : Nat} (hB : 2 ≤ B) (n : Nat) : val B (limbs B n) = n := limbsF_val hB n n (Nat.le_refl _)
theorem bnd_limbs {B : Nat} (hB : 2 ≤ B) (n : Nat) : Bnd B (limbs B n) := limbsF_bnd hB n n
theorem trimmed_limbs {B : Nat} (hB : 2 ≤ B) (n : Nat) : Trimmed (limbs B n) := limbsF_trimmed hB n n (Nat.le_refl _)
/-- What is trimmed is the normal form of its value. -/
theorem trimN_eq_limbs {B : Nat} (hB : 2 ≤ B) {xs : List Nat} (h : Bnd B xs) {n : Nat} (hv : val B xs = n) : trimN xs = limbs B n :=
  trimmed_inj (by omega) (trimN_bnd h) (bnd_limbs hB n) (trimN_trimmed xs) (trimmed_limbs hB n) (by rw [trimN_val, val_limbs hB, hv])
theorem limbs_zero (B : Nat) : limbs B 0 = [] := rfl
theorem limbs_eq_nil {B : Nat} (hB : 2 ≤ B) {n : Nat} : limbs B n = [] ↔ n = 0 := by
  constructor
  · intro h; have := val_limbs hB n; rw [h] at this; simp only [val] at this; omega
  · rintro rfl; rfl
theorem limbs_length_pos {B : Nat} (hB : 2 ≤ B) {n : Nat} : 0 < (limbs B n).length ↔ 0 < n := by
  have := limbs_eq_nil hB (n := n)
  constructor
  · intro h
    apply Nat.pos_of_ne_zero; intro e; rw [this.2 e] at h; simp at h
  · intro h
    apply Nat.pos_of_ne_zero; intro e; rw [List.length_eq_zero_iff] at e; have := this.1 e; omega
/-- The top limb of a number that is not 0 is not 0. -/
theorem trimmed_top {xs : List Nat} (ht : Trimmed xs) (h : 0 < xs.length) : xs.getD (xs.length - 1) 0 ≠ 0 := by
  intro h0
  have := trimN_take_zero xs (xs.length - 1) (by omega) h0
  rw [show xs.length - 1 + 1 = xs.length by omega, List.take_length, ht] at this
  have h1 := trimN_le (xs.take (xs.length - 1))
  rw [← this] at h1
  simp at h1
  omega
theorem le_val_of_top {B : Nat} {xs : List Nat} (ht : Trimmed xs) (h : 0 < xs.length) : B ^ (xs.length - 1) ≤ val B xs := by
  have h0 := trimmed_top ht h
  have := val_take_succ B xs (xs.length - 1) (by omega)
  rw [show xs.length - 1 + 1 = xs.length by omega, List.take_length] at this
  rw [this]
  have : B ^ (xs.length - 1) * 1 ≤ B ^ (xs.length - 1) * xs.getD (xs.length - 1) 0 := Nat.mul_le_mul_left _ (by omega)
  omega
theorem limbs_length_le {B : Nat} (hB : 2 ≤ B) {n k : Nat} (h : n < B ^ k) : (limbs B n).length ≤ k := by
  by_cases h0 : 0 < (limbs B n).length
  · have h1 := le_val_of_top (B := B) (trimmed_limbs hB n) h0
    rw [val_limbs hB] at h1
    have h2 : B ^ ((limbs B n).length - 1) < B ^ k := by omega
    have := (Nat.pow_lt_pow_iff_right (by omega : 1 < B)).1 h2
    omega
  · omega
theorem lt_of_limbs_length {B : Nat} (hB : 2 ≤ B) (n : Nat) : n < B ^ (limbs B n).length := by
  have := val_lt (bnd_limbs hB n)
  rwa [val_limbs hB] at this
theorem limbs_length_mono {B : Nat} (hB : 2 ≤ B) {a b : Nat} (h : a ≤ b) : (limbs B a).length ≤ (limbs B b).length :=
  limbs_length_le hB (Nat.lt_of_le_of_lt h (lt_of_limbs_length hB b))
theorem limbs_small {B : Nat} (hB : 2 ≤ B) {n : Nat} (h0 : 0 < n) (h : n < B) : limbs B n = [n] := by
  have : trimN [n] = limbs B n := trimN_eq_limbs hB (.cons h (.nil B)) (by simp [val])
  rw [← this]
  simp [trimN]; omega
theorem limbs_mul_length {B : Nat} (hB : 2 ≤ B) (a b : Nat) : (limbs B (a * b)).length ≤ (limbs B a).length + (limbs B b).length := by
  refine limbs_length_le hB ?_
  rw [Nat.pow_add]
  rcases Nat.eq_zero_or_pos b with rfl | hb
  · simp; exact Nat.mul_pos (Nat.pow_pos (by omega)) (Nat.pow_pos (by omega))
  · exact Nat.mul_lt_mul_of_lt_of_le (lt_of_limbs_length hB a) (Nat.le_of_lt (lt_of_limbs_length hB b)) (by have := lt_of_limbs_length hB b; omega)
theorem limbs_add_length {B : Nat} (hB : 2 ≤ B) (a b : Nat) : (limbs B (a + b)).length ≤ max (limbs B a).length (limbs B b).length + 1 := by
  refine limbs_length_le hB ?_
  have h1 := lt_of_limbs_length hB a
  have h2 := lt_of_limbs_length hB b
  have h3 : B ^ (limbs B a).length ≤ B ^ max (limbs B a).length (limbs B b).length := Nat.pow_le_pow_right (by omega) (Nat.le_max_left ..)
  have h4 : B ^ (limbs B b).length ≤ B ^ max (limbs B a).length (limbs B b).length := Nat.pow_le_pow_right (by omega) (Nat.le_max_right ..)
  rw [Nat.pow_succ]
  have : B ^ max (limbs B a).length (limbs B b).length * 2 ≤ B ^ max (limbs B a).length (limbs B b).length * B := Nat.mul_le_mul_left _ hB
  omega

/-! Comparison -/
theorem lt_of_length_lt {B : Nat} (hB : 2 ≤ B) {a b : Nat} (h : (limbs B a).length < (limbs B b).length) : a < b := by
  apply Nat.lt_of_not_le
  intro hle
  have := limbs_length_mono hB hle
  omega
/-- From the top down equal to i; at i - 1 less: less as a whole. -/
theorem val_lt_of_top {B : Nat} (_hB : 0 < B) {xs ys : List Nat} (hx : Bnd B xs) (hl : xs.length = ys.length) (i : Nat) (hi : i < xs.length)
    (he : xs.drop (i + 1) = ys.drop (i + 1)) (h : xs.getD i 0 < ys.getD i 0) : val B xs < val B ys := by
  rw [val_take_drop B xs (i + 1) (by omega), val_take_drop B ys (i + 1) (by omega), he]
  rw [val_take_succ B xs i hi, val_take_succ B ys i (by omega)]
  have h1 := val_lt (hx.take i)
  rw [List.length_take, Nat.min_eq_left (by omega)] at h1
  have h2 : B ^ i * (xs.getD i 0 + 1) ≤ B ^ i * ys.getD i 0 := Nat.mul_le_mul_left _ h
  have h3 : B ^ i * (xs.getD i 0 + 1) = B ^ i * xs.getD i 0 + B ^ i := by grind
  omega
end Go.Proofs.Cr
/- Plain arithmetic: the steps of the loops on limbs (sum, difference, product, short and long division). -/
namespace Go.Proofs.Cr

/-- One step of a sum with a carry. -/
theorem plus_step (B i a b v c0 x c ya yb : Nat) (hv : v + B ^ i * c0 = a + b) (hx : x + B * c = c0 + ya + yb) :
    (v + B ^ i * x) + B ^ (i + 1) * c = (a + B ^ i * ya) + (b + B ^ i * yb) := by
  rw [Nat.pow_succ]; grind

theorem val_set {B : Nat} (xs : List Nat) (i x : Nat) (h : i < xs.length) : val B (xs.set i x) + B ^ i * xs.getD i 0 = val B xs + B ^ i * x := by
  induction xs generalizing i with
  | nil => simp at h
  | cons y ys ih =>
    cases i with
    | zero => simp [val]; omega
    | succ i =>
      have := ih i (by simpa using h)
      simp only [List.set_cons_succ, val, List.getD_cons_succ, Nat.pow_succ]
      grind

/-- Short division from the top: one step. -/
theorem short_step (B by_ q r x rest v o : Nat) (hq : q = (rest * B + x) / by_) (hr : r = (rest * B + x) % by_) (h : v = o * by_ + rest) :
    x + B * v = (q + B * o) * by_ + r := by
  have := Nat.div_add_mod (rest * B + x) by_
  rw [← hq, ← hr] at this
  subst h; grind

/-- The greatest limb of the scaled divisor is at least half of the base. -/
theorem scale_half {B v d : Nat} (hev : B % 2 = 0) (hv : 1 ≤ v) (hvB : v < B) (hd : d = B / (v + 1)) : B ≤ 2 * (d * v) := by
  have h1 : 1 ≤ d := by rw [hd]; exact (Nat.le_div_iff_mul_le (by omega)).2 (by omega)
  have h2 : B < (v + 1) * (d + 1) := by rw [hd]; exact Nat.lt_mul_div_succ B (by omega)
  have h3 : (v + 1) * (d + 1) = d * v + d + v + 1 := by grind
  have h4 : d + v ≤ d * v + 1 := by
    obtain ⟨a, rfl⟩ : ∃ a, d = a + 1 := ⟨d - 1, by omega⟩
    obtain ⟨b, rfl⟩ : ∃ b, v = b + 1 := ⟨v - 1, by omega⟩
    have : (a + 1) * (b + 1) = a * b + a + b + 1 := by grind
    omega
  omega

/-- The true digit is at most the guess out of the two greatest limbs. -/
theorem guess_ge {P V q top head E : Nat} (hq : q * V ≤ P) (hV : top * E ≤ V) (hP : P < (head + 1) * E) (ht : 0 < top) : q ≤ head / top := by
  rw [Nat.le_div_iff_mul_le ht]
  have h1 : q * top * E < (head + 1) * E := by
    calc q * top * E = q * (top * E) := by grind
      _ ≤ q * V := Nat.mul_le_mul_left _ hV
      _ < _ := by omega
  have := Nat.lt_of_mul_lt_mul_right h1
  omega
/-- A guess that fails the test is too great. -/
theorem guess_test {P V q W hn E guess : Nat} (hq : q * V ≤ P) (hV : W * E ≤ V) (hP : P < (hn + 1) * E) (hg : q ≤ guess) (ht : hn < guess * W) : q < guess := by
  apply Nat.lt_of_le_of_ne hg
  rintro rfl
  have h1 : q * W * E < (hn + 1) * E := by
    calc q * W * E = q * (W * E) := by grind
      _ ≤ q * V := Nat.mul_le_mul_left _ hV
      _ < _ := by omega
  have := Nat.lt_of_mul_lt_mul_right h1
  omega
/-- A guess that passes the test is at most one too great. -/
theorem guess_le {P V W hn E guess : Nat} (hV : V < (W + 1) * E) (hP : hn * E ≤ P) (hgW : guess ≤ W + 1) (ht : guess * W ≤ hn) (hg : 0 < guess) : (guess - 1) * V ≤ P := by
  obtain ⟨g, rfl⟩ : ∃ g, guess = g + 1 := ⟨guess - 1, by omega⟩
  simp only [Nat.add_sub_cancel]
  calc g * V ≤ g * ((W + 1) * E) := Nat.mul_le_mul_left _ (by omega)
    _ = (g * W + g) * E := by grind
    _ ≤ ((g + 1) * W) * E := Nat.mul_le_mul_right _ (by
        have : (g + 1) * W = g * W + W := by grind
        omega)
    _ ≤ hn * E := Nat.mul_le_mul_right _ ht
    _ ≤ P := hP

/-- Taking a multiple away: one step. -/
theorem take_step (B i n t bv p cb x y less cc c' nb : Nat) (h : n + t * bv = p + B ^ i * cb) (hcc : cc = cb + y * t) (hless : less = cc % B) (hc : c' = cc / B) (hx : less ≤ x + B * nb) :
    (n + B ^ i * (x + B * nb - less)) + t * (bv + B ^ i * y) = (p + B ^ i * x) + B ^ (i + 1) * (c' + nb) := by
  have h1 := Nat.div_add_mod cc B
  rw [← hless, ← hc] at h1
  obtain ⟨z, hz⟩ : ∃ z, x + B * nb = less + z := ⟨x + B * nb - less, by omega⟩
  rw [hz, Nat.add_sub_cancel_left, Nat.pow_succ]
  have e1 : B ^ i * z + B ^ i * less = B ^ i * x + B ^ i * B * nb := by rw [← Nat.mul_add, Nat.add_comm z, ← hz]; grind
  have e2 : B ^ i * (B * c') + B ^ i * less = B ^ i * cb + B ^ i * (y * t) := by rw [← Nat.mul_add, h1, hcc]; grind
  grind

/-- What is left behind take and give. -/
theorem digit_done {P V q n c E guess : Nat} (hVE : V < E) (hn : n < E) (hq1 : q * V ≤ P) (hq2 : P < (q + 1) * V) (h : n + guess * V = P + E * c) (hg1 : q ≤ guess) (hg2 : guess ≤ q + 1) :
    (c = 0 → guess = q ∧ n = P - q * V) ∧ (0 < c → guess = q + 1 ∧ (n + V) % E = P - q * V) := by
  constructor
  · rintro rfl
    have hle : guess * V ≤ P := by omega
    have : guess = q := by
      rcases Nat.eq_or_lt_of_le hg1 with e | hlt
      · exact e.symm
      · have : guess = q + 1 := by omega
        subst this; omega
    subst this
    exact ⟨rfl, by omega⟩
  · intro hc
    have hE : E ≤ E * c := Nat.le_mul_of_pos_right _ hc
    have hgq : guess = q + 1 := by
      rcases Nat.eq_or_lt_of_le hg1 with e | hlt
      · exfalso; subst e; omega
      · omega
    subst hgq
    have e1 : (q + 1) * V = q * V + V := by grind
    have hc1 : c = 1 := by
      rcases Nat.lt_or_ge c 2 with h2 | h2
      · omega
      · exfalso
        have : E * 2 ≤ E * c := Nat.mul_le_mul_left _ h2
        omega
    subst hc1
    refine ⟨rfl, ?_⟩
    have : n + V = (P - q * V) + E := by omega
    rw [this, Nat.add_mod_right, Nat.mod_eq_of_lt]
    have hPV : P - q * V < V := by omega
    omega
end Go.Proofs.Cr
/- Decimal texts: a valid text and its number; a text out of groups of digits. -/
namespace Go.Proofs.Cr
open Go.Lib (decDigits)

theorem snoc_ind {α : Type} {P : List α → Prop} (h0 : P []) (hs : ∀ l a, P l → P (l ++ [a])) (l : List α) : P l := by
  have : ∀ m : List α, P m.reverse := by
    intro m
    induction m with
    | nil => exact h0
    | cons a m ih => rw [List.reverse_cons]; exact hs _ _ ih
  have := this l.reverse
  rwa [List.reverse_reverse] at this

def isDig (c : UInt8) : Prop := 48 ≤ c.toNat ∧ c.toNat ≤ 57
instance (c : UInt8) : Decidable (isDig c) := inferInstanceAs (Decidable (_ ∧ _))
def dstep (a : Nat) (c : UInt8) : Nat := 10 * a + (c.toNat - 48)
/-- The number of a text of digits. -/
def dv (l : List UInt8) : Nat := l.foldl dstep 0
def Digs (l : List UInt8) : Prop := ∀ c ∈ l, isDig c
/-- A text of digits without a zero ahead. -/
def okDig (l : List UInt8) : Prop := l ≠ [] ∧ Digs l ∧ (1 < l.length → l.head? ≠ some 48)

theorem dv_nil : dv [] = 0 := rfl
theorem dv_snoc (l : List UInt8) (c : UInt8) : dv (l ++ [c]) = 10 * dv l + (c.toNat - 48) := by simp [dv, List.foldl_append, dstep]
theorem dv_append (l m : List UInt8) : dv (l ++ m) = dv l * 10 ^ m.length + dv m := by
  induction m using snoc_ind with
  | h0 => simp [dv]
  | hs m c ih => rw [← List.append_assoc, dv_snoc, ih, dv_snoc, List.length_append, List.length_singleton, Nat.pow_succ]; grind
theorem Digs.of_append {l m : List UInt8} (h : Digs (l ++ m)) : Digs l ∧ Digs m :=
  ⟨fun c hc => h c (List.mem_append_left _ hc), fun c hc => h c (List.mem_append_right _ hc)⟩
theorem Digs.append {l m : List UInt8} (h : Digs l) (h' : Digs m) : Digs (l ++ m) := fun c hc => by
  rcases List.mem_append.1 hc with hc | hc
  · exact h c hc
  · exact h' c hc
theorem Digs.take {l : List UInt8} (h : Digs l) (i : Nat) : Digs (l.take i) := fun c hc => h c (List.mem_of_mem_take hc)
theorem Digs.drop {l : List UInt8} (h : Digs l) (i : Nat) : Digs (l.drop i) := fun c hc => h c (List.mem_of_mem_drop hc)
theorem dv_lt {l : List UInt8} (h : Digs l) : dv l < 10 ^ l.length := by
  induction l using snoc_ind with
  | h0 => simp [dv]
  | hs l c ih =>
    obtain ⟨h1, h2⟩ := h.of_append
    have h3 := h2 c (by simp)
    have h4 := ih h1
    unfold isDig at h3
    rw [dv_snoc, List.length_append, List.length_singleton, Nat.pow_succ]
    omega

theorem dig_toNat {d : Nat} (h : d < 10) : (UInt8.ofNat (48 + d)).toNat = 48 + d := by
  rw [UInt8.toNat_ofNat']; omega
theorem dig_eq {c : UInt8} (h : isDig c) : UInt8.ofNat (48 + (c.toNat - 48)) = c := by
  unfold isDig at h
  apply UInt8.toNat_inj.1
  rw [dig_toNat (by omega)]; omega
theorem decDigits_small {u : Nat} (h : u < 10) : decDigits u = [UInt8.ofNat (48 + u)] := by rw [decDigits, dif_pos h]
theorem decDigits_big {u : Nat} (h : ¬ u < 10) : decDigits u = decDigits (u / 10) ++ [UInt8.ofNat (48 + u % 10)] := by rw [decDigits, dif_neg h]
theorem decDigits_step (a d : Nat) (ha : 0 < a) (hd : d < 10) : decDigits (10 * a + d) = decDigits a ++ [UInt8.ofNat (48 + d)] := by
  rw [decDigits_big (by omega), show (10 * a + d) / 10 = a by omega, show (10 * a + d) % 10 = d by omega]
theorem dv_decDigits (n : Nat) : dv (decDigits n) = n := by
  induction n using Nat.strongRecOn with
  | _ n ih =>
    by_cases h : n < 10
    · rw [decDigits_small h]; simp [dv, dstep]; omega
    · rw [decDigits_big h, dv_snoc, ih _ (by omega), dig_toNat (by omega)]; omega
theorem digs_decDigits (n : Nat) : Digs (decDigits n) := by
  induction n using Nat.strongRecOn with
  | _ n ih =>
    have hd : ∀ d, d < 10 → Digs [UInt8.ofNat (48 + d)] := by
      intro d hd c hc
      simp only [List.mem_singleton] at hc
      subst hc
      unfold isDig; rw [dig_toNat hd]; omega
    by_cases h : n < 10
    · rw [decDigits_small h]; exact hd n h
    · rw [decDigits_big h]; exact (ih _ (by omega)).append (hd _ (by omega))
theorem decDigits_ne (n : Nat) : decDigits n ≠ [] := by
  by_cases h : n < 10
  · rw [decDigits_small h]; simp
  · rw [decDigits_big h]; simp
theorem decDigits_len_pos (n : Nat) : 0 < (decDigits n).length := by
  have := decDigits_ne n
  cases h : decDigits n with
  | nil => exact absurd h this
  | cons => simp
theorem decDigits_zero : decDigits 0 = [48] := by rw [decDigits_small (by decide)]; rfl
theorem decDigits_head (n : Nat) (h : 0 < n) : (decDigits n).head? ≠ some 48 := by
  induction n using Nat.strongRecOn with
  | _ n ih =>
    by_cases h10 : n < 10
    · rw [decDigits_small h10]
      intro e
      simp only [List.head?_cons, Option.some.injEq] at e
      have := congrArg UInt8.toNat e
      rw [dig_toNat h10] at this
      simp at this; omega
    · rw [decDigits_big h10]
      have := ih (n / 10) (by omega) (by omega)
      rw [List.head?_append]
      intro e
      apply this
      cases hh : (decDigits (n / 10)).head? with
      | none => exact absurd (List.head?_eq_none_iff.1 hh) (decDigits_ne _)
      | some x => rw [hh] at e; simpa using e
theorem okDig_decDigits (n : Nat) : okDig (decDigits n) := by
  refine ⟨decDigits_ne n, digs_decDigits n, fun hl => ?_⟩
  apply decDigits_head
  apply Nat.pos_of_ne_zero
  rintro rfl
  simp [decDigits_small] at hl
/-- A valid text is the numeral of its number. -/
theorem decDigits_dv {l : List UInt8} (h : okDig l) : decDigits (dv l) = l := by
  induction l using snoc_ind with
  | h0 => exact absurd rfl h.1
  | hs l c ih =>
    obtain ⟨_, h2, h3⟩ := h
    obtain ⟨hl, hc⟩ := h2.of_append
    have hcd := hc c (by simp)
    rw [dv_snoc]
    cases l with
    | nil =>
      simp only [dv_nil, List.nil_append]
      have : c.toNat - 48 < 10 := by unfold isDig at hcd; omega
      rw [decDigits_small (by omega)]
      rw [show 48 + (10 * 0 + (c.toNat - 48)) = 48 + (c.toNat - 48) by omega, dig_eq hcd]
    | cons x xs =>
      have hx : x ≠ 48 := by
        intro e; exact h3 (by simp) (by simp [e])
      have hok : okDig (x :: xs) := ⟨by simp, hl, fun _ => by simp [hx]⟩
      have hdx := ih hok
      have hpos : 0 < dv (x :: xs) := by
        apply Nat.pos_of_ne_zero
        intro e
        rw [e, decDigits_small (by omega)] at hdx
        have := (List.cons.inj hdx).1
        exact hx (by rw [← this]; rfl)
      have : c.toNat - 48 < 10 := by unfold isDig at hcd; omega
      rw [decDigits_step _ _ hpos this, hdx, dig_eq hcd]
theorem dv_inj {l m : List UInt8} (h : okDig l) (h' : okDig m) (e : dv l = dv m) : l = m := by rw [← decDigits_dv h, ← decDigits_dv h', e]
theorem decDigits_inj {a b : Nat} (h : decDigits a = decDigits b) : a = b := by rw [← dv_decDigits a, ← dv_decDigits b, h]
theorem okDig_zero {l : List UInt8} (h : okDig l) : dv l = 0 ↔ l = [48] := by
  constructor
  · intro e; have := decDigits_dv h; rw [e, decDigits_zero] at this; exact this.symm
  · rintro rfl; rfl
theorem le_of_decDigits_len {n : Nat} (h : 1 < (decDigits n).length) : 10 ^ ((decDigits n).length - 1) ≤ n := by
  induction n using Nat.strongRecOn with
  | _ n ih =>
    by_cases h10 : n < 10
    · rw [decDigits_small h10] at h; simp at h
    · rw [decDigits_big h10] at h ⊢
      simp only [List.length_append, List.length_singleton] at h ⊢
      by_cases h1 : 1 < (decDigits (n / 10)).length
      · have := ih _ (by omega) h1
        rw [show (decDigits (n / 10)).length + 1 - 1 = ((decDigits (n / 10)).length - 1) + 1 by omega, Nat.pow_succ]
        omega
      · have := decDigits_len_pos (n / 10)
        rw [show (decDigits (n / 10)).length + 1 - 1 = 1 by omega]
        omega
theorem lt_of_decDigits_len (n : Nat) : n < 10 ^ (decDigits n).length := by
  have := dv_lt (digs_decDigits n)
  rwa [dv_decDigits] at this
theorem decDigits_len_le {n k : Nat} (hk : 0 < k) : (decDigits n).length ≤ k ↔ n < 10 ^ k := by
  constructor
  · intro h
    exact Nat.lt_of_lt_of_le (lt_of_decDigits_len n) (Nat.pow_le_pow_right (by decide) h)
  · intro h
    by_cases h1 : 1 < (decDigits n).length
    · have := le_of_decDigits_len h1
      have h2 : 10 ^ ((decDigits n).length - 1) < 10 ^ k := by omega
      have := (Nat.pow_lt_pow_iff_right (by decide)).1 h2
      omega
    · omega

/-- Zeros ahead, up to a length. -/
def pad (k n : Nat) : List UInt8 := List.replicate (k - (decDigits n).length) 48 ++ decDigits n
theorem dv_zeros (k : Nat) : dv (List.replicate k 48) = 0 := by
  induction k with
  | zero => rfl
  | succ k ih => rw [List.replicate_succ', dv_snoc, ih]; rfl
theorem digs_zeros (k : Nat) : Digs (List.replicate k 48) := by
  intro c hc
  rw [(List.mem_replicate.1 hc).2]; decide
theorem pad_len {k n : Nat} (hk : 0 < k) (h : n < 10 ^ k) : (pad k n).length = k := by
  have := (decDigits_len_le hk).2 h
  simp [pad]; omega
theorem dv_pad (k n : Nat) : dv (pad k n) = n := by rw [pad, dv_append, dv_zeros, dv_decDigits]; simp
theorem digs_pad (k n : Nat) : Digs (pad k n) := (digs_zeros _).append (digs_decDigits n)
/-- The numeral of a number out of two parts. -/
theorem decDigits_parts {k a b : Nat} (ha : 0 < a) (hk : 0 < k) (hb : b < 10 ^ k) : decDigits (a * 10 ^ k + b) = decDigits a ++ pad k b := by
  have hok : okDig (decDigits a ++ pad k b) := by
    refine ⟨by simp [decDigits_ne], (digs_decDigits a).append (digs_pad k b), fun _ => ?_⟩
    rw [List.head?_append]
    have := decDigits_head a ha
    cases hh : (decDigits a).head? with
    | none => exact absurd (List.head?_eq_none_iff.1 hh) (decDigits_ne _)
    | some x => rw [hh] at this; simpa using this
  rw [← decDigits_dv hok, dv_append, dv_decDigits, dv_pad, pad_len hk hb]

/-- The digits of limbs, the lowest first, of k digits each. -/
def textL (k : Nat) : List Nat → List UInt8
  | [] => [48]
  | [x] => decDigits x
  | x :: y :: xs => textL k (y :: xs) ++ pad k x
theorem textL_eq {k : Nat} (hk : 0 < k) {xs : List Nat} (h : Bnd (10 ^ k) xs) (ht : Trimmed xs) : textL k xs = decDigits (val (10 ^ k) xs) := by
  induction xs with
  | nil => simp [textL, val, decDigits_zero]
  | cons x xs ih =>
    cases xs with
    | nil => simp [textL, val]
    | cons y ys =>
      simp only [textL]
      rw [ih h.tail ht.tail, val_cons _ x]
      have hpos : 0 < val (10 ^ k) (y :: ys) := by
        apply Nat.pos_of_ne_zero
        intro e
        have := trimmed_zero (Nat.pow_pos (by decide)) ht.tail e
        cases this
      rw [Nat.add_comm, Nat.mul_comm (10 ^ k), decDigits_parts hpos hk h.head]
end Go.Proofs.Cr
/- What a slice of numbers holds in memory, and how that lives on. -/
namespace Go.Proofs.Cr
open Go.RowKit

def B9 : Nat := 1000000000
theorem B9_eq : B9 = 1000000000 := rfl
theorem B9_two : 2 ≤ B9 := by decide
theorem B9_pos : 0 < B9 := by decide
theorem B9_pow : B9 = 10 ^ 9 := rfl
def B4 : Nat := 10000
theorem B4_eq : B4 = 10000 := rfl
theorem B4_two : 2 ≤ B4 := by decide
theorem B4_pos : 0 < B4 := by decide

/-- The cells of natural numbers. -/
def nums (k : IntKind) (xs : List Nat) : List Value := xs.map fun x : Nat => Value.int k (x : Int)
theorem nums_len (k : IntKind) (xs : List Nat) : (nums k xs).length = xs.length := by simp [nums]
theorem nums_append (k : IntKind) (xs ys : List Nat) : nums k (xs ++ ys) = nums k xs ++ nums k ys := by simp [nums]
theorem nums_one (k : IntKind) (xs : List Nat) : ∀ u ∈ nums k xs, u.oneCell' = true := by
  intro u hu
  obtain ⟨x, _, rfl⟩ := List.mem_map.1 hu
  rfl
theorem nums_get (k : IntKind) (xs : List Nat) (j : Nat) (h : j < xs.length) : (nums k xs)[j]? = some (.int k (xs.getD j 0 : Nat)) := by
  simp [nums, List.getD_eq_getElem?_getD, h]

/-- A slice at A of the numbers xs, that is read. -/
def Reads (w : World) (k : IntKind) (A : Option Addr) (xs : List Nat) : Prop :=
  xs.length ≤ 1000000 ∧ (0 < xs.length → ∃ b off, A = some ⟨b, off, none⟩ ∧ b < w.heap.size ∧ ∀ j, j < xs.length → w.cell? ⟨b, off + j, none⟩ = some (.int k (xs.getD j 0 : Nat)))
theorem Reads.below {w w' : World} {k : IntKind} {A : Option Addr} {xs : List Nat} {B : Nat} (h : Reads w k A xs) (hb : Below B w w') (hB : w.heap.size ≤ B) : Reads w' k A xs := by
  refine ⟨h.1, fun hp => ?_⟩
  obtain ⟨b, off, e, hlt, hc⟩ := h.2 hp
  exact ⟨b, off, e, by have := hb.size; omega, fun j hj => (hb.cell (p := ⟨b, off + j, none⟩) (by show b < B; omega)).trans (hc j hj)⟩
theorem Reads.take {w : World} {k : IntKind} {A : Option Addr} {xs : List Nat} (h : Reads w k A xs) (i : Nat) : Reads w k A (xs.take i) := by
  refine ⟨by have := h.1; simp; omega, fun hp => ?_⟩
  have hl : (xs.take i).length ≤ xs.length := by simp; omega
  obtain ⟨b, off, e, hlt, hc⟩ := h.2 (by omega)
  refine ⟨b, off, e, hlt, fun j hj => ?_⟩
  rw [hc j (by omega)]
  simp at hj
  have : j < i := by omega
  simp [List.getD_eq_getElem?_getD, this]
theorem Reads.nil (w : World) (k : IntKind) (A : Option Addr) : Reads w k A [] := ⟨by simp, fun h => by simp at h⟩

/-- A row of the call's own. -/
def Owns (w : World) (base e : Nat) (k : IntKind) (v : Value) (xs : List Nat) : Prop := w.ownsRow base e 1 v xs.length (nums k xs)
theorem Owns.reads {w : World} {base e : Nat} {k : IntKind} {v : Value} {xs : List Nat} (h : Owns w base e k v xs) (hl : xs.length ≤ 1000000) : ∃ A c, v = .slice A xs.length c ∧ Reads w k A xs ∧ xs.length ≤ c := by
  have h' := h
  rcases h.2 with ⟨hv, h0⟩ | ⟨g, cap, cur, hv, hb, hh, hn, hm, hs, ht⟩
  · exact ⟨none, 0, by rw [hv, h0], ⟨hl, fun hp => by omega⟩, by omega⟩
  · subst hv
    refine ⟨_, cap, rfl, ⟨hl, fun hp => ⟨g, 0, rfl, (Array.getElem?_eq_some_iff.1 hh).1, fun j hj => ?_⟩⟩, hn⟩
    rw [Nat.zero_add, World.ownsRow.cellAt h' j (by omega), nums_get k xs j hj]
theorem Owns.below {w w' : World} {base e : Nat} {k : IntKind} {v : Value} {xs : List Nat} {B : Nat} (h : Owns w base e k v xs) (hb : Below B w w') (hB : w.heap.size ≤ B) : Owns w' base e k v xs := by
  refine World.ownsRow.kept (row := none) h ⟨hb.os, hb.tape, hb.output, hb.size, fun i hi _ => hb.block i (by omega)⟩ ?_
  cases v.ownBlock <;> simp
theorem Owns.mono {w : World} {base base' e : Nat} {k : IntKind} {v : Value} {xs : List Nat} (h : Owns w base e k v xs) (hb : base' ≤ base) : Owns w base' e k v xs := by
  refine ⟨h.1, ?_⟩
  rcases h.2 with h | ⟨g, cap, cur, hv, hb', r⟩
  · exact .inl h
  · exact .inr ⟨g, cap, cur, hv, by omega, r⟩

/-- A row cut at its end stays owned. -/
theorem Owns.cut {w : World} {base e : Nat} {k : IntKind} {A : Option Addr} {n c : Nat} {xs : List Nat} (h : Owns w base e k (.slice A n c) xs) (i : Nat) (hi : i ≤ xs.length) : Owns w base e k (.slice A i c) (xs.take i) := by
  have hl : (xs.take i).length = i := by simp; omega
  unfold Owns
  rw [hl]
  refine ⟨by rw [nums_len, hl, Nat.mul_one], ?_⟩
  rcases h.2 with ⟨hv, h0⟩ | ⟨g, cap, cur, hv, hb, hh, hn, hm, hs, ht⟩
  · left
    have h00 : i = 0 := by omega
    cases hv
    exact ⟨by rw [h00], h00⟩
  · right
    cases hv
    refine ⟨g, _, cur, rfl, hb, hh, by omega, hm, hs, ?_⟩
    rw [Nat.mul_one] at ht ⊢
    have : nums k (xs.take i) = (nums k xs).take i := by simp [nums]
    rw [this, ← ht, List.take_take, Nat.min_eq_left hi]
theorem Owns.trim {w : World} {base e : Nat} {k : IntKind} {A : Option Addr} {n c : Nat} {xs : List Nat} (h : Owns w base e k (.slice A n c) xs) : Owns w base e k (.slice A (trimN xs).length c) (trimN xs) := by
  have := h.cut (trimN xs).length (trimN_le xs)
  rwa [← trimN_prefix] at this

/-- The number n at A, in limbs. -/
def Num (w : World) (A : Option Addr) (l c n : Nat) : Prop := l = (limbs B9 n).length ∧ l ≤ c ∧ Reads w .u64 A (limbs B9 n)
theorem Num.below {w w' : World} {A : Option Addr} {l c n : Nat} {B : Nat} (h : Num w A l c n) (hb : Below B w w') (hB : w.heap.size ≤ B) : Num w' A l c n := ⟨h.1, h.2.1, h.2.2.below hb hB⟩
end Go.Proofs.Cr
namespace Go.Proofs.Cr
open Go.RowKit
section
variable {P : Program} {ops : Array Oper} {rest : List Oper} {o : Oper} {a : Act} {Q : Exit → Act → World → Prop}
/-- 'append(v, y)', y a number: behind 'at_builtin'. -/
theorem app_num {w0 W : World} {base t e : Nat} {k : IntKind} {bytes : Nat} {v : Value} {xs : List Nat} {y : Int} (n : Nat) {s x : Operand} (hgd : o.guard = none)
    (ho : o.op = .call { callee := .builtin .append, args := #[s, x], argTypes := #[t, t] }) (ht : P.underlying t = some (.slice e)) (hinfo : (P.info? e).map (fun i => (i.zero, i.size, i.bytes)) = some (some (.int k 0), 1, bytes)) (hb8 : bytes ≤ 8)
    (hs : a.eval s = v) (hx : a.eval x = .slice (some ⟨W.heap.size, 0, none⟩) 1 1) (HO : Owns W base e k v xs) (HB : Below base w0 W) (hbase : base ≤ W.heap.size) (hl : xs.length ≤ 1000000) (hy : y = (n : Int))
    (h : ∀ v1 w1, Owns w1 base e k v1 (xs ++ [n]) → Below base w0 w1 → W.grownBy w1 v.ownBlock → wpList P ops Q rest (a.put o.dst v1) w1) :
    wpList P ops Q (o :: rest) a (W.alloc (.cells #[.int k y] e)) := by
  subst hy
  obtain ⟨i0, hi, hzz⟩ := Option.map_eq_some_iff.1 hinfo
  simp only [Prod.mk.injEq] at hzz
  obtain ⟨hz0, hz1, hz2⟩ := hzz
  have hb : (xs.length + 1) * bytes ≤ (xs.length + 1) * 8 := Nat.mul_le_mul_left _ hb8
  refine wpList_append_own (W.alloc (.cells #[.int k (n : Int)] e)) hgd s x t ho base e i0 (.int k 0) 1 bytes ht hi hz0 hz1 hz2 rfl (by decide) v xs.length (nums k xs) hs (World.ownsRow.alloc HO _) ⟨W.heap.size, 0, none⟩ 1 1 [.int k (n : Int)] hx rfl
    (cell_one_new _ _ _) (by intro u hu; simp at hu; subst hu; rfl) (by unfold maxLen; omega) (by omega) (by simp; omega) ?_
  intro v1 w1 hown hg _
  refine h v1 w1 ?_ ?_ ((World.grownBy_alloc W _ _).trans hg)
  · unfold Owns
    rw [nums_append, List.length_append]
    exact hown
  · refine (HB.alloc hbase _).grown hg (by simp; omega) ?_
    intro j hj
    exact (World.ownsRow.lt HO j hj).1
end
end Go.Proofs.Cr
namespace Go.Proofs.Cr
open Go.RowKit

theorem info151 : (Tryz.prog.info? 98).map (fun i => (i.zero, i.size, i.bytes)) = some (some (.int .u64 0), 1, 8) := by kernel_rfl

set_option maxHeartbeats 400000 in
theorem trim_any (xs : List Nat) (A : Option Addr) (c : Nat) (w : World) (hx : Reads w .u64 A xs) (_hc : xs.length ≤ c) :
    Calls Tryz.prog 109 #[.slice A xs.length c] w fun e w' => e = .returned (.slice A (trimN xs).length c) ∧ w = w' := by
  obtain ⟨hl, hr⟩ := hx
  go_enter Tryz.func109, Tryz.ntmps109
  go_wp2
  go_loop [0] (fun v => ∃ k : Nat, k ≤ xs.length ∧ v = .slice A k c ∧ trimN xs = trimN (xs.take k)) (fun v => match v with | .slice _ k _ => k | _ => 0)
  case atStart => exact ⟨xs.length, Nat.le_refl _, rfl, by simp⟩
  case round =>
    obtain ⟨k, hk, rfl, hk2⟩ := hrel
    have H2 := Lib.hid hk2; clear hk2
    by_cases hk0 : 0 < k
    · obtain ⟨b, off, rfl, _, hcell⟩ := hr (by omega)
      have hcl := hcell (k - 1) (by omega)
      clear hr hcell
      obtain ⟨x, hx⟩ : ∃ x, x = xs.getD (k - 1) 0 := ⟨_, rfl⟩
      rw [← hx] at hcl
      have Hx := Lib.hid hx; clear hx
      by_cases hz : x = 0
      · subst hz
        go_wp2
        go_round
        case rel => exact ⟨k - 1, by omega, rfl, by rw [H2.out]; have := trimN_take_zero xs (k-1) (by omega) Hx.out.symm; rwa [show k - 1 + 1 = k by omega] at this⟩
        case measure => simp; omega
      · have hz' : ((x : Int) == 0) = false := by simp; omega
        go_wp2
        go_ret
        have := trimN_take_pos xs (k-1) (by omega) (by rw [← Hx.out]; exact hz)
        rw [show k - 1 + 1 = k by omega] at this
        rw [H2.out, this]
        refine ⟨?_, rfl⟩
        rw [List.length_take, Nat.min_eq_left hk]
        rfl
    · have hk0' : k = 0 := by omega
      subst hk0'
      go_wp2
      go_ret
      rw [H2.out]
      exact ⟨rfl, rfl⟩
end Go.Proofs.Cr
namespace Go.Proofs.Cr
open Go.RowKit

theorem plus_round (xs ys os : List Nat) (k cy : Nat) (hk : k < xs.length) (ha : Bnd B9 xs) (hb : Bnd B9 ys) (ho : os.length = k) (hob : Bnd B9 os) (hcy : cy ≤ 1)
    (hv : val B9 os + B9 ^ k * cy = val B9 (xs.take k) + val B9 (ys.take k)) :
    let s := xs.getD k 0 + cy + (if k < ys.length then ys.getD k 0 else 0)
    Bnd B9 (os ++ [s % 1000000000]) ∧ s / 1000000000 ≤ 1 ∧ val B9 (os ++ [s % 1000000000]) + B9 ^ (k + 1) * (s / 1000000000) = val B9 (xs.take (k + 1)) + val B9 (ys.take (k + 1)) := by
  intro s
  have h1 := ha.getD B9_pos k
  have h2 := hb.getD B9_pos k
  have hs : s < 2 * 1000000000 := by
    simp only [s]
    rw [B9_eq] at h1 h2
    split <;> omega
  refine ⟨hob.snoc (Nat.mod_lt _ (by decide)), by omega, ?_⟩
  rw [val_snoc, ho, val_take_succ _ _ _ hk]
  by_cases hkb : k < ys.length
  · rw [val_take_succ _ _ _ hkb]
    refine plus_step B9 k _ _ _ cy _ _ _ _ hv ?_
    simp only [s, if_pos hkb, B9_eq]; omega
  · rw [List.take_of_length_le (by omega : ys.length ≤ k + 1), ← List.take_of_length_le (by omega : ys.length ≤ k)]
    have := plus_step B9 k _ _ _ cy (s % 1000000000) (s / 1000000000) (xs.getD k 0) 0 hv (by simp only [s, if_neg hkb, B9_eq]; omega)
    simpa using this

set_option maxRecDepth 100000 in
set_option maxHeartbeats 1000000 in
theorem plus_core (xs ys : List Nat) (A1 A2 : Option Addr) (c1 c2 : Nat) (w : World) (h1 : Reads w .u64 A1 xs) (h2 : Reads w .u64 A2 ys) 
    (ha : Bnd B9 xs) (hb : Bnd B9 ys) (hle : ys.length ≤ xs.length) (hsz : xs.length ≤ 100000) :
    Calls Tryz.prog 65 #[.slice A1 xs.length c1, .slice A2 ys.length c2] w fun e w' => ∃ v zs, e = .returned v ∧ Owns w' w.heap.size 98 .u64 v zs ∧ Trimmed zs ∧ Bnd B9 zs ∧ val B9 zs = val B9 xs + val B9 ys ∧ Below w.heap.size w w' := by
  have hl1 := h1.1
  have hl2 := h2.1
  obtain ⟨i0, hi, hz0, hz1, hz2⟩ := info_parts info151
  go_enter Tryz.func65, Tryz.ntmps65
  have hnl : ¬ ((xs.length : Int) < ys.length) := by omega
  go_wp2_with (refine wpList_make_own _ rfl _ _ 93 rfl w.heap.size 98 i0 (.int .u64 0) 1 Tryz.underlying93 hi hz0 hz1 _ _ _ (xs.length + 1) rfl rfl (by simp) (by rw [hz2]; omega) (by unfold maxLen; omega) (by simp) ?_; intro w1 hown1 hg1)
  have hb1 : Below w.heap.size w w1 := (Below.refl _ _).grown hg1 (Nat.le_refl _) (fun k e => by cases e)
  have o1 : Owns w1 w.heap.size 98 .u64 (.slice (some ⟨w.heap.size, 0, none⟩) 0 (xs.length + 1)) [] := hown1
  clear hown1 hg1
  go_loopw [5, 6, 22] (fun v cy i wr => ∃ (k cyn : Nat) (os : List Nat), k ≤ xs.length ∧ i = .int .i64 k ∧ cy = .int .u64 cyn ∧ Owns wr w.heap.size 98 .u64 v os ∧ os.length = k ∧ Bnd B9 os ∧ cyn ≤ 1 ∧ val B9 os + B9 ^ k * cyn = val B9 (xs.take k) + val B9 (ys.take k) ∧ Below w.heap.size w wr)
    (fun _ _ i _ => xs.length - (intOf i).toNat)
  case atStart => exact ⟨0, 0, [], Nat.zero_le _, rfl, rfl, o1, rfl, Bnd.nil _, by omega, by simp [val], hb1⟩
  case round =>
    obtain ⟨k, cyn, os, hk, rfl, rfl, hown, hol, hob, hcy, hval, hbel⟩ := hrel
    have HV := Lib.hid hval; clear hval
    have HOL := Lib.hid hol; clear hol
    by_cases hlt : k < xs.length
    · obtain ⟨b1, off1, rfl, hlt1, hcell1⟩ := h1.2 (by omega)
      have hcA := (hbel.cell (p := ⟨b1, off1 + k, none⟩) hlt1).trans (hcell1 k hlt)
      obtain ⟨x, hx⟩ : ∃ x, x = xs.getD k 0 := ⟨_, rfl⟩
      have hxb : x < 1000000000 := by rw [hx]; exact ha.getD B9_pos k
      rw [← hx] at hcA
      have HX := Lib.hid hx; clear hx
      by_cases hlt2 : k < ys.length
      · obtain ⟨b2, off2, rfl, hltb2, hcell2⟩ := h2.2 (by omega)
        have hcB := (hbel.cell (p := ⟨b2, off2 + k, none⟩) hltb2).trans (hcell2 k hlt2)
        obtain ⟨y, hy⟩ : ∃ y, y = ys.getD k 0 := ⟨_, rfl⟩
        have hyb : y < 1000000000 := by rw [hy]; exact hb.getD B9_pos k
        rw [← hy] at hcB
        have HY := Lib.hid hy; clear hy
        have R := Lib.hid (plus_round xs ys os k cyn hlt ha hb HOL.out hob hcy HV.out)
        clear hcell1 hcell2
        go_wp2_with (at_builtin; refine app_num ((x + cyn + y) % 1000000000) rfl rfl Tryz.underlying93 info151 (by decide) rfl rfl hown hbel (by have := hbel.size; omega) (by have := HOL.out; omega) ?_ ?_)
        intro v1 w1 hown1 hbel1 _
        obtain ⟨r1, r2, r3⟩ := R.out
        simp only [if_pos hlt2, ← HX.out, ← HY.out] at r1 r2 r3
        have R1 := Lib.hid r1; have R3 := Lib.hid r3; clear r1 r3
        go_wp2
        go_roundw
        case rel => exact ⟨k + 1, (x + cyn + y) / 1000000000, os ++ [(x + cyn + y) % 1000000000], by omega, by go_num, by go_num, hown1, by simp [HOL.out], R1.out, r2, R3.out, hbel1⟩
        case measure => simp [intOf]; omega
      · have R := Lib.hid (plus_round xs ys os k cyn hlt ha hb HOL.out hob hcy HV.out)
        clear hcell1
        go_wp2_with (at_builtin; refine app_num ((x + cyn) % 1000000000) rfl rfl Tryz.underlying93 info151 (by decide) rfl rfl hown hbel (by have := hbel.size; omega) (by have := HOL.out; omega) ?_ ?_)
        intro v1 w1 hown1 hbel1 _
        obtain ⟨r1, r2, r3⟩ := R.out
        simp only [if_neg hlt2, ← HX.out, Nat.add_zero] at r1 r2 r3
        have R1 := Lib.hid r1; have R3 := Lib.hid r3; clear r1 r3
        go_wp2
        go_roundw
        case rel => exact ⟨k + 1, (x + cyn) / 1000000000, os ++ [(x + cyn) % 1000000000], by omega, by go_num, by go_num, hown1, by simp [HOL.out], R1.out, r2, R3.out, hbel1⟩
        case measure => simp [intOf]; omega
    · have hkk : k = xs.length := by omega
      subst hkk
      go_wp2_with (at_builtin; refine app_num cyn rfl rfl Tryz.underlying93 info151 (by decide) rfl rfl hown hbel (by have := hbel.size; omega) (by have := HOL.out; omega) ?_ ?_)
      · trivial
      intro v1 w2 hown1 hbel1 _
      obtain ⟨zs, hzs⟩ : ∃ zs, zs = os ++ [cyn] := ⟨_, rfl⟩
      have hzl : zs.length ≤ 1000000 := by rw [hzs]; have := HOL.out; simp; omega
      rw [← hzs] at hown1
      have HZ := Lib.hid hzs; clear hzs
      obtain ⟨A, c, rfl, hrd, hcc⟩ := hown1.reads hzl
      go_wp2_with (go_at_call 109; refine (trim_any _ _ _ _ hrd hcc).mono ?_; rintro e w' ⟨rfl, rfl⟩)
      go_ret
      refine ⟨_, trimN zs, rfl, hown1.trim, trimN_trimmed _, trimN_bnd (by rw [HZ.out]; exact hob.snoc (by have := B9_eq; omega)), ?_, hbel1⟩
      · rw [trimN_val, HZ.out, val_snoc, HOL.out]
        have := HV.out
        rw [List.take_length, List.take_of_length_le hle] at this
        exact this
set_option maxRecDepth 100000 in
set_option maxHeartbeats 1000000 in
theorem plus_core2 (xs ys : List Nat) (A1 A2 : Option Addr) (c1 c2 : Nat) (w : World) (h1 : Reads w .u64 A1 xs) (h2 : Reads w .u64 A2 ys) 
    (ha : Bnd B9 xs) (hb : Bnd B9 ys) (hlt0 : ys.length < xs.length) (hsz : xs.length ≤ 100000) :
    Calls Tryz.prog 65 #[.slice A2 ys.length c2, .slice A1 xs.length c1] w fun e w' => ∃ v zs, e = .returned v ∧ Owns w' w.heap.size 98 .u64 v zs ∧ Trimmed zs ∧ Bnd B9 zs ∧ val B9 zs = val B9 xs + val B9 ys ∧ Below w.heap.size w w' := by
  have hl1 := h1.1
  have hl2 := h2.1
  obtain ⟨i0, hi, hz0, hz1, hz2⟩ := info_parts info151
  go_enter Tryz.func65, Tryz.ntmps65
  have hle : ys.length ≤ xs.length := by omega
  have hnl : ((ys.length : Int) < xs.length) := by omega
  go_wp2_with (refine wpList_make_own _ rfl _ _ 93 rfl w.heap.size 98 i0 (.int .u64 0) 1 Tryz.underlying93 hi hz0 hz1 _ _ _ (xs.length + 1) rfl rfl (by simp) (by rw [hz2]; omega) (by unfold maxLen; omega) (by simp) ?_; intro w1 hown1 hg1)
  have hb1 : Below w.heap.size w w1 := (Below.refl _ _).grown hg1 (Nat.le_refl _) (fun k e => by cases e)
  have o1 : Owns w1 w.heap.size 98 .u64 (.slice (some ⟨w.heap.size, 0, none⟩) 0 (xs.length + 1)) [] := hown1
  clear hown1 hg1
  go_loopw [5, 6, 22] (fun v cy i wr => ∃ (k cyn : Nat) (os : List Nat), k ≤ xs.length ∧ i = .int .i64 k ∧ cy = .int .u64 cyn ∧ Owns wr w.heap.size 98 .u64 v os ∧ os.length = k ∧ Bnd B9 os ∧ cyn ≤ 1 ∧ val B9 os + B9 ^ k * cyn = val B9 (xs.take k) + val B9 (ys.take k) ∧ Below w.heap.size w wr)
    (fun _ _ i _ => xs.length - (intOf i).toNat)
  case atStart => exact ⟨0, 0, [], Nat.zero_le _, rfl, rfl, o1, rfl, Bnd.nil _, by omega, by simp [val], hb1⟩
  case round =>
    obtain ⟨k, cyn, os, hk, rfl, rfl, hown, hol, hob, hcy, hval, hbel⟩ := hrel
    have HV := Lib.hid hval; clear hval
    have HOL := Lib.hid hol; clear hol
    by_cases hlt : k < xs.length
    · obtain ⟨b1, off1, rfl, hlt1, hcell1⟩ := h1.2 (by omega)
      have hcA := (hbel.cell (p := ⟨b1, off1 + k, none⟩) hlt1).trans (hcell1 k hlt)
      obtain ⟨x, hx⟩ : ∃ x, x = xs.getD k 0 := ⟨_, rfl⟩
      have hxb : x < 1000000000 := by rw [hx]; exact ha.getD B9_pos k
      rw [← hx] at hcA
      have HX := Lib.hid hx; clear hx
      by_cases hlt2 : k < ys.length
      · obtain ⟨b2, off2, rfl, hltb2, hcell2⟩ := h2.2 (by omega)
        have hcB := (hbel.cell (p := ⟨b2, off2 + k, none⟩) hltb2).trans (hcell2 k hlt2)
        obtain ⟨y, hy⟩ : ∃ y, y = ys.getD k 0 := ⟨_, rfl⟩
        have hyb : y < 1000000000 := by rw [hy]; exact hb.getD B9_pos k
        rw [← hy] at hcB
        have HY := Lib.hid hy; clear hy
        have R := Lib.hid (plus_round xs ys os k cyn hlt ha hb HOL.out hob hcy HV.out)
        clear hcell1 hcell2
        go_wp2_with (at_builtin; refine app_num ((x + cyn + y) % 1000000000) rfl rfl Tryz.underlying93 info151 (by decide) rfl rfl hown hbel (by have := hbel.size; omega) (by have := HOL.out; omega) ?_ ?_)
        intro v1 w1 hown1 hbel1 _
        obtain ⟨r1, r2, r3⟩ := R.out
        simp only [if_pos hlt2, ← HX.out, ← HY.out] at r1 r2 r3
        have R1 := Lib.hid r1; have R3 := Lib.hid r3; clear r1 r3
        go_wp2
        go_roundw
        case rel => exact ⟨k + 1, (x + cyn + y) / 1000000000, os ++ [(x + cyn + y) % 1000000000], by omega, by go_num, by go_num, hown1, by simp [HOL.out], R1.out, r2, R3.out, hbel1⟩
        case measure => simp [intOf]; omega
      · have R := Lib.hid (plus_round xs ys os k cyn hlt ha hb HOL.out hob hcy HV.out)
        clear hcell1
        go_wp2_with (at_builtin; refine app_num ((x + cyn) % 1000000000) rfl rfl Tryz.underlying93 info151 (by decide) rfl rfl hown hbel (by have := hbel.size; omega) (by have := HOL.out; omega) ?_ ?_)
        intro v1 w1 hown1 hbel1 _
        obtain ⟨r1, r2, r3⟩ := R.out
        simp only [if_neg hlt2, ← HX.out, Nat.add_zero] at r1 r2 r3
        have R1 := Lib.hid r1; have R3 := Lib.hid r3; clear r1 r3
        go_wp2
        go_roundw
        case rel => exact ⟨k + 1, (x + cyn) / 1000000000, os ++ [(x + cyn) % 1000000000], by omega, by go_num, by go_num, hown1, by simp [HOL.out], R1.out, r2, R3.out, hbel1⟩
        case measure => simp [intOf]; omega
    · have hkk : k = xs.length := by omega
      subst hkk
      go_wp2_with (at_builtin; refine app_num cyn rfl rfl Tryz.underlying93 info151 (by decide) rfl rfl hown hbel (by have := hbel.size; omega) (by have := HOL.out; omega) ?_ ?_)
      · trivial
      intro v1 w2 hown1 hbel1 _
      obtain ⟨zs, hzs⟩ : ∃ zs, zs = os ++ [cyn] := ⟨_, rfl⟩
      have hzl : zs.length ≤ 1000000 := by rw [hzs]; have := HOL.out; simp; omega
      rw [← hzs] at hown1
      have HZ := Lib.hid hzs; clear hzs
      obtain ⟨A, c, rfl, hrd, hcc⟩ := hown1.reads hzl
      go_wp2_with (go_at_call 109; refine (trim_any _ _ _ _ hrd hcc).mono ?_; rintro e w' ⟨rfl, rfl⟩)
      go_ret
      refine ⟨_, trimN zs, rfl, hown1.trim, trimN_trimmed _, trimN_bnd (by rw [HZ.out]; exact hob.snoc (by have := B9_eq; omega)), ?_, hbel1⟩
      · rw [trimN_val, HZ.out, val_snoc, HOL.out]
        have := HV.out
        rw [List.take_length, List.take_of_length_le hle] at this
        exact this

/-- The sum. -/
theorem plus_any (a b : Nat) (A1 A2 : Option Addr) (l1 l2 c1 c2 : Nat) (w : World) (h1 : Num w A1 l1 c1 a) (h2 : Num w A2 l2 c2 b) (hs1 : l1 ≤ 100000) (hs2 : l2 ≤ 100000) :
    Calls Tryz.prog 65 #[.slice A1 l1 c1, .slice A2 l2 c2] w fun e w' => ∃ v, e = .returned v ∧ Owns w' w.heap.size 98 .u64 v (limbs B9 (a + b)) ∧ Below w.heap.size w w' := by
  obtain ⟨rfl, hc1, hr1⟩ := h1
  obtain ⟨rfl, hc2, hr2⟩ := h2
  by_cases hle : (limbs B9 b).length ≤ (limbs B9 a).length
  · refine (plus_core _ _ _ _ _ _ w hr1 hr2 (bnd_limbs B9_two a) (bnd_limbs B9_two b) hle hs1).mono ?_
    rintro e w' ⟨v, zs, rfl, ho, ht, hb, hv, hbel⟩
    rw [val_limbs B9_two, val_limbs B9_two] at hv
    rw [← trimN_eq_limbs B9_two hb hv, ht]
    exact ⟨v, rfl, ho, hbel⟩
  · refine (plus_core2 _ _ _ _ _ _ w hr2 hr1 (bnd_limbs B9_two b) (bnd_limbs B9_two a) (by omega) hs2).mono ?_
    rintro e w' ⟨v, zs, rfl, ho, ht, hb, hv, hbel⟩
    rw [val_limbs B9_two, val_limbs B9_two, Nat.add_comm] at hv
    rw [← trimN_eq_limbs B9_two hb hv, ht]
    exact ⟨v, rfl, ho, hbel⟩
end Go.Proofs.Cr
/- A row of the call's own: its cells read and written. -/
namespace Go.Proofs.Cr
open Go.RowKit
section
variable {w : World} {base e : Nat} {k : IntKind} {g n c : Nat} {xs : List Nat}
theorem Owns.len {v : Value} (h : Owns w base e k v xs) {A : Option Addr} (hv : v = .slice A n c) : n = xs.length := by
  subst hv
  rcases h.2 with ⟨hv, h0⟩ | ⟨g, cap, cur, hv, _⟩
  · cases hv; omega
  · cases hv; rfl
theorem Owns.cell (h : Owns w base e k (.slice (some ⟨g, 0, none⟩) n c) xs) (j : Nat) (hj : j < xs.length) : w.cell? ⟨g, j, none⟩ = some (.int k (xs.getD j 0 : Nat)) := by
  have hn := h.len rfl
  subst hn
  rw [World.ownsRow.cellAt h j (by omega), nums_get k xs j hj]
theorem Owns.free (h : Owns w base e k (.slice (some ⟨g, 0, none⟩) n c) xs) (j : Nat) : w.frozen? ⟨g, j, none⟩ = false := by
  have hn := h.len rfl
  subst hn
  exact World.ownsRow.frozenAt h j
theorem Owns.store (h : Owns w base e k (.slice (some ⟨g, 0, none⟩) n c) xs) (j : Nat) (x : Nat) (_hj : j < xs.length) : Owns (w.setCell ⟨g, j, none⟩ (.int k (x : Int))) base e k (.slice (some ⟨g, 0, none⟩) n c) (xs.set j x) := by
  have hn := h.len rfl
  subst hn
  have h' := h
  unfold Owns
  rw [List.length_set]
  rcases h.2 with ⟨hv, h0⟩ | ⟨g', cap, cur, hv, hb, hh, hn, hm, hs, ht⟩
  · cases hv
  · cases hv
    refine ⟨by simp [nums_len], .inr ⟨g, _, cur.setIfInBounds j (.int k (x : Int)), rfl, hb, ?_, hn, hm, by simpa using hs, ?_⟩⟩
    · simp only [World.setCell, Array.getElem?_modify, if_true, hh, Option.map_some]
      simp
    · rw [Nat.mul_one] at ht ⊢
      rw [Array.toList_setIfInBounds, List.take_set, ht]
      simp [nums, List.map_set]
theorem Owns.base_le (h : Owns w base e k (.slice (some ⟨g, 0, none⟩) n c) xs) : base ≤ g := (World.ownsRow.lt h g rfl).1
theorem Owns.lt_size (h : Owns w base e k (.slice (some ⟨g, 0, none⟩) n c) xs) : g < w.heap.size := (World.ownsRow.lt h g rfl).2
/-- What is written is another block. -/
theorem Owns.other {v : Value} (h : Owns w base e k v xs) {p : Addr} (u : Value) (hne : v.ownBlock ≠ some p.block) : Owns (w.setCell p u) base e k v xs := ownsRow_setCell_other h hne u
theorem Owns.grown {w' : World} {v : Value} {row : Option Nat} (h : Owns w base e k v xs) (hg : w.grownBy w' row) (hne : v.ownBlock ≠ row ∨ v.ownBlock = none) : Owns w' base e k v xs :=
  World.ownsRow.kept h hg (hne.symm)
/-- Where there is an element the row has a block. -/
theorem Owns.form {v : Value} (h : Owns w base e k v xs) (hp : 0 < xs.length) : ∃ g c, v = .slice (some ⟨g, 0, none⟩) xs.length c := by
  rcases h.2 with ⟨hv, h0⟩ | ⟨g, cap, cur, hv, _⟩
  · omega
  · exact ⟨g, cap, hv⟩
theorem Owns.slice {v : Value} (h : Owns w base e k v xs) : ∃ A c, v = .slice A xs.length c := by
  rcases h.2 with ⟨hv, h0⟩ | ⟨g, cap, cur, hv, _⟩
  · exact ⟨none, 0, by rw [hv, h0]⟩
  · exact ⟨_, cap, hv⟩
end
theorem madeCells_nums (k : IntKind) (n : Nat) : (madeCells (Value.int k 0).cells (n * 1)).toList = nums k (List.replicate n 0) := by
  rw [Nat.mul_one]
  show (madeCells #[Value.int k 0] n).toList = _
  rw [toList_madeCells_one]
  simp [nums]
theorem getD_set_same (xs : List Nat) (j x : Nat) (h : j < xs.length) : (xs.set j x).getD j 0 = x := by simp [List.getD_eq_getElem?_getD, h]
theorem getD_set_ne (xs : List Nat) (i j x : Nat) (h : i ≠ j) : (xs.set i x).getD j 0 = xs.getD j 0 := by simp [List.getD_eq_getElem?_getD, List.getElem?_set_ne h]
theorem take_set_ge (xs : List Nat) (j i x : Nat) (h : i ≤ j) : (xs.set j x).take i = xs.take i := by
  rw [List.take_set, List.set_eq_of_length_le]; simp; omega
theorem drop_set_lt (xs : List Nat) (j i x : Nat) (h : j < i) : (xs.set j x).drop i = xs.drop i := by
  rw [List.drop_set, if_pos h]
theorem val_set_take (B : Nat) (xs : List Nat) (j x : Nat) (h : j < xs.length) : val B ((xs.set j x).take (j + 1)) = val B (xs.take j) + B ^ j * x := by
  rw [val_take_succ _ _ _ (by simpa using h), take_set_ge _ _ _ _ (Nat.le_refl _), getD_set_same _ _ _ h]
end Go.Proofs.Cr
namespace Go.Proofs.Cr
open Go.RowKit
theorem Owns.put {w : World} {base e : Nat} {k : IntKind} {g n c : Nat} {xs : List Nat} (h : Owns w base e k (.slice (some ⟨g, 0, none⟩) n c) xs) (j : Nat) (x : Nat) (z : Int) (hz : z = (x : Int)) (hj : j < xs.length) : Owns (w.setCell ⟨g, j, none⟩ (.int k z)) base e k (.slice (some ⟨g, 0, none⟩) n c) (xs.set j x) := by
  subst hz; exact h.store j x hj
end Go.Proofs.Cr
namespace Go.Proofs.Cr
open Go.RowKit
/-- 'make([]T, m)', m known: the run of the operation, for the walk to take; C the zero cells. -/
theorem make_num {P : Program} (t e : TypeId) (k : IntKind) (bytes : Nat) (ht : P.underlying t = some (.slice e)) (hinfo : (P.info? e).map (fun i => (i.zero, i.size, i.bytes)) = some (some (.int k 0), 1, bytes)) (hb : bytes ≤ 8) (m : Nat) (hm : m ≤ 1000000) :
    ∃ C : Array Value, C = madeCells #[.int k 0] m ∧ ∀ W : World, (Instr.makeSlice t (.int .i64 (m : Int)) (.int .i64 (m : Int))).run P W = .ok (.slice (some ⟨W.heap.size, 0, none⟩) m m) (W.alloc (.cells C e)) :=
  ⟨_, rfl, fun W => run_make_row' t e (.int k 0) bytes ht hinfo rfl .i64 .i64 m (by
    have : bytes * m ≤ 8 * m := Nat.mul_le_mul_right _ hb
    omega) (by omega) W⟩
theorem Owns.made {k : IntKind} {m : Nat} {C : Array Value} (hC : C = madeCells #[.int k 0] m) (W : World) (base e : Nat) (hb : base ≤ W.heap.size) (hm : m ≤ 1000000) :
    Owns (W.alloc (.cells C e)) base e k (.slice (some ⟨W.heap.size, 0, none⟩) m m) (List.replicate m 0) := by
  subst hC
  have h := World.ownsRow_lit (base := base) (e := e) (size := 1) W (madeCells #[.int k 0] m) m hb (by unfold maxLen; omega) (by simp [size_madeCells])
  have hl : (madeCells #[Value.int k 0] m).toList = nums k (List.replicate m 0) := by rw [toList_madeCells_one]; simp [nums]
  rw [hl] at h
  unfold Owns
  rw [List.length_replicate]
  exact h
end Go.Proofs.Cr
namespace Go.Proofs.Cr
open Go.RowKit
theorem Owns.alloc {w : World} {base e : Nat} {k : IntKind} {v : Value} {xs : List Nat} (h : Owns w base e k v xs) (o : Obj) : Owns (w.alloc o) base e k v xs := World.ownsRow.alloc h o
end Go.Proofs.Cr
