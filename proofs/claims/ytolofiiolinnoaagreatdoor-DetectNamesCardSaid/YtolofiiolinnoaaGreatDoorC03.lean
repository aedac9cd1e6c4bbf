/- Contracts of functions that the laws reach, and plain lemmas. Part 3. -/
import Derived.OrdersHeld
import Derived.OrdersIn
import Derived.Deep.RegionHeld
import Derived.Test.YtolofiiolinnoaaGreatDoorShelf
import Derived.Test.YtolofiiolinnoaaGreatDoorC01
import Derived.Test.YtolofiiolinnoaaGreatDoorC02
set_option linter.all false
/- A drawn region within a round: an operation may be taken first where the cells that it reads stand (C), until one of the last stores (T) comes. -/
namespace Go.Proofs.Cr
open Go Go.RowKit
section
variable {F : Fence} {n : Nat} {P : Program} {ops : Array Oper} {Q : Exit → Act → World → Prop} {md : Region.Mode} {C : World → Prop} {T : List Nat}

/-- No operation defers. -/
def noDefer (ops : Array Oper) : Bool := ops.all fun o => match o.op with | .defer _ => false | _ => true
theorem noDefer_spec (h : noDefer ops = true) : ∀ (j : Nat) (o : Oper), ops[j]? = some o → ∀ c, o.op ≠ .defer c := by
  intro j o ho c hc
  obtain ⟨hlt, e⟩ := Array.getElem?_eq_some_iff.1 ho
  have := (Array.all_eq_true.1 h) j hlt
  rw [e, hc] at this
  cases this

def YieldsJ (P : Program) (ops : Array Oper) (C : World → Prop) (o : Oper) (v : Value) (a : Act) : Prop :=
  (Region.wanted o (yielded ops a.tmps) = true ∧ ∀ w, C w → (execOp a.eval o).run P w = .ok (.value v) w) ∨
  (Region.wanted o (yielded ops a.tmps) = false ∧ v = undef)
theorem YieldsJ.of_same {o : Oper} {v : Value} {a a' : Act} (hy : YieldsJ P ops C o v a) (he : execOp a'.eval o = execOp a.eval o)
    (hw : Region.wanted o (yielded ops a'.tmps) = Region.wanted o (yielded ops a.tmps)) : YieldsJ P ops C o v a' := by
  unfold YieldsJ at *
  rw [he, hw]
  exact hy
theorem YieldsJ.wpOpIn (hfn : ∀ f, F.fn f) (hnd : noDefer ops = true) {i : Nat} {o : Oper} {v : Value} {a : Act} (hi : ops[i]? = some o) (hy : YieldsJ P ops C o v a)
    {K : Act → World → Prop} {w : World} (hS : C w) (h : K (a.put o.dst v) w) : wpOpIn F n P ops Q i K a w := by
  unfold Go.wpOpIn
  simp only [hi]
  rcases hy with ⟨hw, hv⟩ | ⟨hw, rfl⟩
  · simp only [hw, if_true, Oper.wpIn, Oper.semAt_eq _ _ _ (noDefer_spec hnd i o hi), hv w hS, Oper.uponIn]; exact ⟨fun f _ => hfn f, h⟩
  · simp only [hw, Bool.false_eq_true, if_false]; exact ⟨fun f _ => hfn f, h⟩

theorem wpOpIn_putJ (hfn : ∀ f, F.fn f) (hnd : noDefer ops = true) {j : Nat} {oi oj : Oper} {v : Value} (hj : ops[j]? = some oj) (hap : oi.apart ops oj = true)
    (hsi : ∀ cs b, oi.op ≠ .select cs b) (hsj : ∀ cs b, oj.op ≠ .select cs b)
    (hQ : ∀ c a w, Q (.panic c) (a.put oi.dst v) w → Q (.panic c) a w) {K : Act → World → Prop} {a : Act} {w : World}
    (hy : YieldsJ P ops C oi v a) (h : wpOpIn F n P ops Q j K (a.put oi.dst v) w) :
    wpOpIn F n P ops Q j (fun a' w' => YieldsJ P ops C oi v a' ∧ K (a'.put oi.dst v) w') a w := by
  obtain ⟨h1, h2, h3⟩ := Oper.apart_spec hap
  have hnj := noDefer_spec hnd j oj hj
  have keep : ∀ (a : Act), YieldsJ P ops C oi v a → ∀ u, YieldsJ P ops C oi v (a.put oj.dst u) := fun a hy u =>
    hy.of_same (execOp_put oi hsi a oj.dst u h3) (wanted_put oi a oj.dst u h3)
  have keepD : ∀ d, YieldsJ P ops C oi v { a with defers := d :: a.defers } := fun d => hy.of_same rfl rfl
  unfold wpOpIn at *
  simp only [hj] at *
  rw [wanted_put oj a oi.dst v h1] at h
  split
  · rename_i hw
    simp only [hw, if_true] at h
    unfold Oper.wpIn at *
    refine ⟨fun f _ => hfn f, ?_⟩
    have h := h.2
    rw [Oper.semAt_eq _ _ _ hnj] at h ⊢
    rw [execOp_put oj hsj a oi.dst v h1] at h
    generalize (execOp a.eval oj).run P w = r at *
    cases r with
    | ok n w' =>
      cases n <;> simp only [Oper.uponIn] at h ⊢
      case value u => exact ⟨keep a hy u, by rw [← Act.put_comm a v u h2]; exact h⟩
      case skip => exact ⟨keep a hy _, by rw [← Act.put_comm a v undef h2]; exact h⟩
      case defer d =>
        refine ⟨keep _ (keepD d) _, ?_⟩
        rw [← Act.put_comm _ v undef h2, ← Act.put_defers]
        exact h
      case enter f args =>
        refine ⟨h.1, CallsIn.mono h.2 fun e w'' he => ?_⟩
        cases e with
        | returned u => exact ⟨keep a hy u, by rw [← Act.put_comm a v u h2]; exact he⟩
        | panicked c => exact hQ _ _ _ he
        | outgrown => exact he
      case row row args => exact ⟨h.1, RowsIn.mono h.2 fun u w'' he => ⟨keep a hy u, by rw [← Act.put_comm a v u h2]; exact he⟩⟩
      case round l f tmps assign body =>
        refine ⟨h.1, RoundIn.mono h.2 fun e w'' he => ?_⟩
        cases e with
        | returned u => exact ⟨keep a hy u, by rw [← Act.put_comm a v u h2]; exact he⟩
        | panicked c => exact hQ _ _ _ he
        | outgrown => exact he
    | halt x w' =>
      cases x <;> simp only [Oper.uponIn] at h ⊢
      case panic u => exact hQ _ _ _ h
  · rename_i hw
    simp only [hw] at h
    exact ⟨fun f _ => hfn f, keep a hy _, by rw [← Act.put_comm a v undef h2]; exact h.2⟩

def wpAnyJ (F : Fence) (n : Nat) (P : Program) (md : Region.Mode) (ops : Array Oper) (Q : Exit → Act → World → Prop) (C : World → Prop) (T : List Nat) : Nat → Array Bool → Act → World → Prop
  | 0, listed, a, w => Region.ready md ops listed = [] ∧ Q .normal a w
  | fuel + 1, listed, a, w =>
    (Region.ready md ops listed = [] → Q .normal a w) ∧
    ∀ i ∈ Region.ready md ops listed, wpOpIn F n P ops Q i (fun a' w' => (T.contains i = false → C w') ∧ wpAnyJ F n P md ops Q C T fuel (listed.setIfInBounds i true) a' w') a w

theorem wpAny_of_J : ∀ (fuel : Nat) (listed : Array Bool) (a : Act) (w : World), wpAnyJ F n P md ops Q C T fuel listed a w → wpAnyIn F n P md ops Q fuel listed a w
  | 0, _, _, _, h => h
  | fuel + 1, _, _, _, h => ⟨h.1, fun i hi => wpOpIn_mono (fun a' w' h' => wpAny_of_J fuel _ a' w' h'.2) (h.2 i hi)⟩

/-- The last stores that have not come up wait for i. -/
def lastB (md : Region.Mode) (ops : Array Oper) (listed : Array Bool) (T : List Nat) (i : Nat) : Bool :=
  T.all fun j => j != i && (listed.getD j true || ((ops[j]?).map fun o => o.after.any fun e => Region.binds md e && e.on == i).getD true)

theorem wpAnyJ_first (hfn : ∀ f, F.fn f) (hnd : noDefer ops = true) {i : Nat} {oi : Oper} {v : Value} (hi : ops[i]? = some oi) (hsel : ∀ (j : Nat) (o : Oper) cs b, ops[j]? = some o → o.op ≠ .select cs b)
    (hQ : ∀ c a w, Q (.panic c) (a.put oi.dst v) w → Q (.panic c) a w) (hiT : T.contains i = false) :
    ∀ (fuel : Nat) (listed : Array Bool) (a : Act) (w : World),
      (∀ j oj, ops[j]? = some oj → j ≠ i → listed.getD j true = false → (∀ e ∈ oj.after, Region.binds md e = true → e.on ≠ i) → oi.apart ops oj = true ∧ T.contains j = false) →
      i ∈ Region.ready md ops listed → YieldsJ P ops C oi v a → C w →
      wpAnyJ F n P md ops Q C T fuel (listed.setIfInBounds i true) (a.put oi.dst v) w → wpAnyJ F n P md ops Q C T (fuel + 1) listed a w := by
  intro fuel
  induction fuel with
  | zero =>
    intro listed a w _ hr hy hS H
    refine ⟨fun h => (by rw [h] at hr; cases hr), fun j hj => ?_⟩
    by_cases hji : j = i
    · subst hji; exact hy.wpOpIn hfn hnd hi hS ⟨fun _ => hS, H⟩
    · have := ready_mono hj hji
      rw [H.1] at this
      cases this
  | succ fuel ih =>
    intro listed a w hfree hr hy hS H
    refine ⟨fun h => (by rw [h] at hr; cases hr), fun j hj => ?_⟩
    by_cases hji : j = i
    · subst hji; exact hy.wpOpIn hfn hnd hi hS ⟨fun _ => hS, H⟩
    · have h1 := H.2 j (ready_mono hj hji)
      obtain ⟨hjun, oj, hoj, hall⟩ := mem_ready.1 hj
      have hnot : ∀ e ∈ oj.after, Region.binds md e = true → e.on ≠ i := fun e he hb heq => by
        have h1 := hall e he hb
        have h0 := (mem_ready.1 hr).1
        rw [heq] at h1
        rcases Nat.lt_or_ge i listed.size with h' | h'
        · simp [h'] at h0 h1; rw [h0] at h1; cases h1
        · simp [Array.getElem?_eq_none h'] at h1
      obtain ⟨hap, hjT⟩ := hfree j oj hoj hji hjun hnot
      have h2 := wpOpIn_putJ hfn hnd hoj hap (fun cs b => hsel i oi cs b hi) (fun cs b => hsel j oj cs b hoj) hQ hy h1
      have hfree' : ∀ k ok, ops[k]? = some ok → k ≠ i → (listed.setIfInBounds j true).getD k true = false →
          (∀ e ∈ ok.after, Region.binds md e = true → e.on ≠ i) → oi.apart ops ok = true ∧ T.contains k = false := fun k ok hk hki hun hno => by
        refine hfree k ok hk hki ?_ hno
        by_cases hjk : j = k
        · subst hjk; exact hjun
        · rw [Go.getD_set_ne true hjk] at hun; exact hun
      refine wpOpIn_mono (fun a' w' h3 => ⟨h3.2.1, ih (listed.setIfInBounds j true) a' w' hfree' (ready_mono hr (Ne.symm hji)) h3.1 (h3.2.1 hjT) ?_⟩) h2
      rw [Array.setIfInBounds_comm _ _ hji]
      exact h3.2.2

theorem lastB_spec {listed : Array Bool} {i : Nat} (h : lastB md ops listed T i = true) : T.contains i = false ∧
    ∀ j oj, ops[j]? = some oj → listed.getD j true = false → (∀ e ∈ oj.after, Region.binds md e = true → e.on ≠ i) → T.contains j = false := by
  unfold lastB at h
  rw [List.all_eq_true] at h
  refine ⟨?_, ?_⟩
  · rw [← Bool.not_eq_true, List.contains_iff_mem]
    intro hm
    have := h i hm
    simp at this
  · intro j oj hj hun hno
    rw [← Bool.not_eq_true, List.contains_iff_mem]
    intro hm
    have := h j hm
    rw [Bool.and_eq_true, hun, hj] at this
    have h2 := this.2
    simp only [Bool.false_or, Option.map_some, Option.getD_some, Array.any_eq_true, Bool.and_eq_true, beq_iff_eq] at h2
    obtain ⟨x, hx, hb, e⟩ := h2
    exact hno _ (Array.getElem_mem hx) hb e

theorem wpAnyJ_take (hfn : ∀ f, F.fn f) (hnd : noDefer ops = true) {i : Nat} {oi : Oper} {v : Value} {fuel : Nat} {listed : Array Bool} {a : Act} {w : World} (hi : ops[i]? = some oi)
    (hs : Region.noSelect ops = true) (hQ : ∀ c a w, Q (.panic c) (a.put oi.dst v) w → Q (.panic c) a w)
    (hf : (Region.free md ops listed i && lastB md ops listed T i && (Region.ready md ops listed).contains i) = true) (hC : C w)
    (hy : YieldsJ P ops C oi v a)
    (h : wpAnyJ F n P md ops Q C T fuel (listed.setIfInBounds i true) (a.put oi.dst v) w) : wpAnyJ F n P md ops Q C T (fuel + 1) listed a w := by
  rw [Bool.and_eq_true, Bool.and_eq_true] at hf
  obtain ⟨⟨hf, hl⟩, hr⟩ := hf
  obtain ⟨hl1, hl2⟩ := lastB_spec hl
  exact wpAnyJ_first hfn hnd hi (Region.noSelect_spec hs) hQ hl1 fuel listed a w (fun j oj h1 h2 h3 h4 => ⟨Region.free_spec hi hf j oj h1 h2 h3 h4, hl2 j oj h1 h3 h4⟩) (by simpa using hr) hy hC h

theorem wpAnyJ_all {rs : List Nat} {fuel : Nat} {listed : Array Bool} {a : Act} {w : World} (hr : Region.ready md ops listed = rs) (hne : rs ≠ [])
    (h : ∀ i ∈ rs, wpOpIn F n P ops Q i (fun a' w' => (T.contains i = false → C w') ∧ wpAnyJ F n P md ops Q C T fuel (listed.setIfInBounds i true) a' w') a w) : wpAnyJ F n P md ops Q C T (fuel + 1) listed a w :=
  ⟨fun h0 => absurd (hr ▸ h0) hne, hr ▸ h⟩
/-- One alone may come up: an operation that leaves the world w2. -/
theorem wpAnyJ_one (hfn : ∀ f, F.fn f) (hnd : noDefer ops = true) {i : Nat} {oi : Oper} {fuel : Nat} {listed : Array Bool} {a : Act} {w w2 : World} (hi : ops[i]? = some oi) (hr : Region.ready md ops listed = [i])
    (hd : oi.dst = none) (hw : Region.wanted oi (yielded ops a.tmps) = true) (h1 : (execOp a.eval oi).run P w = .ok .skip w2) (hT : T.contains i = false → C w2)
    (h : wpAnyJ F n P md ops Q C T fuel (listed.setIfInBounds i true) a w2) : wpAnyJ F n P md ops Q C T (fuel + 1) listed a w := by
  refine wpAnyJ_all hr (by simp) ?_
  intro k hk
  have : k = i := by simpa using hk
  subst this
  unfold wpOpIn
  simp only [hi, hw, if_true, Oper.wpIn, Oper.semAt_eq _ _ _ (noDefer_spec hnd k oi hi), h1, Oper.uponIn]
  refine ⟨fun f _ => hfn f, hT, ?_⟩
  rw [hd]
  exact h
theorem wpAnyJ_done {listed : Array Bool} {a : Act} {w : World} (hr : Region.ready md ops listed = []) (h : Q .normal a w) :
    ∀ fuel, wpAnyJ F n P md ops Q C T fuel listed a w
  | 0 => ⟨hr, h⟩
  | _ + 1 => ⟨fun _ => h, by rw [hr]; simp⟩
/-- Q, but 'False' at a panic. -/
def NoPan (Q : Exit → Act → World → Prop) : Exit → Act → World → Prop
  | .panic _, _, _ => False
  | e, a, w => Q e a w
theorem NoPan.normal {a : Act} {w : World} (h : Q .normal a w) : NoPan Q .normal a w := h
theorem NoPan.imp : ∀ (e : Exit) (a : Act) (w : World), NoPan Q e a w → Q e a w := fun e a w h => by
  cases e <;> first | exact h | exact (h : False).elim
theorem wpIn_region_J (C : World → Prop) (T : List Nat) {id : Nat} {a : Act} {w : World} (hm : P.follows .mixedOrders = true) (hC : C w.drew)
    (h : C w.drew → wpAnyJ F n P .any ops (NoPan Q) C T ops.size (Array.replicate ops.size false) a w.drew) : (Code.region id ops true).wpIn F n P Q a w :=
  wpIn_mono (wpIn_region_any hm (wpAny_of_J _ _ _ _ (h hC))) NoPan.imp
theorem wp_region_J (C : World → Prop) (T : List Nat) {id : Nat} {a : Act} {w : World} (hm : P.follows .mixedOrders = true) (hC : C w.drew)
    (h : C w.drew → wpAnyJ Fence.wide 0 P .any ops (NoPan Q) C T ops.size (Array.replicate ops.size false) a w.drew) : (Code.region id ops true).wp P Q a w :=
  wpIn_wide.1 (wpIn_region_J C T hm hC h)
end
end Go.Proofs.Cr
namespace Go.Proofs.Cr
open Go Go.RowKit Go.Shelf
section
variable {F : Fence} {n : Nat} {P : Program} {ops : Array Oper} {Q : Exit → Act → World → Prop} {md : Region.Mode} {C : World → Prop} {T : List Nat}
/-- Each of these may come up. -/
def AllJ (F : Fence) (n : Nat) (P : Program) (md : Region.Mode) (ops : Array Oper) (Q : Exit → Act → World → Prop) (C : World → Prop) (T : List Nat) (fuel : Nat) (listed : Array Bool) (a : Act) (w : World) (rs : List Nat) : Prop :=
  ∀ i ∈ rs, wpOpIn F n P ops Q i (fun a' w' => (T.contains i = false → C w') ∧ wpAnyJ F n P md ops Q C T fuel (listed.setIfInBounds i true) a' w') a w
theorem drop_at {i : Nat} {o : Oper} {rest : List Oper} (h : ops.toList.drop i = o :: rest) : ops[i]? = some o := by
  have h1 : (ops.toList.drop i)[0]? = some o := by rw [h]; rfl
  rw [List.getElem?_drop, Nat.add_zero, Array.getElem?_toList] at h1
  exact h1
theorem takeJ (hfn : ∀ f, F.fn f) (hnd : noDefer ops = true) (i : Nat) {oi : Oper} {rest : List Oper} {v : Value} {fuel : Nat} {listed : Array Bool} {a : Act} {w : World} (hi : ops.toList.drop i = oi :: rest)
    (hs : Region.noSelect ops = true) (hQ : ∀ c a w, Q (.panic c) (a.put oi.dst v) w → Q (.panic c) a w)
    (hf : (Region.free md ops listed i && lastB md ops listed T i && (Region.ready md ops listed).contains i) = true) (hC : C w)
    (hy : YieldsJ P ops C oi v a)
    (h : wpAnyJ F n P md ops Q C T fuel (listed.setIfInBounds i true) (a.put oi.dst v) w) : wpAnyJ F n P md ops Q C T (fuel + 1) listed a w :=
  wpAnyJ_take hfn hnd (drop_at hi) hs hQ hf hC hy h
theorem AllJ.nil {fuel : Nat} {listed : Array Bool} {a : Act} {w : World} : AllJ F n P md ops Q C T fuel listed a w [] := fun _ h => by cases h
theorem AllJ.cons {i : Nat} {o : Oper} {rs : List Nat} {fuel : Nat} {listed : Array Bool} {a : Act} {w : World} (ho : ops[i]? = some o)
    (h : ∀ K : Act → World → Prop, RowKit.Hid (∀ a' w', ((T.contains i = false → C w') ∧ wpAnyJ F n P md ops Q C T fuel (listed.setIfInBounds i true) a' w') → K a' w') →
      if Region.wanted o (yielded ops a.tmps) = true then Oper.wpIn F n P o a w K Q else (∀ f, o.about P w a.eval = some f → F.fn f) ∧ K (a.put o.dst undef) w)
    (hr : AllJ F n P md ops Q C T fuel listed a w rs) : AllJ F n P md ops Q C T fuel listed a w (i :: rs) := by
  intro k hk
  rcases List.mem_cons.1 hk with e | hk
  · subst e
    unfold wpOpIn
    rw [ho]
    exact h _ (Lib.hid fun _ _ h => h)
  · exact hr k hk
theorem oneJ (i : Nat) {o : Oper} {rest : List Oper} {fuel : Nat} {listed : Array Bool} {a : Act} {w : World} (hr : Region.ready md ops listed = [i]) (ho : ops.toList.drop i = o :: rest)
    (h : ∀ K : Act → World → Prop, RowKit.Hid (∀ a' w', ((T.contains i = false → C w') ∧ wpAnyJ F n P md ops Q C T fuel (listed.setIfInBounds i true) a' w') → K a' w') →
      if Region.wanted o (yielded ops a.tmps) = true then Oper.wpIn F n P o a w K Q else (∀ f, o.about P w a.eval = some f → F.fn f) ∧ K (a.put o.dst undef) w) : wpAnyJ F n P md ops Q C T (fuel + 1) listed a w :=
  wpAnyJ_all hr (by simp) (AllJ.cons (drop_at ho) h AllJ.nil)
theorem wpAnyJ_ready {rs : List Nat} {fuel : Nat} {listed : Array Bool} {a : Act} {w : World} (hr : Region.ready md ops listed = rs) (hne : rs ≠ [])
    (h : AllJ F n P md ops Q C T fuel listed a w rs) : wpAnyJ F n P md ops Q C T (fuel + 1) listed a w := wpAnyJ_all hr hne h
end
theorem holdJ {A B : Prop} {b : Bool} (h : A) (k : A → B) : (b = false → A) ∧ B := ⟨fun _ => h, k h⟩
theorem lastJ {A B : Prop} {b : Bool} (h : b = true) (k : B) : (b = false → A) ∧ B := ⟨fun e => (by rw [h] at e; cases e), k⟩
end Go.Proofs.Cr
/- Words of 64 bits: what the machine reckons is the sum, the product, the quotient, where they fit. -/
namespace Go.Proofs.Cr
open Go Go.RowKit Go.Shelf
theorem u64_id (x : Nat) (h : x < 18446744073709551616) : IntKind.u64.wrap (x : Int) = (x : Int) := by
  simp [IntKind.wrap, IntKind.bits, IntKind.signed]; omega
theorem u64_mulc (a c : Nat) (h : a * c < 18446744073709551616) : IntKind.u64.wrap ((a : Int) * (c : Int)) = ((a * c : Nat) : Int) := by
  rw [← Int.natCast_mul]; exact u64_id _ h
theorem u64_add (a b : Nat) (h : a + b < 18446744073709551616) : IntKind.u64.wrap ((a : Int) + (b : Int)) = ((a + b : Nat) : Int) := by
  rw [← Int.natCast_add]; exact u64_id _ h
theorem u64_sub (a b : Nat) (h : b ≤ a) (ha : a < 18446744073709551616) : IntKind.u64.wrap ((a : Int) - (b : Int)) = ((a - b : Nat) : Int) := by
  rw [← Int.ofNat_sub h]; exact u64_id _ (by omega)
theorem u64_div (a b : Nat) : (a : Int).tdiv (b : Int) = ((a / b : Nat) : Int) := by
  rw [Int.tdiv_eq_ediv_of_nonneg (by omega)]; simp
theorem u64_mod (a b : Nat) : (a : Int).tmod (b : Int) = ((a % b : Nat) : Int) := by
  rw [Int.tmod_eq_emod_of_nonneg (by omega)]; simp
theorem i64_id (x : Nat) (h : x < 9223372036854775808) : IntKind.i64.wrap (x : Int) = (x : Int) := by
  simp [IntKind.wrap, IntKind.bits, IntKind.signed]; omega
end Go.Proofs.Cr
namespace Go.Proofs.Cr
open Go.RowKit Go.Shelf
attribute [local go_sem] Oper.semAt_some

/-- Short division: what lies behind k rounds, from the top. -/
theorem short_round (xs os : List Nat) (by_ rest j : Nat) (hb : 0 < by_) (hbB : by_ ≤ 1000000000) (hx : Bnd B9 xs) (hj : j < xs.length) (hl : os.length = xs.length) (ho : Bnd B9 os) (hr : rest < by_)
    (hv : val B9 (xs.drop (j + 1)) = val B9 (os.drop (j + 1)) * by_ + rest) :
    let s := rest * 1000000000 + xs.getD j 0
    s < 1000000000 * 1000000000 ∧ s / by_ < 1000000000 ∧ s % by_ < by_ ∧ Bnd B9 (os.set j (s / by_)) ∧ val B9 (xs.drop j) = val B9 ((os.set j (s / by_)).drop j) * by_ + s % by_ := by
  intro s
  have h1 := hx.getD B9_pos j
  rw [B9_eq] at h1
  have hs : s < by_ * 1000000000 := by
    have : (rest + 1) * 1000000000 ≤ by_ * 1000000000 := Nat.mul_le_mul_right _ hr
    simp only [s]; omega
  have hs2 : by_ * 1000000000 ≤ 1000000000 * 1000000000 := Nat.mul_le_mul_right _ hbB
  have hq : s / by_ < 1000000000 := by rw [Nat.div_lt_iff_lt_mul hb, Nat.mul_comm]; exact hs
  have hs3 : s < 1000000000 * 1000000000 := Nat.lt_of_lt_of_le hs hs2
  clear hs hs2
  refine ⟨hs3, hq, Nat.mod_lt _ hb, ho.set _ hq, ?_⟩
  rw [val_drop _ _ _ hj, val_drop _ (os.set j _) j (by rw [List.length_set]; omega), getD_set_same _ _ _ (by omega), drop_set_lt _ _ _ _ (by omega)]
  exact short_step B9 by_ (s / by_) (s % by_) _ rest _ _ rfl rfl hv

def ShortI (w : World) (xs : List Nat) (by_ N k : Nat) (W : World) : Prop :=
  ∃ (os : List Nat) (r : Nat), (os.length = N ∧ Bnd B9 os ∧ r < by_ ∧ val B9 (xs.drop (N - k)) = val B9 (os.drop (N - k)) * by_ + r) ∧ VarIs W w.heap.size (.int .u64 by_) ∧ VarIs W (w.heap.size + 1 + 1) (.slice (some ⟨w.heap.size + 1, 0, none⟩) N N) ∧ VarIs W (w.heap.size + 1 + 1 + 1) (.int .u64 r) ∧ Owns W w.heap.size 98 .u64 (.slice (some ⟨w.heap.size + 1, 0, none⟩) N N) os ∧ Below w.heap.size w W

set_option maxRecDepth 100000 in
set_option maxHeartbeats 4000000 in
theorem short_in {F : Fence} (hW : Wide F) (n : Nat) (hn : 3 ≤ n) (xs : List Nat) (A1 : Option Addr) (c1 by_ : Nat) (w : World) (h1 : Reads w .u64 A1 xs)
    (ha : Bnd B9 xs) (hs1 : xs.length ≤ 100000) (hb : 0 < by_) (hbB : by_ ≤ 1000000000) :
    CallsIn F n Tryz.prog 139 #[.slice A1 xs.length c1, .int .u64 by_] w fun e w' => ∃ (v : Value) (zs : List Nat) (r : Nat), e = .returned (.tuple #[v, .int .u64 r]) ∧ r < by_ ∧ Bnd B9 zs ∧ Trimmed zs ∧ val B9 xs = val B9 zs * by_ + r ∧ Owns w' w.heap.size 98 .u64 v zs ∧ Below w.heap.size w w' := by
  have hro := hW.ro
  have h0 : 1 ≤ n := by omega
  obtain ⟨i0, hi, hz0, hz1, hz2⟩ := info_parts info151
  have hf := hW.fn 115
  have hf2 := hW.fn 109
  refine callsIn_of_wp_marks Tryz.func139 rfl (hW.fn _) ?_ hW.ro
  simp only [Tryz.ntmps139, List.size_toArray, List.length_cons, List.length_nil, Nat.reduceAdd, Nat.reduceSub, Array.replicate_succ, Array.replicate_zero, List.push_toArray, List.append_toArray, List.nil_append, List.cons_append]
  obtain ⟨N, hN⟩ : ∃ N, N = xs.length := ⟨_, rfl⟩
  rw [← hN]
  have hN1 : N ≤ 100000 := by omega
  obtain ⟨C, hC, hmk⟩ := make_num (P := Tryz.prog) 93 98 .u64 8 Tryz.underlying93 info151 (Nat.le_refl _) N (by omega)
  have HC := Lib.hid hC; have HN := Lib.hid hN; clear hC hN
  gi_wp2_with (gi_at_call 115; refine (hW.tr (back_any _ _ _ _)).mono ?_; rintro e w' ⟨rfl, rfl⟩)
  have bB := VarIs.new w (.int .u64 by_) 98
  have bO := VarIs.new ((w.alloc (.cells #[.int .u64 by_] 98)).alloc (.cells C 98)) (.slice (some ⟨w.heap.size + 1, 0, none⟩) N N) 93
  have bR := VarIs.new (((w.alloc (.cells #[.int .u64 by_] 98)).alloc (.cells C 98)).alloc (.cells #[.slice (some ⟨w.heap.size + 1, 0, none⟩) N N] 93)) (.int .u64 0) 98
  have bN := VarIs.new ((((w.alloc (.cells #[.int .u64 by_] 98)).alloc (.cells C 98)).alloc (.cells #[.slice (some ⟨w.heap.size + 1, 0, none⟩) N N] 93)).alloc (.cells #[.int .u64 0] 98)) (.slice A1 N c1) 93
  simp only [World.size_alloc] at bO bR bN
  have hB0 : Below w.heap.size w (((((w.alloc (.cells #[.int .u64 by_] 98)).alloc (.cells C 98)).alloc (.cells #[.slice (some ⟨w.heap.size + 1, 0, none⟩) N N] 93)).alloc (.cells #[.int .u64 0] 98)).alloc (.cells #[.slice A1 N c1] 93)) :=
    (((((Below.refl _ w).alloc (Nat.le_refl _) _).alloc (by simp) _).alloc (by simp; omega) _).alloc (by simp; omega) _).alloc (by simp; omega) _
  have o0 := (((Owns.made HC.out (w.alloc (.cells #[.int .u64 by_] 98)) w.heap.size 98 (by simp) (by omega)).alloc (.cells #[.slice (some ⟨w.heap.size + 1, 0, none⟩) N N] 93)).alloc (.cells #[.int .u64 0] 98)).alloc (.cells #[.slice A1 N c1] 93)
  simp only [World.size_alloc] at o0
  refine wpIn_range hW h0 (gf := 147) (lb := #[.pointer (some ⟨w.heap.size + 1 + 1 + 1 + 1, 0, none⟩)]) rfl (enters_of Tryz.func147 (by kernel_rfl) rfl)
    (back_seq hW (n - 1) (by omega) (w.heap.size + 1 + 1 + 1 + 1) c1 A1 xs hs1 _ (by simp) (by rw [← HN.out]; exact bN.1) (h1.below hB0 (Nat.le_refl _))) (fun _ h => h.elim) (fun h k => h.trans k) ?hKb (Below.refl _ _) (fun _ => rfl)
    (ShortI w xs by_ N)
    (fun _ _ _ => False)
    (stabI_ex fun os => stabI_ex fun r => (stabI_pure _).and ((stabI_var (fun h => h)).and ((stabI_var (fun h => h)).and ((stabI_var (fun h => h)).and ((stabI_owns (fun r h => h.elim)).and (stabI_below (by simp; omega) (Nat.le_refl _) (fun _ h => h.elim)))))))
    (fun c => stabI_false)
    ⟨List.replicate N 0, 0, ⟨by simp, Bnd.replicate B9_pos _, hb, by rw [Nat.sub_zero, HN.out, List.drop_length, List.drop_of_length_le (by simp)]; simp [val]⟩, (((bB.alloc _).alloc _).alloc _).alloc _, (bO.alloc _).alloc _, bR.alloc _, o0, hB0⟩
    ?round ?done ?stop
  case hKb =>
    intro W l o o' hl ho hc
    refine keepS_book (n := w.heap.size + 5) ?_ W l o o' (by simp at hl; omega) ho hc
    rintro b (rfl | ⟨hp, off, rfl⟩)
    · omega
    · obtain ⟨b', off', e, hlt, _⟩ := h1.2 hp
      cases e; omega
  case round =>
    rintro l k W hk ⟨os, r, ⟨hol, hob, hr, hv⟩, vB, vO, vR, hown, hB⟩
    obtain ⟨j, hj⟩ : ∃ j, j = xs.length - 1 - k := ⟨_, rfl⟩
    have hjx : j < xs.length := by omega
    have HJ := Lib.hid (show N - k = j + 1 by have := HN.out; omega)
    have HJ2 := Lib.hid (show N - (k + 1) = j by have := HN.out; omega)
    have hjN : j < N := by have := HN.out; omega
    have HOL := Lib.hid (show os.length = xs.length by rw [hol, HN.out])
    rw [HJ.out] at hv
    obtain ⟨x, hx⟩ : ∃ x, x = xs.getD j 0 := ⟨_, rfl⟩
    rw [← hj, ← hx]
    have HX := Lib.hid hx; have HV := Lib.hid hv
    clear hj hx hv hol
    gi_wp2
    refine ⟨KeepsFrom.refl _ _, KeepS.refl _ _, ⟨os, r, ⟨by rw [HOL.out, HN.out], hob, hr, by rw [HJ.out]; exact HV.out⟩, vB, vO, vR, hown, hB⟩, ?_⟩
    rintro W2 ⟨os2, r2, ⟨hol2, hob2, hr2, hv2⟩, vB2, vO2, vR2, hown2, hB2⟩ _ _
    have HOL2 := Lib.hid (show os2.length = xs.length by rw [hol2, HN.out])
    rw [HJ.out] at hv2
    have R := Lib.hid (short_round xs os2 by_ r2 j hb hbB ha hjx HOL2.out hob2 hr2 hv2)
    clear hv2 hol2 vB vO vR hown hB
    have hcB := vB2.1
    have hcO := vO2.1
    have hcR := vR2.1
    have hfR := vR2.2
    have hcX := hown2.cell j (by rw [HOL2.out]; exact hjx)
    have hfX := hown2.free j
    obtain ⟨m, hm0⟩ : ∃ m, m = r2 * 1000000000 := ⟨_, rfl⟩
    obtain ⟨S, hS0⟩ : ∃ S, S = m + x := ⟨_, rfl⟩
    obtain ⟨q, hq0⟩ : ∃ q, q = S / by_ := ⟨_, rfl⟩
    obtain ⟨rr, hr0⟩ : ∃ rr, rr = S % by_ := ⟨_, rfl⟩
    have HR := R.out
    simp only [← HX.out, ← hm0, ← hS0, ← hq0, ← hr0] at HR
    have hS64 : S < 18446744073709551616 := by omega
    have e1 : IntKind.u64.wrap ((r2 : Int) * 1000000000) = (m : Int) := by rw [hm0]; exact u64_mulc r2 1000000000 (by omega)
    have e2 : IntKind.u64.wrap ((m : Int) + (x : Int)) = (S : Int) := by rw [hS0]; exact u64_add m x (by omega)
    have e3 : (S : Int).tdiv (by_ : Int) = (q : Int) := by rw [hq0]; exact u64_div _ _
    have e4 : (S : Int).tmod (by_ : Int) = (rr : Int) := by rw [hr0]; exact u64_mod _ _
    have e5 : IntKind.u64.wrap (q : Int) = (q : Int) := u64_id _ (by omega)
    have hne : ¬ by_ = 0 := by omega
    have HR' := Lib.hid HR
    have Hm := Lib.hid hm0; have HS := Lib.hid hS0
    clear HR hm0 hS0 hq0 hr0 R hS64
    gi_wp2
    have hfnR : ∀ f, (F.inRound l).fn f := hW.fn
    have hm : Tryz.prog.follows .mixedOrders = true := by kernel_rfl
    refine wpIn_region_J (fun W => W.cell? ⟨w.heap.size, 0, none⟩ = some (.int .u64 by_) ∧ W.cell? ⟨w.heap.size + 1 + 1, 0, none⟩ = some (.slice (some ⟨w.heap.size + 1, 0, none⟩) N N) ∧ W.cell? ⟨w.heap.size + 1 + 1 + 1, 0, none⟩ = some (.int .u64 r2)) [16] hm ?hCells0 (fun hCells => ?_)
    case hCells0 => exact ⟨hcB, hcO, hcR⟩
    refine takeJ hfnR (by kernel_rfl) 0 (v := ?_) rfl (by kernel_rfl) (fun _ _ _ h => h) (by kernel_rfl) hCells (Or.inl ⟨by rfl, ?_⟩) ?_
    rotate_left 1
    · intro w hSw; (try dsimp only at hSw); go_simp; (try with_reducible rfl)
    try simp only [Act.put, List.setIfInBounds_toArray, List.set_cons_zero, List.set_cons_succ]
    refine takeJ hfnR (by kernel_rfl) 1 (v := ?_) rfl (by kernel_rfl) (fun _ _ _ h => h) (by kernel_rfl) hCells (Or.inl ⟨by rfl, ?_⟩) ?_
    rotate_left 1
    · intro w hSw; (try dsimp only at hSw); go_simp; (try with_reducible rfl)
    try simp only [Act.put, List.setIfInBounds_toArray, List.set_cons_zero, List.set_cons_succ]
    refine takeJ hfnR (by kernel_rfl) 2 (v := ?_) rfl (by kernel_rfl) (fun _ _ _ h => h) (by kernel_rfl) hCells (Or.inl ⟨by rfl, ?_⟩) ?_
    rotate_left 1
    · intro w hSw; (try dsimp only at hSw); go_simp; (try with_reducible rfl)
    try simp only [Act.put, List.setIfInBounds_toArray, List.set_cons_zero, List.set_cons_succ]
    refine takeJ hfnR (by kernel_rfl) 3 (v := ?_) rfl (by kernel_rfl) (fun _ _ _ h => h) (by kernel_rfl) hCells (Or.inl ⟨by rfl, ?_⟩) ?_
    rotate_left 1
    · intro w hSw; (try dsimp only at hSw); go_simp; (try with_reducible rfl)
    try simp only [Act.put, List.setIfInBounds_toArray, List.set_cons_zero, List.set_cons_succ]
    refine takeJ hfnR (by kernel_rfl) 4 (v := ?_) rfl (by kernel_rfl) (fun _ _ _ h => h) (by kernel_rfl) hCells (Or.inl ⟨by rfl, ?_⟩) ?_
    rotate_left 1
    · intro w hSw; (try dsimp only at hSw); go_simp; (try with_reducible rfl)
    try simp only [Act.put, List.setIfInBounds_toArray, List.set_cons_zero, List.set_cons_succ]
    refine takeJ hfnR (by kernel_rfl) 5 (v := ?_) rfl (by kernel_rfl) (fun _ _ _ h => h) (by kernel_rfl) hCells (Or.inl ⟨by rfl, ?_⟩) ?_
    rotate_left 1
    · intro w hSw; (try dsimp only at hSw); go_simp; (try with_reducible rfl)
    try simp only [Act.put, List.setIfInBounds_toArray, List.set_cons_zero, List.set_cons_succ]
    refine takeJ hfnR (by kernel_rfl) 6 (v := ?_) rfl (by kernel_rfl) (fun _ _ _ h => h) (by kernel_rfl) hCells (Or.inl ⟨by rfl, ?_⟩) ?_
    rotate_left 1
    · intro w hSw; (try dsimp only at hSw); go_simp; (try with_reducible rfl)
    try simp only [Act.put, List.setIfInBounds_toArray, List.set_cons_zero, List.set_cons_succ]
    refine takeJ hfnR (by kernel_rfl) 7 (v := ?_) rfl (by kernel_rfl) (fun _ _ _ h => h) (by kernel_rfl) hCells (Or.inl ⟨by rfl, ?_⟩) ?_
    rotate_left 1
    · intro w hSw; (try dsimp only at hSw); go_simp; (try with_reducible rfl)
    try simp only [Act.put, List.setIfInBounds_toArray, List.set_cons_zero, List.set_cons_succ]
    refine takeJ hfnR (by kernel_rfl) 8 (v := ?_) rfl (by kernel_rfl) (fun _ _ _ h => h) (by kernel_rfl) hCells (Or.inl ⟨by rfl, ?_⟩) ?_
    rotate_left 1
    · intro w hSw; (try dsimp only at hSw); go_simp; (try with_reducible rfl)
    try simp only [Act.put, List.setIfInBounds_toArray, List.set_cons_zero, List.set_cons_succ]
    refine takeJ hfnR (by kernel_rfl) 9 (v := ?_) rfl (by kernel_rfl) (fun _ _ _ h => h) (by kernel_rfl) hCells (Or.inl ⟨by rfl, ?_⟩) ?_
    rotate_left 1
    · intro w hSw; (try dsimp only at hSw); go_simp; (try with_reducible rfl)
    try simp only [Act.put, List.setIfInBounds_toArray, List.set_cons_zero, List.set_cons_succ]
    refine takeJ hfnR (by kernel_rfl) 10 (v := ?_) rfl (by kernel_rfl) (fun _ _ _ h => h) (by kernel_rfl) hCells (Or.inl ⟨by rfl, ?_⟩) ?_
    rotate_left 1
    · intro w hSw; (try dsimp only at hSw); go_simp; (try with_reducible rfl)
    try simp only [Act.put, List.setIfInBounds_toArray, List.set_cons_zero, List.set_cons_succ]
    refine takeJ hfnR (by kernel_rfl) 11 (v := ?_) rfl (by kernel_rfl) (fun _ _ _ h => h) (by kernel_rfl) hCells (Or.inl ⟨by rfl, ?_⟩) ?_
    rotate_left 1
    · intro w hSw; (try dsimp only at hSw); go_simp; (try with_reducible rfl)
    try simp only [Act.put, List.setIfInBounds_toArray, List.set_cons_zero, List.set_cons_succ]
    refine takeJ hfnR (by kernel_rfl) 12 (v := ?_) rfl (by kernel_rfl) (fun _ _ _ h => h) (by kernel_rfl) hCells (Or.inl ⟨by rfl, ?_⟩) ?_
    rotate_left 1
    · intro w hSw; (try dsimp only at hSw); go_simp; (try with_reducible rfl)
    try simp only [Act.put, List.setIfInBounds_toArray, List.set_cons_zero, List.set_cons_succ]
    refine takeJ hfnR (by kernel_rfl) 13 (v := ?_) rfl (by kernel_rfl) (fun _ _ _ h => h) (by kernel_rfl) hCells (Or.inl ⟨by rfl, ?_⟩) ?_
    rotate_left 1
    · intro w hSw; (try dsimp only at hSw); go_simp; (try with_reducible rfl)
    try simp only [Act.put, List.setIfInBounds_toArray, List.set_cons_zero, List.set_cons_succ]
    refine takeJ hfnR (by kernel_rfl) 14 (v := ?_) rfl (by kernel_rfl) (fun _ _ _ h => h) (by kernel_rfl) hCells (Or.inl ⟨by rfl, ?_⟩) ?_
    rotate_left 1
    · intro w hSw; (try dsimp only at hSw); go_simp; (try with_reducible rfl)
    try simp only [Act.put, List.setIfInBounds_toArray, List.set_cons_zero, List.set_cons_succ]
    refine oneJ 15 (by kernel_rfl) rfl (fun K hK => ?_)
    go_simp
    refine hK.out _ _ (holdJ ?_ (fun hCells => ?_))
    · clear hK; (try dsimp only); (go_keep)
    clear hK K
    try simp only [Act.put, List.setIfInBounds_toArray, List.set_cons_zero, List.set_cons_succ]
    refine oneJ 16 (by kernel_rfl) rfl (fun K hK => ?_)
    go_simp
    refine hK.out _ _ (lastJ (by rfl) ?_)
    clear hK K
    try simp only [Act.put, List.setIfInBounds_toArray, List.set_cons_zero, List.set_cons_succ]
    refine wpAnyJ_done (by kernel_rfl) (NoPan.normal ?_) _
    clear hfnR hm
    gi_wp2
    refine ⟨((KeepsOthers.setCell _ _ _).trans ((KeepsOthers.setCell _ _ _).trans (KeepsOthers.drew _))).from _, ((KeepS.setCell _ _ ?hk1).trans (KeepS.setCell _ _ ?hk2)).trans (KeepS.drew _ _), ⟨os2.set j q, rr, ⟨by rw [List.length_set, HOL2.out, HN.out], HR'.out.2.2.2.1, HR'.out.2.2.1, ?_⟩, ?_, ?_, ?_, ?_, ?_⟩⟩
    case hk1 =>
      rintro (h | ⟨hp, off, e⟩)
      · simp at h <;> omega
      · obtain ⟨b', off', e2, hlt, _⟩ := h1.2 hp
        rw [e2] at e; cases e; simp at hlt; omega
    case hk2 =>
      rintro (h | ⟨hp, off, e⟩)
      · simp at h <;> omega
      · obtain ⟨b', off', e2, hlt, _⟩ := h1.2 hp
        rw [e2] at e; cases e; simp at hlt; omega
    · rw [HJ2.out]; exact HR'.out.2.2.2.2
    · exact ((vB2.far (by simp) _).far (by simp; omega) _).drew
    · exact ((vO2.far (by simp) _).far (by simp) _).drew
    · exact ((vR2.far (by simp; omega) _).set _).drew
    · exact World.ownsRow.drew ((hown2.store j q (by rw [HOL2.out]; exact hjx)).other _ (by simp [Value.ownBlock] <;> omega))
    · exact ((hB2.setCell (by simp) _).setCell (by simp; omega) _).drew
  case stop => rintro D c k W hD hk h; exact h.elim
  case done =>
    rintro D W hD ⟨os, r, ⟨hol, hob, hr, hv⟩, vB, vO, vR, hown, hB⟩ hW3
    have HV := Lib.hid (show val B9 xs = val B9 os * by_ + r by
      have h := hv
      rw [HN.out, Nat.sub_self, List.drop_zero, List.drop_zero] at h
      exact h)
    clear hv
    obtain ⟨A, c, hsl, hrd, hle⟩ := hown.reads (by omega)
    obtain ⟨hA0, hN0, hc0⟩ := Value.slice.inj hsl
    subst hA0
    rw [← hc0] at hle
    clear hc0 hsl hN0
    have hT := trim_any os (some ⟨w.heap.size + 1, 0, none⟩) N W.drew hrd (by omega)
    have ot := Owns.trim hown
    rw [hol] at hT
    obtain ⟨t, ht⟩ : ∃ t, t = (trimN os).length := ⟨_, rfl⟩
    rw [← ht] at hT ot
    have HT := Lib.hid ht
    have HC2 := Lib.hid hT
    clear hrd hle ht hT
    have hcO := vO.1
    have hcR := vR.1
    have hm : Tryz.prog.follows .mixedOrders = true := by kernel_rfl
    have hfnR : ∀ f, F.fn f := hW.fn
    gi_wp2
    refine wpIn_region_J (fun W => W.cell? ⟨w.heap.size + 1 + 1, 0, none⟩ = some (.slice (some ⟨w.heap.size + 1, 0, none⟩) N N) ∧ W.cell? ⟨w.heap.size + 1 + 1 + 1, 0, none⟩ = some (.int .u64 r)) [] hm ?hCells0 (fun hCells => ?_)
    case hCells0 => exact ⟨hcO, hcR⟩
    refine takeJ hfnR (by kernel_rfl) 0 (v := ?_) rfl (by kernel_rfl) (fun _ _ _ h => h) (by kernel_rfl) hCells (Or.inl ⟨by rfl, ?_⟩) ?_
    rotate_left 1
    · intro w hSw; (try dsimp only at hSw); go_simp; (try with_reducible rfl)
    try simp only [Act.put, List.setIfInBounds_toArray, List.set_cons_zero, List.set_cons_succ]
    refine takeJ hfnR (by kernel_rfl) 2 (v := ?_) rfl (by kernel_rfl) (fun _ _ _ h => h) (by kernel_rfl) hCells (Or.inl ⟨by rfl, ?_⟩) ?_
    rotate_left 1
    · intro w hSw; (try dsimp only at hSw); go_simp; (try with_reducible rfl)
    try simp only [Act.put, List.setIfInBounds_toArray, List.set_cons_zero, List.set_cons_succ]
    refine oneJ 1 (by kernel_rfl) rfl (fun K hK => ?_)
    go_simp
    gi_wp2_with (gi_at_call 109; refine (hW.tr HC2.out).mono ?_; rintro e w' ⟨rfl, rfl⟩)
    refine hK.out _ _ (holdJ ?_ (fun hCells => ?_))
    · clear hK; (try dsimp only); (assumption)
    clear hK K
    try simp only [Act.put, List.setIfInBounds_toArray, List.set_cons_zero, List.set_cons_succ]
    refine takeJ hfnR (by kernel_rfl) 3 (v := ?_) rfl (by kernel_rfl) (fun _ _ _ h => h) (by kernel_rfl) hCells (Or.inl ⟨by rfl, ?_⟩) ?_
    rotate_left 1
    · intro w hSw; (try dsimp only at hSw); go_simp; (try with_reducible rfl)
    try simp only [Act.put, List.setIfInBounds_toArray, List.set_cons_zero, List.set_cons_succ]
    refine takeJ hfnR (by kernel_rfl) 4 (v := ?_) rfl (by kernel_rfl) (fun _ _ _ h => h) (by kernel_rfl) hCells (Or.inl ⟨by rfl, ?_⟩) ?_
    rotate_left 1
    · intro w hSw; (try dsimp only at hSw); go_simp; (try with_reducible rfl)
    try simp only [Act.put, List.setIfInBounds_toArray, List.set_cons_zero, List.set_cons_succ]
    refine wpAnyJ_done (by kernel_rfl) (NoPan.normal ?_) _
    gi_wp2
    refine ⟨by simp, .inl ⟨_, _, rfl, run_takeDeferred hW3, ?_⟩⟩
    exact ⟨.tuple #[.slice (some ⟨w.heap.size + 1, 0, none⟩) t N, .int .u64 r], by simp [results, Tryz.f139, go_sem], _, trimN os, r, rfl, hr, trimN_bnd hob, trimN_trimmed os, by rw [trimN_val]; exact HV.out, Owns.grown (World.ownsRow.drew ot) (grownBy_putObj' W.drew D _) (.inl (by simp [Value.ownBlock]; simp at hD; omega)), hB.drew.trans (belowK_b (w := w) (Nat.le_refl _) _ D _ _ (by simp at hD; omega) hW3 rfl rfl)⟩
end Go.Proofs.Cr
namespace Go.Proofs.Cr
open Go Go.RowKit Go.Shelf
theorem mul64_small (x y p : Nat) (hx : x < 18446744073709551616) (hy : y < 18446744073709551616) (hp : x * y = p) (h : p < 18446744073709551616) (w : World) :
    Calls Tryz.prog 164 #[.int .u64 x, .int .u64 y] w fun e w' => e = .returned (.tuple #[.int .u64 0, .int .u64 p]) ∧ w' = w := by
  have := Any.bits_Mul64 Tryz.lays264 x y hx hy w
  rw [hp, Nat.div_eq_of_lt h, Nat.mod_eq_of_lt h] at this
  exact this
theorem mul64_int (x y p : Int) (hx0 : 0 ≤ x) (hx : x < 18446744073709551616) (hy0 : 0 ≤ y) (hy : y < 18446744073709551616) (hp : x * y = p) (h : p < 18446744073709551616) (w : World) :
    Calls Tryz.prog 164 #[.int .u64 x, .int .u64 y] w fun e w' => e = .returned (.tuple #[.int .u64 0, .int .u64 p]) ∧ w' = w := by
  obtain ⟨x, rfl⟩ := Int.eq_ofNat_of_zero_le hx0
  obtain ⟨y, rfl⟩ := Int.eq_ofNat_of_zero_le hy0
  rw [← Int.natCast_mul] at hp
  subst hp
  exact mul64_small x y (x * y) (by omega) (by omega) rfl (by omega) w
theorem add64_int (x d s : Int) (hx0 : 0 ≤ x) (hd0 : 0 ≤ d) (hs : x + d = s) (h : s < 18446744073709551616) (w : World) :
    (callFunc 165 #[.int .u64 x, .int .u64 d, .int .u64 0]).run Tryz.prog w = .ok (.value (.tuple #[.int .u64 s, .int .u64 0])) w := by
  rw [run_callFunc_extern Tryz.func165 (by kernel_rfl) (by kernel_rfl) (by kernel_rfl) (e := add64Entry) (by kernel_rfl)]
  have h2 := run_add64 (P := Tryz.prog) x d 0 (by omega) (by omega) (by omega) (by omega) w
  rw [h2]
  simp only [Result.andThen, Int.add_zero, hs]
  rw [Int.emod_eq_of_lt (by omega) h, Int.ediv_eq_zero_of_lt (by omega) h]
set_option maxRecDepth 100000 in
set_option maxHeartbeats 1000000 in
theorem greater_any (a b c d p q s : Nat) (hp : a * b = p) (hp1 : p < 9000000000000000000) (ha : a < 9000000000000000000) (hb : b < 9000000000000000000) (hc : c < 9000000000000000000) (hq : c * 1000000000 = q) (hq1 : q < 9000000000000000000) (hd : d < 9000000000000000000) (hs : q + d = s) (w : World) :
    Calls Tryz.prog 140 #[.int .u64 a, .int .u64 b, .int .u64 c, .int .u64 d] w fun e w' => e = .returned (.bool (decide (s < p))) ∧ w' = w := by
  have h1 := Lib.hid (mul64_int a b p (by omega) (by omega) (by omega) (by omega) (by exact_mod_cast hp) (by omega))
  have h2 := Lib.hid (mul64_int c 1000000000 q (by omega) (by omega) (by omega) (by omega) (by omega) (by omega))
  have h3 := add64_int q d s (by omega) (by omega) (by omega) (by omega)
  clear hp hq hs
  go_enter Tryz.func140, Tryz.ntmps140
  have H := Lib.hid h1
  by_cases hlt : s < p
  · have hb1 : decide (s < p) = true := by simp [hlt]
    go_wp2_with (first
      | (go_at_call 164; have h0 := H; clear H; refine (h1.out _).mono ?_; rintro e w' ⟨rfl, rfl⟩)
      | (go_at_call 164; refine (h2.out _).mono ?_; rintro e w' ⟨rfl, rfl⟩))
    go_ret
    exact ⟨by rw [hb1]; rfl, rfl⟩
  · have hb1 : decide (s < p) = false := by simp [hlt]
    go_wp2_with (first
      | (go_at_call 164; have h0 := H; clear H; refine (h1.out _).mono ?_; rintro e w' ⟨rfl, rfl⟩)
      | (go_at_call 164; refine (h2.out _).mono ?_; rintro e w' ⟨rfl, rfl⟩))
    go_ret
    exact ⟨by rw [hb1]; rfl, rfl⟩
end Go.Proofs.Cr
/- Long division, in plain lists. -/
namespace Go.Proofs.Cr

theorem val_split (xs : List Nat) (k : Nat) (h : k ≤ xs.length) (hb : Bnd B9 xs) : ∃ low, low < B9 ^ k ∧ val B9 xs = low + B9 ^ k * val B9 (xs.drop k) := by
  refine ⟨val B9 (xs.take k), ?_, val_take_drop B9 xs k h⟩
  have := val_lt (hb.take k)
  rwa [List.length_take, Nat.min_eq_left h] at this
theorem drop_last (xs : List Nat) (i : Nat) (h : i = xs.length) : val B9 (xs.drop i) = 0 := by subst h; simp [val]
theorem val_top1 (xs : List Nat) (m : Nat) (h : xs.length = m + 1) : val B9 (xs.drop m) = xs.getD m 0 := by
  rw [val_drop _ _ _ (by omega), drop_last _ _ (by omega)]; omega
theorem val_top2 (xs : List Nat) (m : Nat) (h : xs.length = m + 2) : val B9 (xs.drop m) = xs.getD m 0 + B9 * xs.getD (m + 1) 0 := by
  rw [val_drop _ _ _ (by omega), val_top1 xs (m + 1) (by omega)]
theorem val_top3 (xs : List Nat) (m : Nat) (h : xs.length = m + 3) : val B9 (xs.drop m) = xs.getD m 0 + B9 * (xs.getD (m + 1) 0 + B9 * xs.getD (m + 2) 0) := by
  rw [val_drop _ _ _ (by omega), val_top2 xs (m + 1) (by omega)]

/-- The divisor, scaled: its limbs, m + 2 of them; the first f, the second s. -/
structure DivI (vs : List Nat) (m V f s : Nat) : Prop where
  bnd : Bnd B9 vs
  len : vs.length = m + 2
  vl : val B9 vs = V
  hf : f = vs.getD (m + 1) 0
  hs : s = vs.getD m 0
  half : B9 ≤ 2 * f
theorem DivI.fB {vs : List Nat} {m V f s : Nat} (h : DivI vs m V f s) : f < B9 := by rw [h.hf]; exact h.bnd.getD B9_pos _
theorem DivI.sB {vs : List Nat} {m V f s : Nat} (h : DivI vs m V f s) : s < B9 := by rw [h.hs]; exact h.bnd.getD B9_pos _
theorem DivI.lo {vs : List Nat} {m V f s : Nat} (h : DivI vs m V f s) : ∃ low, low < B9 ^ m ∧ V = low + B9 ^ m * (s + B9 * f) := by
  obtain ⟨low, h1, h2⟩ := val_split vs m (by have := h.len; omega) h.bnd
  rw [h.vl, val_top2 vs m h.len, ← h.hf, ← h.hs] at h2
  exact ⟨low, h1, h2⟩
theorem DivI.pos {vs : List Nat} {m V f s : Nat} (h : DivI vs m V f s) : 0 < V := by
  obtain ⟨low, _, h2⟩ := h.lo
  have h3 : 0 < B9 ^ m := Nat.pow_pos B9_pos
  have h4 : 0 < f := by have := h.half; have := B9_pos; omega
  have : 0 < B9 ^ m * (s + B9 * f) := Nat.mul_pos h3 (by have := Nat.mul_pos B9_pos h4; omega)
  omega
theorem DivI.ltE {vs : List Nat} {m V f s : Nat} (h : DivI vs m V f s) : V < B9 ^ (m + 2) := by
  have := val_lt h.bnd
  rwa [h.vl, h.len] at this

theorem digit_facts {vs ps : List Nat} {m V f s P p0 p1 p2 head : Nat} (D : DivI vs m V f s) (hl : ps.length = m + 3) (hb : Bnd B9 ps) (hP : val B9 ps = P) (hlt : P < B9 * V)
    (h0 : p0 = ps.getD (m + 2) 0) (h1 : p1 = ps.getD (m + 1) 0) (h2 : p2 = ps.getD m 0) (hh : head = p0 * B9 + p1) :
    P / V < B9 ∧ head < f * B9 + B9 ∧ P / V ≤ head / f ∧
    (∀ g rest, g * f + rest = head → P / V ≤ g → rest * B9 + p2 < g * s → P / V < g) ∧
    (∀ g rest, g * f + rest = head → B9 ≤ rest → g < B9) ∧
    (∀ g rest, g * f + rest = head → g < B9 → (g * s ≤ rest * B9 + p2 ∨ B9 ≤ rest) → g ≤ P / V + 1) := by
  obtain ⟨vlow, hvl, hV⟩ := D.lo
  obtain ⟨plow, hpl, hPe⟩ := val_split ps m (by omega) hb
  rw [hP, val_top3 ps m hl, ← h0, ← h1, ← h2] at hPe
  have hVp := D.pos
  have hf1 : 1 ≤ f := by have := D.half; have := B9_pos; omega
  have hs := D.sB
  have hp2 : p2 < B9 := by rw [h2]; exact hb.getD B9_pos _
  obtain ⟨q, hq⟩ : ∃ q, q = P / V := ⟨_, rfl⟩
  have hq1 : q * V ≤ P := by rw [hq]; exact Nat.div_mul_le_self P V
  obtain ⟨E, hE⟩ : ∃ E, E = B9 ^ m := ⟨_, rfl⟩
  have hE1 : 0 < E := by rw [hE]; exact Nat.pow_pos B9_pos
  rw [← hE] at hvl hV hpl hPe
  have hPe2 : P = plow + E * (head * B9 + p2) := by rw [hPe, hh]; grind
  have hWV : (f * B9 + s) * E ≤ V := by rw [hV]; grind
  have hVW : V < (f * B9 + s + 1) * E := by
    have : (f * B9 + s + 1) * E = E + E * (s + B9 * f) := by grind
    omega
  have hnP : (head * B9 + p2) * E ≤ P := by
    have : (head * B9 + p2) * E = E * (head * B9 + p2) := Nat.mul_comm _ _
    omega
  have hPn : P < (head * B9 + p2 + 1) * E := by
    have : (head * B9 + p2 + 1) * E = E + E * (head * B9 + p2) := by grind
    omega
  have hfE : f * (B9 * E) ≤ V := by
    have h3 : f * (B9 * E) = (f * B9) * E := by grind
    have h4 : (f * B9) * E ≤ (f * B9 + s) * E := Nat.mul_le_mul_right _ (by omega)
    omega
  have hVf : V < (f + 1) * (B9 * E) := by
    have h3 : (f + 1) * (B9 * E) = (f * B9 + B9) * E := by grind
    have h4 : (f * B9 + s + 1) * E ≤ (f * B9 + B9) * E := Nat.mul_le_mul_right _ (by omega)
    omega
  have hhE : head * (B9 * E) ≤ P := by
    have h3 : head * (B9 * E) = (head * B9) * E := by grind
    have h4 : (head * B9) * E ≤ (head * B9 + p2) * E := Nat.mul_le_mul_right _ (by omega)
    omega
  have hPh : P < (head + 1) * (B9 * E) := by
    have h3 : (head + 1) * (B9 * E) = (head * B9 + B9) * E := by grind
    have h4 : (head * B9 + p2 + 1) * E ≤ (head * B9 + B9) * E := Nat.mul_le_mul_right _ (by omega)
    omega
  have hhead : head < f * B9 + B9 := by
    have h3 : head * (B9 * E) < (B9 * (f + 1)) * (B9 * E) := by
      have h5 : B9 * V ≤ B9 * ((f + 1) * (B9 * E)) := Nat.mul_le_mul_left _ (Nat.le_of_lt hVf)
      have h6 : (B9 * (f + 1)) * (B9 * E) = B9 * ((f + 1) * (B9 * E)) := Nat.mul_assoc _ _ _
      omega
    have h4 := Nat.lt_of_mul_lt_mul_right h3
    have h5 : B9 * (f + 1) = f * B9 + B9 := by grind
    omega
  rw [← hq]
  refine ⟨?_, hhead, guess_ge hq1 hfE hPh hf1, ?_, ?_, ?_⟩
  · rw [hq, Nat.div_lt_iff_lt_mul hVp]; exact hlt
  · intro g rest hg hqg ht
    refine guess_test hq1 hWV hPn hqg ?_
    have h3 : g * (f * B9 + s) = (g * f) * B9 + g * s := by grind
    have h4 : head * B9 = (g * f) * B9 + rest * B9 := by rw [← hg]; grind
    omega
  · intro g rest hg hr
    have h3 : g * f < B9 * f := by
      have : f * B9 = B9 * f := Nat.mul_comm _ _
      omega
    exact Nat.lt_of_mul_lt_mul_right h3
  · intro g rest hg hgB ht
    have ht2 : g * s ≤ rest * B9 + p2 := by
      rcases ht with h | h
      · exact h
      · have h3 : g * s ≤ B9 * B9 := Nat.mul_le_mul (Nat.le_of_lt hgB) (Nat.le_of_lt hs)
        have h4 : B9 * B9 ≤ rest * B9 := Nat.mul_le_mul_right _ h
        omega
    rcases Nat.eq_zero_or_pos g with h0 | h0
    · omega
    · have h3 := guess_le (guess := g) hVW hnP (by
          have : 1 * B9 ≤ f * B9 := Nat.mul_le_mul_right _ hf1
          omega) (by
          have h3 : g * (f * B9 + s) = (g * f) * B9 + g * s := by grind
          have h4 : head * B9 = (g * f) * B9 + rest * B9 := by rw [← hg]; grind
          omega) h0
      have h4 : g - 1 ≤ P / V := (Nat.le_div_iff_mul_le hVp).2 h3
      omega

/-- What lies behind the digits from j on. -/
structure LongI (A0 V m N K : Nat) (ns qs : List Nat) (j : Nat) : Prop where
  nl : ns.length = N
  nb : Bnd B9 ns
  ql : qs.length = K
  qb : Bnd B9 qs
  hj : j ≤ K
  hK : K + (m + 2) = N
  inv : A0 = val B9 ns + V * B9 ^ j * val B9 (qs.drop j)
  low : val B9 (ns.drop j) < V

theorem LongI.part {A0 V m N K : Nat} {ns qs : List Nat} {i : Nat} (h : LongI A0 V m N K ns qs (i + 1)) (hV : V < B9 ^ (m + 2)) :
    ((ns.drop i).take (m + 3)).length = m + 3 ∧ Bnd B9 ((ns.drop i).take (m + 3)) ∧ val B9 ((ns.drop i).take (m + 3)) < B9 * V ∧ val B9 (ns.drop i) = val B9 ((ns.drop i).take (m + 3)) ∧ val B9 (ns.drop (i + (m + 3))) = 0 := by
  have hN : i + (m + 3) ≤ N := by have := h.hj; have := h.hK; omega
  have hnl := h.nl
  have hz : val B9 (ns.drop (i + (m + 3))) = 0 := by
    have h1 := val_take_drop B9 (ns.drop (i + 1)) (m + 2) (by simp; omega)
    rw [List.drop_drop] at h1
    have e : i + 1 + (m + 2) = i + (m + 3) := by omega
    rw [e] at h1
    have h2 := h.low
    rcases Nat.eq_zero_or_pos (val B9 (ns.drop (i + (m + 3)))) with h3 | h3
    · exact h3
    · exfalso
      have : B9 ^ (m + 2) * 1 ≤ B9 ^ (m + 2) * val B9 (ns.drop (i + (m + 3))) := Nat.mul_le_mul_left _ h3
      omega
  have hv : val B9 (ns.drop i) = val B9 ((ns.drop i).take (m + 3)) := by
    have h1 := val_take_drop B9 (ns.drop i) (m + 3) (by simp; omega)
    rw [List.drop_drop, hz, Nat.mul_zero, Nat.add_zero] at h1
    exact h1
  refine ⟨by simp; omega, (h.nb.drop i).take _, ?_, hv, hz⟩
  rw [← hv, val_drop _ _ _ (by omega)]
  have h1 := h.nb.getD B9_pos i
  have h2 : B9 * (val B9 (ns.drop (i + 1)) + 1) ≤ B9 * V := Nat.mul_le_mul_left _ h.low
  rw [Nat.mul_add] at h2
  omega

theorem LongI.next {A0 V m N K : Nat} {ns qs zs : List Nat} {i q : Nat} (h : LongI A0 V m N K ns qs (i + 1)) (hV : V < B9 ^ (m + 2)) (hl : zs.length = m + 3) (hb : Bnd B9 zs) (hq : q < B9)
    (hz : val B9 ((ns.drop i).take (m + 3)) = q * V + val B9 zs) (hlt : val B9 zs < V) :
    LongI A0 V m N K (ns.take i ++ zs ++ ns.drop (i + (m + 3))) (qs.set i q) i := by
  obtain ⟨_, _, _, hv, h0⟩ := h.part hV
  have hN : i + (m + 3) ≤ N := by have := h.hj; have := h.hK; omega
  have hnl := h.nl
  have hjK := h.hj
  have hql := h.ql
  have htl : (ns.take i).length = i := by simp; omega
  have hd : val B9 (zs ++ ns.drop (i + (m + 3))) = val B9 zs := by rw [val_append, h0, Nat.mul_zero, Nat.add_zero]
  refine ⟨by simp [hl]; omega, ((h.nb.take i).append hb).append (h.nb.drop _), by simp [hql], h.qb.set i hq, by omega, h.hK, ?_, ?_⟩
  · rw [List.append_assoc, val_append, hd, htl, val_drop _ _ _ (by simp; omega), getD_set_same _ _ _ (by omega), drop_set_lt _ _ _ _ (by omega)]
    have h1 := h.inv
    rw [val_take_drop B9 ns i (by omega), hv, hz, Nat.pow_succ] at h1
    rw [h1]; grind
  · rw [List.append_assoc, List.drop_append_of_le_length (by omega), List.drop_of_length_le (by omega), List.nil_append, hd]
    exact hlt

theorem LongI.start {A0 V m K : Nat} {vs : List Nat} {f s : Nat} (D : DivI vs m V f s) (hK : K + (m + 2) = (limbs B9 A0).length + 1) :
    LongI A0 V m ((limbs B9 A0).length + 1) K (limbs B9 A0 ++ [0]) (List.replicate K 0) K := by
  refine ⟨by simp, (bnd_limbs B9_two A0).snoc B9_pos, by simp, Bnd.replicate B9_pos _, Nat.le_refl _, hK, ?_, ?_⟩
  · rw [val_snoc, val_limbs B9_two, List.drop_of_length_le (by simp), val_nil]; simp
  · rw [List.drop_append_of_le_length (by omega), val_snoc, Nat.mul_zero, Nat.add_zero]
    have h1 := val_lt ((bnd_limbs B9_two A0).drop K)
    rw [List.length_drop] at h1
    have e : (limbs B9 A0).length - K = m + 1 := by omega
    rw [e] at h1
    obtain ⟨low, _, h2⟩ := D.lo
    have hf1 : 1 ≤ f := by have := D.half; have := B9_pos; omega
    have h3 : B9 ^ m * (B9 * 1) ≤ B9 ^ m * (s + B9 * f) := Nat.mul_le_mul_left _ (by have := Nat.mul_le_mul_left B9 hf1; omega)
    have h4 : B9 ^ (m + 1) = B9 ^ m * (B9 * 1) := by rw [Nat.pow_succ, Nat.mul_one]
    omega

theorem LongI.done {A0 V m N K : Nat} {ns qs : List Nat} (h : LongI A0 V m N K ns qs 0) : val B9 qs = A0 / V ∧ val B9 ns = A0 % V := by
  have h1 := h.inv
  have h2 := h.low
  simp only [Nat.pow_zero, Nat.mul_one, List.drop_zero] at h1 h2
  have hV : 0 < V := by omega
  have h3 : A0 = V * val B9 qs + val B9 ns := by omega
  rw [h3]
  constructor
  · rw [Nat.mul_add_div hV, Nat.div_eq_of_lt h2, Nat.add_zero]
  · rw [Nat.mul_add_mod, Nat.mod_eq_of_lt h2]

/-- Scaling leaves the number of limbs, and makes the first great. -/
theorem scaled {b top d m : Nat} (hl : (limbs B9 b).length = m + 2) (ht : top = (limbs B9 b).getD (m + 1) 0) (hd : d = B9 / (top + 1)) :
    1 ≤ top ∧ top < B9 ∧ 1 ≤ d ∧ d < B9 ∧ ∃ f s, f = (limbs B9 (b * d)).getD (m + 1) 0 ∧ s = (limbs B9 (b * d)).getD m 0 ∧ DivI (limbs B9 (b * d)) m (b * d) f s := by
  have ht1 : 1 ≤ top := by
    have := trimmed_top (trimmed_limbs B9_two b) (by omega)
    rw [hl] at this
    have e : m + 2 - 1 = m + 1 := rfl
    rw [e, ← ht] at this
    omega
  have ht2 : top < B9 := by rw [ht]; exact (bnd_limbs B9_two b).getD B9_pos _
  have hd1 : 1 ≤ d := by rw [hd]; exact (Nat.le_div_iff_mul_le (by omega)).2 (by omega)
  have hd2 : d * (top + 1) ≤ B9 := by rw [hd]; exact Nat.div_mul_le_self _ _
  have hd3 : d < B9 := by
    have : d * 2 ≤ d * (top + 1) := Nat.mul_le_mul_left _ (by omega)
    omega
  obtain ⟨low, hlow, hbe⟩ := val_split (limbs B9 b) (m + 1) (by omega) (bnd_limbs B9_two b)
  rw [val_limbs B9_two, val_top1 _ (m + 1) hl, ← ht] at hbe
  have hup : b * d < B9 ^ (m + 2) := by
    have h1 : b < B9 ^ (m + 1) * (top + 1) := by rw [Nat.mul_add]; omega
    have h2 : b * d < (B9 ^ (m + 1) * (top + 1)) * d := Nat.mul_lt_mul_of_pos_right h1 hd1
    have h3 : (B9 ^ (m + 1) * (top + 1)) * d = B9 ^ (m + 1) * (d * (top + 1)) := by grind
    have h4 : B9 ^ (m + 1) * (d * (top + 1)) ≤ B9 ^ (m + 1) * B9 := Nat.mul_le_mul_left _ hd2
    rw [Nat.pow_succ]
    omega
  have hlen : (limbs B9 (b * d)).length = m + 2 := by
    have h1 := limbs_length_le B9_two hup
    have h2 := limbs_length_mono B9_two (show b ≤ b * d from Nat.le_mul_of_pos_right _ hd1)
    omega
  refine ⟨ht1, ht2, hd1, hd3, _, _, rfl, rfl, bnd_limbs B9_two _, hlen, val_limbs B9_two _, rfl, rfl, ?_⟩
  have hdt : d * top ≤ (limbs B9 (b * d)).getD (m + 1) 0 := by
    obtain ⟨low2, hlow2, hbe2⟩ := val_split (limbs B9 (b * d)) (m + 1) (by omega) (bnd_limbs B9_two _)
    rw [val_limbs B9_two, val_top1 _ (m + 1) hlen] at hbe2
    obtain ⟨f, hf⟩ : ∃ f, f = (limbs B9 (b * d)).getD (m + 1) 0 := ⟨_, rfl⟩
    rw [← hf] at hbe2 ⊢
    have h1 : B9 ^ (m + 1) * (d * top) < B9 ^ (m + 1) * (f + 1) := by
      have h2 : B9 ^ (m + 1) * (d * top) = (B9 ^ (m + 1) * top) * d := by grind
      have h3 : (B9 ^ (m + 1) * top) * d ≤ b * d := Nat.mul_le_mul_right _ (by omega)
      rw [Nat.mul_add]
      omega
    have := Nat.lt_of_mul_lt_mul_left h1
    omega
  have hh := scale_half (B := B9) (v := top) (d := d) rfl ht1 ht2 hd
  have : 2 * (d * top) ≤ 2 * (limbs B9 (b * d)).getD (m + 1) 0 := Nat.mul_le_mul_left _ hdt
  omega
end Go.Proofs.Cr
namespace Go.Proofs.Cr
open Go.RowKit Go.Shelf

/-- A number in memory. -/
def NumV (w : World) (v : Value) (n : Nat) : Prop := ∃ A l c, v = .slice A l c ∧ Num w A l c n
theorem NumV.below {w w' : World} {v : Value} {n B : Nat} (h : NumV w v n) (hb : Below B w w') (hB : w.heap.size ≤ B) : NumV w' v n := by
  obtain ⟨A, l, c, e, h⟩ := h
  exact ⟨A, l, c, e, h.below hb hB⟩
theorem NumV.of_owns {w : World} {base e : Nat} {v : Value} {n : Nat} (h : Owns w base e .u64 v (limbs B9 n)) (hl : (limbs B9 n).length ≤ 1000000) : NumV w v n := by
  obtain ⟨A, c, rfl, hr, hc⟩ := h.reads hl
  exact ⟨A, _, c, rfl, rfl, hc, hr⟩
theorem NumV.zero (w : World) (A : Option Addr) (c : Nat) : NumV w (.slice A 0 c) 0 := ⟨A, 0, c, rfl, rfl, Nat.zero_le _, Reads.nil w .u64 A⟩

def OverPost (a b : Nat) (w : World) (e : Ending) (w' : World) : Prop :=
  ∃ v1 v2, e = .returned (.tuple #[v1, v2]) ∧ NumV w' v1 (a / b) ∧ NumV w' v2 (a % b) ∧ Below w.heap.size w w'

set_option maxRecDepth 100000 in
set_option maxHeartbeats 1000000 in
theorem over_less (a b : Nat) (A1 A2 : Option Addr) (l1 l2 c1 c2 : Nat) (w : World) (h1 : Num w A1 l1 c1 a) (h2 : Num w A2 l2 c2 b) (hs1 : l1 ≤ 100000) (hs2 : l2 ≤ 100000) (hlt : a < b) :
    Calls Tryz.prog 108 #[.slice A1 l1 c1, .slice A2 l2 c2] w (OverPost a b w) := by
  have H1 := Lib.hid h1
  have HC := Lib.hid (cmp_any a b A1 A2 l1 l2 c1 c2 w h1 h2 hs1 hs2)
  clear h1 h2
  go_enter Tryz.func108, Tryz.ntmps108
  go_wp2_with (go_at_call 73; refine HC.out.mono ?_; rintro e w1 ⟨r, rfl, hr1, hr2, hr3, hr4, hb1⟩; have hneg : r < 0 := hr3.2 hlt; clear hr3 hr4)
  go_ret2
  refine ⟨.slice none 0 0, .slice A1 l1 c1, rfl, ?_, ?_, hb1⟩
  · rw [Nat.div_eq_of_lt hlt]; exact NumV.zero _ _ _
  · rw [Nat.mod_eq_of_lt hlt]; exact ⟨_, _, _, rfl, H1.out.below hb1 (Nat.le_refl _)⟩

set_option maxRecDepth 100000 in
set_option maxHeartbeats 2000000 in
theorem over_one (a b : Nat) (A1 A2 : Option Addr) (l1 c1 c2 : Nat) (w : World) (h1 : Num w A1 l1 c1 a) (h2 : Num w A2 1 c2 b) (hs1 : l1 ≤ 100000) (hle : b ≤ a) :
    Calls Tryz.prog 108 #[.slice A1 l1 c1, .slice A2 1 c2] w (OverPost a b w) := by
  have HC := Lib.hid (cmp_any a b A1 A2 l1 1 c1 c2 w h1 h2 hs1 (by omega))
  obtain ⟨hl1, hc1, hr1⟩ := h1
  obtain ⟨hl2, hc2, hr2⟩ := h2
  have hb0 : 0 < b := (limbs_length_pos B9_two).1 (by omega)
  have hbB : b < B9 := by
    have := lt_of_limbs_length B9_two b
    rw [← hl2, Nat.pow_one] at this; exact this
  have hlb : limbs B9 b = [b] := limbs_small B9_two hb0 hbB
  rw [hlb] at hr2
  have hB9 := B9_eq
  obtain ⟨b2, off2, rfl, hlt2, hcell2⟩ := hr2.2 (by simp)
  have hc0 := hcell2 0 (by simp)
  simp only [Nat.add_zero, List.getD_cons_zero] at hc0
  have HL1 := Lib.hid hl1
  clear hl1 hl2 hcell2 hr2 hlb
  go_enter Tryz.func108, Tryz.ntmps108
  go_wp2_with (go_at_call 73; refine HC.out.mono ?_; rintro e w1 ⟨r, rfl, hr1', hr2', hr3, hr4, hb1⟩; have hneg : ¬ r < 0 := (fun h => Nat.not_lt.2 hle (hr3.1 h)); clear hr3 hr4; have hc1' := (hb1.cell (p := ⟨b2, off2, none⟩) hlt2).trans hc0)
  have HS := Lib.hid (short_in wide_wide 3 (Nat.le_refl _) (limbs B9 a) A1 c1 b w1 (hr1.below hb1 (Nat.le_refl _)) (bnd_limbs B9_two a) (by rw [← HL1.out]; exact hs1) hb0 (by omega))
  rw [← HL1.out] at HS
  go_wp2_with (go_at_call 139; refine (callsIn_wide.1 HS.out).mono ?_; rintro e w2 ⟨v, zs, r2, rfl, hr2, hzb, hzt, hval, hown, hb2⟩)
  have HV := Lib.hid hval; clear hval
  have hrd : Reads (w2.alloc (.cells #[.int .u64 r2] 98)) .u64 (some ⟨w2.heap.size, 0, none⟩) [r2] := by
    refine ⟨by simp, fun _ => ⟨w2.heap.size, 0, rfl, by simp, fun j hj => ?_⟩⟩
    have : j = 0 := by simpa using hj
    subst this
    exact (VarIs.new w2 (.int .u64 r2) 98).1
  have HT := Lib.hid (trim_any [r2] (some ⟨w2.heap.size, 0, none⟩) 1 _ hrd (by simp))
  obtain ⟨t, ht⟩ : ∃ t, t = (trimN [r2]).length := ⟨_, rfl⟩
  rw [← ht] at HT
  have HTL := Lib.hid ht; clear ht
  go_wp2_with (go_at_call 109; refine HT.out.mono ?_; rintro e w' ⟨rfl, rfl⟩)
  go_ret2
  have hd := HV.out
  rw [val_limbs B9_two] at hd
  have hq : zs = limbs B9 (a / b) := by
    rw [← trimN_eq_limbs B9_two hzb (show val B9 zs = a / b by rw [hd, Nat.mul_comm, Nat.mul_add_div hb0, Nat.div_eq_of_lt hr2, Nat.add_zero]), hzt]
  have hm : trimN [r2] = limbs B9 (a % b) := trimN_eq_limbs B9_two (Bnd.cons (by omega) (Bnd.nil _)) (by rw [val_single, hd, Nat.mul_comm, Nat.mul_add_mod, Nat.mod_eq_of_lt hr2])
  subst hq
  have hll := limbs_length_mono B9_two (Nat.div_le_self a b)
  rw [← HL1.out] at hll
  refine ⟨v, .slice (some ⟨w2.heap.size, 0, none⟩) t 1, rfl, NumV.of_owns (World.ownsRow.alloc hown _) (by omega), ⟨_, _, _, rfl, by rw [HTL.out, hm], ?_, ?_⟩, (hb1.trans (hb2.mono hb1.size)).alloc (by have := hb1.size; have := hb2.size; omega) _⟩
  · rw [HTL.out]; have := trimN_le [r2]; simpa using this
  · rw [← hm]
    have := hrd.take (trimN [r2]).length
    rwa [← trimN_prefix] at this
end Go.Proofs.Cr
/- Long division, plain: one digit as the machine finds it; the end. -/
namespace Go.Proofs.Cr

theorem mid_take (rs zs : List Nat) (i k : Nat) (hi : i ≤ rs.length) : (rs.take i ++ zs ++ rs.drop (i + k)).take i = rs.take i := by
  have h1 : (rs.take i).length = i := by simp; omega
  rw [List.append_assoc, List.take_append_of_le_length (by omega), List.take_take, Nat.min_self]
theorem mid_part (rs zs : List Nat) (i k : Nat) (hi : i ≤ rs.length) (hz : zs.length = k) : ((rs.take i ++ zs ++ rs.drop (i + k)).drop i).take k = zs := by
  have h1 : (rs.take i).length = i := by simp; omega
  rw [List.append_assoc, List.drop_append_of_le_length (by omega), List.drop_of_length_le (by omega), List.nil_append, List.take_append_of_le_length (by omega), List.take_of_length_le (by omega)]
theorem mid_drop (rs zs : List Nat) (i k : Nat) (hi : i ≤ rs.length) (hz : zs.length = k) : (rs.take i ++ zs ++ rs.drop (i + k)).drop (i + k) = rs.drop (i + k) := by
  have h1 : (rs.take i).length = i := by simp; omega
  have h2 : (rs.take i ++ zs).length = i + k := by rw [List.length_append]; omega
  rw [List.drop_append_of_le_length (by omega), List.drop_of_length_le (by omega), List.nil_append]
theorem mid_again (rs zs ws : List Nat) (i k : Nat) (hi : i ≤ rs.length) (hz : zs.length = k) :
    (rs.take i ++ zs ++ rs.drop (i + k)).take i ++ ws ++ (rs.take i ++ zs ++ rs.drop (i + k)).drop (i + k) = rs.take i ++ ws ++ rs.drop (i + k) := by
  rw [mid_take _ _ _ _ hi, mid_drop _ _ _ _ hi hz]

theorem digit_take {A0 V m N K : Nat} {ns qs zs : List Nat} {i q g cb P : Nat} (h : LongI A0 V m N K ns qs (i + 1)) (hV : V < B9 ^ (m + 2)) (hP : P = val B9 ((ns.drop i).take (m + 3))) (hq : q = P / V) (hqB : q < B9)
    (hqg : q ≤ g) (hgq : g ≤ q + 1) (hl : zs.length = m + 3) (hb : Bnd B9 zs) (hv : val B9 zs + g * V = val B9 ((ns.drop i).take (m + 3)) + B9 ^ (m + 3) * cb) :
    (cb = 0 → LongI A0 V m N K (ns.take i ++ zs ++ ns.drop (i + (m + 3))) (qs.set i g) i) ∧
    (cb ≠ 0 → g = q + 1 ∧ ∀ ws cb2, ws.length = m + 3 → Bnd B9 ws → val B9 ws + B9 ^ (m + 3) * cb2 = val B9 zs + V → LongI A0 V m N K (ns.take i ++ ws ++ ns.drop (i + (m + 3))) (qs.set i q) i) := by
  obtain ⟨_, _, hlt, _, _⟩ := h.part hV
  rw [← hP] at hlt hv
  have hV0 : 0 < V := by
    rcases Nat.eq_zero_or_pos V with e | e
    · subst e; omega
    · exact e
  have hq1 : q * V ≤ P := by rw [hq]; exact Nat.div_mul_le_self _ _
  have hq2 : P < (q + 1) * V := by
    rw [hq, Nat.mul_comm]; exact Nat.lt_mul_div_succ _ hV0
  have hE : V < B9 ^ (m + 3) := Nat.lt_of_lt_of_le hV (Nat.pow_le_pow_right B9_pos (by omega))
  have hzE : val B9 zs < B9 ^ (m + 3) := by have := val_lt hb; rwa [hl] at this
  obtain ⟨d1, d2⟩ := digit_done hE hzE hq1 hq2 hv hqg hgq
  have hR : P - q * V < V := by
    have : (q + 1) * V = q * V + V := by grind
    omega
  constructor
  · intro hc
    obtain ⟨rfl, hn⟩ := d1 hc
    exact h.next hV hl hb hqB (by rw [← hP]; omega) (by omega)
  · intro hc
    obtain ⟨hg, hn⟩ := d2 (Nat.pos_of_ne_zero hc)
    refine ⟨hg, fun ws cb2 hwl hwb hw => ?_⟩
    have hwE : val B9 ws < B9 ^ (m + 3) := by have := val_lt hwb; rwa [hwl] at this
    have e : val B9 ws = P - q * V := by
      rw [← hn, ← hw, Nat.add_mul_mod_self_left, Nat.mod_eq_of_lt hwE]
    exact h.next hV hwl hwb hqB (by rw [← hP]; omega) (by omega)

/-- The end: the quotient; the rest, once it is scaled back. -/
theorem LongI.ends {a b d m N K : Nat} {ns qs : List Nat} (h : LongI (a * d) (b * d) m N K ns qs 0) (hd : 0 < d) :
    trimN qs = limbs B9 (a / b) ∧ trimN ns = limbs B9 (a % b * d) := by
  obtain ⟨h1, h2⟩ := h.done
  rw [Nat.mul_div_mul_right _ _ hd] at h1
  rw [Nat.mul_mod_mul_right] at h2
  exact ⟨trimN_eq_limbs B9_two h.qb h1, trimN_eq_limbs B9_two h.nb h2⟩
/-- What short division of it gives. -/
theorem unscale {x d r : Nat} {zs : List Nat} (hd : 0 < d) (hr : r < d) (hb : Bnd B9 zs) (ht : Trimmed zs) (h : x * d = val B9 zs * d + r) : zs = limbs B9 x := by
  have h1 : val B9 zs = x := by
    have e : (val B9 zs * d + r) / d = val B9 zs := by rw [Nat.mul_comm, Nat.mul_add_div hd, Nat.div_eq_of_lt hr, Nat.add_zero]
    rw [← e, ← h, Nat.mul_div_cancel _ hd]
  rw [← trimN_eq_limbs B9_two hb h1, ht]
end Go.Proofs.Cr
