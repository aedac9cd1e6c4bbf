/- Contracts of functions that the laws reach, and plain lemmas. Part 10. -/
import Derived.Test.YtolofiiolinnoaaGreatDoorC06
import Derived.Test.YtolofiiolinnoaaGreatDoorC08
import Derived.Test.YtolofiiolinnoaaGreatDoorC09
set_option linter.all false
namespace Go.Proofs.Cr
open Go.RowKit Go.Shelf
attribute [local go_sem] Oper.semAt_some

/-- A bend as a value. -/
structure RiseOK (x u y v : Rat) : Prop where
  hx : okQ x
  hu : okQ u
  hy : okQ y
  hv : okQ v
  s1 : okQ (v - u)
  s2 : okQ (y - x)
  n2 : y - x ≠ 0
  s3 : okQ ((v - u) / (y - x))
theorem Blk.four {W : World} {b : Nat} {x y z t : Value} {ty : TypeId} (h : Blk W b #[x, y, z, t] ty) :
    (W.cell? ⟨b, 0, none⟩ = some x ∧ W.cell? ⟨b, 1, none⟩ = some y) ∧ (W.cell? ⟨b, 2, none⟩ = some z ∧ W.cell? ⟨b, 3, none⟩ = some t) :=
  ⟨⟨h.cell 0, h.cell 1⟩, h.cell 2, h.cell 3⟩
set_option maxRecDepth 100000 in
set_option maxHeartbeats 4000000 in
theorem rise_q (x u y v : Rat) (h : RiseOK x u y v) (w : World) (hT : TabW w) :
    Calls Tryz.prog 57 #[.agg #[.string (qN x), .string (qD x), .string (qN u), .string (qD u)], .agg #[.string (qN y), .string (qD y), .string (qN v), .string (qD v)]] w fun e w' => e = .returned (.agg #[.string (qN ((v - u) / (y - x))), .string (qD ((v - u) / (y - x)))]) ∧ Below w.heap.size w w' := by
  obtain ⟨hA1, hA2, hA3, hW1⟩ := three_new w #[.string (qN x), .string (qD x), .string (qN u), .string (qD u)] #[.string (qN y), .string (qD y), .string (qN v), .string (qD v)] #[.string ⟨#[]⟩, .string ⟨#[]⟩] 56 56 46
  have H := Lib.hid h
  have HT := Lib.hid hT
  have HK := Lib.hid (Kept.of (Nat.le_refl _) hW1.size hW1)
  clear hW1 hT h
  go_enter Tryz.func57, Tryz.ntmps57
  go_wp2_with fail
  have hm : Tryz.prog.follows .mixedOrders = true := by kernel_rfl
  have hfnR : ∀ f, Fence.wide.fn f := fun _ => trivial
  refine wp_region_J (fun W => ((W.cell? ⟨w.heap.size, 0, none⟩ = some (.string (qN x)) ∧ W.cell? ⟨w.heap.size, 1, none⟩ = some (.string (qD x))) ∧ (W.cell? ⟨w.heap.size, 2, none⟩ = some (.string (qN u)) ∧ W.cell? ⟨w.heap.size, 3, none⟩ = some (.string (qD u)))) ∧ ((W.cell? ⟨w.heap.size + 1, 0, none⟩ = some (.string (qN y)) ∧ W.cell? ⟨w.heap.size + 1, 1, none⟩ = some (.string (qD y))) ∧ (W.cell? ⟨w.heap.size + 1, 2, none⟩ = some (.string (qN v)) ∧ W.cell? ⟨w.heap.size + 1, 3, none⟩ = some (.string (qD v))))) [] hm ?hCells0 (fun hCells => ?_)
  case hCells0 => exact ⟨hA1.drew.four, hA2.drew.four⟩
  have g3 := hA3.drew
  have HK := Lib.hid HK.out.drew
  clear hA1 hA2 hA3
  refine takeJ hfnR (by kernel_rfl) 0 (v := ?_) rfl (by kernel_rfl) (fun _ _ _ h => h) (by kernel_rfl) hCells (Or.inl ⟨by rfl, ?_⟩) ?_
  rotate_left 1
  · intro w hSw; (try dsimp only at hSw); go_simp; (try with_reducible rfl)
  try simp only [Act.put, List.setIfInBounds_toArray, List.set_cons_zero, List.set_cons_succ]
  refine takeJ hfnR (by kernel_rfl) 1 (v := ?_) rfl (by kernel_rfl) (fun _ _ _ h => h) (by kernel_rfl) hCells (Or.inl ⟨by rfl, ?_⟩) ?_
  rotate_left 1
  · intro w hSw; (try dsimp only at hSw); go_simp; (try with_reducible rfl)
  try simp only [Act.put, List.setIfInBounds_toArray, List.set_cons_zero, List.set_cons_succ]
  refine takeJ hfnR (by kernel_rfl) 2 (v := ?_) rfl (by kernel_rfl) (fun _ _ _ h => h) (by kernel_rfl) hCells (Or.inl ⟨by rfl, ?_⟩) ?_
  rotate_left 1
  · intro w hSw; (try dsimp only at hSw); go_simp; (try with_reducible rfl)
  try simp only [Act.put, List.setIfInBounds_toArray, List.set_cons_zero, List.set_cons_succ]
  refine takeJ hfnR (by kernel_rfl) 3 (v := ?_) rfl (by kernel_rfl) (fun _ _ _ h => h) (by kernel_rfl) hCells (Or.inl ⟨by rfl, ?_⟩) ?_
  rotate_left 1
  · intro w hSw; (try dsimp only at hSw); go_simp; (try with_reducible rfl)
  try simp only [Act.put, List.setIfInBounds_toArray, List.set_cons_zero, List.set_cons_succ]
  refine takeJ hfnR (by kernel_rfl) 8 (v := ?_) rfl (by kernel_rfl) (fun _ _ _ h => h) (by kernel_rfl) hCells (Or.inl ⟨by rfl, ?_⟩) ?_
  rotate_left 1
  · intro w hSw; (try dsimp only at hSw); go_simp; (try with_reducible rfl)
  try simp only [Act.put, List.setIfInBounds_toArray, List.set_cons_zero, List.set_cons_succ]
  refine takeJ hfnR (by kernel_rfl) 9 (v := ?_) rfl (by kernel_rfl) (fun _ _ _ h => h) (by kernel_rfl) hCells (Or.inl ⟨by rfl, ?_⟩) ?_
  rotate_left 1
  · intro w hSw; (try dsimp only at hSw); go_simp; (try with_reducible rfl)
  try simp only [Act.put, List.setIfInBounds_toArray, List.set_cons_zero, List.set_cons_succ]
  refine takeJ hfnR (by kernel_rfl) 10 (v := ?_) rfl (by kernel_rfl) (fun _ _ _ h => h) (by kernel_rfl) hCells (Or.inl ⟨by rfl, ?_⟩) ?_
  rotate_left 1
  · intro w hSw; (try dsimp only at hSw); go_simp; (try with_reducible rfl)
  try simp only [Act.put, List.setIfInBounds_toArray, List.set_cons_zero, List.set_cons_succ]
  refine takeJ hfnR (by kernel_rfl) 11 (v := ?_) rfl (by kernel_rfl) (fun _ _ _ h => h) (by kernel_rfl) hCells (Or.inl ⟨by rfl, ?_⟩) ?_
  rotate_left 1
  · intro w hSw; (try dsimp only at hSw); go_simp; (try with_reducible rfl)
  try simp only [Act.put, List.setIfInBounds_toArray, List.set_cons_zero, List.set_cons_succ]
  refine oneJ 4 (by kernel_rfl) rfl (fun K hK => ?_)
  go_simp
  refine ⟨rfl, ?_⟩
  (refine (callsIn_wide.2 (sub_q v u H.out.hv H.out.hu H.out.s1 (HT.out.below HK.out.2.2 (Nat.le_refl _)))).mono ?_; rintro e w3 ⟨rfl, hb3⟩)
  refine hK.out _ _ (holdJ ?_ (fun hCells => ?_))
  · clear hK; (try dsimp only); (exact ⟨⟨⟨pc hb3 hCells.1.1.1, pc hb3 hCells.1.1.2⟩, ⟨pc hb3 hCells.1.2.1, pc hb3 hCells.1.2.2⟩⟩, ⟨⟨pc hb3 hCells.2.1.1, pc hb3 hCells.2.1.2⟩, ⟨pc hb3 hCells.2.2.1, pc hb3 hCells.2.2.2⟩⟩⟩)
  clear hK K
  try simp only [Act.put, List.setIfInBounds_toArray, List.set_cons_zero, List.set_cons_succ]
  have HK := Lib.hid (HK.out.pass hb3)
  have g3 := g3.pass hb3
  clear hb3
  refine takeJ hfnR (by kernel_rfl) 5 (v := ?_) rfl (by kernel_rfl) (fun _ _ _ h => h) (by kernel_rfl) hCells (Or.inl ⟨by rfl, ?_⟩) ?_
  rotate_left 1
  · intro w hSw; (try dsimp only at hSw); go_simp; (try with_reducible rfl)
  try simp only [Act.put, List.setIfInBounds_toArray, List.set_cons_zero, List.set_cons_succ]
  refine takeJ hfnR (by kernel_rfl) 6 (v := ?_) rfl (by kernel_rfl) (fun _ _ _ h => h) (by kernel_rfl) hCells (Or.inl ⟨by rfl, ?_⟩) ?_
  rotate_left 1
  · intro w hSw; (try dsimp only at hSw); go_simp; (try with_reducible rfl)
  try simp only [Act.put, List.setIfInBounds_toArray, List.set_cons_zero, List.set_cons_succ]
  refine oneJ 7 (by kernel_rfl) rfl (fun K hK => ?_)
  go_simp
  refine ⟨rfl, ?_⟩
  (refine (callsIn_wide.2 (must_ok _ _ _)).mono ?_; rintro e w4 ⟨rfl, hb4⟩)
  refine hK.out _ _ (holdJ ?_ (fun hCells => ?_))
  · clear hK; (try dsimp only); (exact ⟨⟨⟨pc hb4 hCells.1.1.1, pc hb4 hCells.1.1.2⟩, ⟨pc hb4 hCells.1.2.1, pc hb4 hCells.1.2.2⟩⟩, ⟨⟨pc hb4 hCells.2.1.1, pc hb4 hCells.2.1.2⟩, ⟨pc hb4 hCells.2.2.1, pc hb4 hCells.2.2.2⟩⟩⟩)
  clear hK K
  try simp only [Act.put, List.setIfInBounds_toArray, List.set_cons_zero, List.set_cons_succ]
  have HK := Lib.hid (HK.out.pass hb4)
  have g3 := g3.pass hb4
  clear hb4
  refine oneJ 12 (by kernel_rfl) rfl (fun K hK => ?_)
  go_simp
  refine ⟨rfl, ?_⟩
  (refine (callsIn_wide.2 (sub_q y x H.out.hy H.out.hx H.out.s2 (HT.out.below HK.out.2.2 (Nat.le_refl _)))).mono ?_; rintro e w5 ⟨rfl, hb5⟩)
  refine hK.out _ _ (holdJ ?_ (fun hCells => ?_))
  · clear hK; (try dsimp only); (exact ⟨⟨⟨pc hb5 hCells.1.1.1, pc hb5 hCells.1.1.2⟩, ⟨pc hb5 hCells.1.2.1, pc hb5 hCells.1.2.2⟩⟩, ⟨⟨pc hb5 hCells.2.1.1, pc hb5 hCells.2.1.2⟩, ⟨pc hb5 hCells.2.2.1, pc hb5 hCells.2.2.2⟩⟩⟩)
  clear hK K
  try simp only [Act.put, List.setIfInBounds_toArray, List.set_cons_zero, List.set_cons_succ]
  have HK := Lib.hid (HK.out.pass hb5)
  have g3 := g3.pass hb5
  clear hb5
  refine takeJ hfnR (by kernel_rfl) 13 (v := ?_) rfl (by kernel_rfl) (fun _ _ _ h => h) (by kernel_rfl) hCells (Or.inl ⟨by rfl, ?_⟩) ?_
  rotate_left 1
  · intro w hSw; (try dsimp only at hSw); go_simp; (try with_reducible rfl)
  try simp only [Act.put, List.setIfInBounds_toArray, List.set_cons_zero, List.set_cons_succ]
  refine takeJ hfnR (by kernel_rfl) 14 (v := ?_) rfl (by kernel_rfl) (fun _ _ _ h => h) (by kernel_rfl) hCells (Or.inl ⟨by rfl, ?_⟩) ?_
  rotate_left 1
  · intro w hSw; (try dsimp only at hSw); go_simp; (try with_reducible rfl)
  try simp only [Act.put, List.setIfInBounds_toArray, List.set_cons_zero, List.set_cons_succ]
  refine oneJ 15 (by kernel_rfl) rfl (fun K hK => ?_)
  go_simp
  refine ⟨rfl, ?_⟩
  (refine (callsIn_wide.2 (must_ok _ _ _)).mono ?_; rintro e w6 ⟨rfl, hb6⟩)
  refine hK.out _ _ (holdJ ?_ (fun hCells => ?_))
  · clear hK; (try dsimp only); (exact ⟨⟨⟨pc hb6 hCells.1.1.1, pc hb6 hCells.1.1.2⟩, ⟨pc hb6 hCells.1.2.1, pc hb6 hCells.1.2.2⟩⟩, ⟨⟨pc hb6 hCells.2.1.1, pc hb6 hCells.2.1.2⟩, ⟨pc hb6 hCells.2.2.1, pc hb6 hCells.2.2.2⟩⟩⟩)
  clear hK K
  try simp only [Act.put, List.setIfInBounds_toArray, List.set_cons_zero, List.set_cons_succ]
  have HK := Lib.hid (HK.out.pass hb6)
  have g3 := g3.pass hb6
  clear hb6
  refine oneJ 16 (by kernel_rfl) rfl (fun K hK => ?_)
  go_simp
  refine ⟨rfl, ?_⟩
  (refine (callsIn_wide.2 (div_q _ _ H.out.s1 H.out.s2 H.out.n2 H.out.s3 (HT.out.below HK.out.2.2 (Nat.le_refl _)))).mono ?_; rintro e w7 ⟨rfl, hb7⟩)
  refine hK.out _ _ (holdJ ?_ (fun hCells => ?_))
  · clear hK; (try dsimp only); (exact ⟨⟨⟨pc hb7 hCells.1.1.1, pc hb7 hCells.1.1.2⟩, ⟨pc hb7 hCells.1.2.1, pc hb7 hCells.1.2.2⟩⟩, ⟨⟨pc hb7 hCells.2.1.1, pc hb7 hCells.2.1.2⟩, ⟨pc hb7 hCells.2.2.1, pc hb7 hCells.2.2.2⟩⟩⟩)
  clear hK K
  try simp only [Act.put, List.setIfInBounds_toArray, List.set_cons_zero, List.set_cons_succ]
  have HK := Lib.hid (HK.out.pass hb7)
  have g3 := g3.pass hb7
  clear hb7
  refine takeJ hfnR (by kernel_rfl) 17 (v := ?_) rfl (by kernel_rfl) (fun _ _ _ h => h) (by kernel_rfl) hCells (Or.inl ⟨by rfl, ?_⟩) ?_
  rotate_left 1
  · intro w hSw; (try dsimp only at hSw); go_simp; (try with_reducible rfl)
  try simp only [Act.put, List.setIfInBounds_toArray, List.set_cons_zero, List.set_cons_succ]
  refine takeJ hfnR (by kernel_rfl) 18 (v := ?_) rfl (by kernel_rfl) (fun _ _ _ h => h) (by kernel_rfl) hCells (Or.inl ⟨by rfl, ?_⟩) ?_
  rotate_left 1
  · intro w hSw; (try dsimp only at hSw); go_simp; (try with_reducible rfl)
  try simp only [Act.put, List.setIfInBounds_toArray, List.set_cons_zero, List.set_cons_succ]
  refine oneJ 19 (by kernel_rfl) rfl (fun K hK => ?_)
  go_simp
  refine ⟨rfl, ?_⟩
  (refine (callsIn_wide.2 (must_ok _ _ _)).mono ?_; rintro e w8 ⟨rfl, hb8⟩)
  refine hK.out _ _ (holdJ ?_ (fun hCells => ?_))
  · clear hK; (try dsimp only); (exact ⟨⟨⟨pc hb8 hCells.1.1.1, pc hb8 hCells.1.1.2⟩, ⟨pc hb8 hCells.1.2.1, pc hb8 hCells.1.2.2⟩⟩, ⟨⟨pc hb8 hCells.2.1.1, pc hb8 hCells.2.1.2⟩, ⟨pc hb8 hCells.2.2.1, pc hb8 hCells.2.2.2⟩⟩⟩)
  clear hK K
  try simp only [Act.put, List.setIfInBounds_toArray, List.set_cons_zero, List.set_cons_succ]
  have HK := Lib.hid (HK.out.pass hb8)
  have g3 := g3.pass hb8
  clear hb8
  obtain ⟨⟨r0, r1⟩, f0, f1⟩ := g3.two
  refine oneJ 20 (by kernel_rfl) rfl (fun K hK => ?_)
  go_simp
  refine hK.out _ _ (holdJ ?_ (fun hCells => ?_))
  · clear hK; (try dsimp only); (exact ⟨⟨⟨far2 hCells.1.1.1 (by omega), far2 hCells.1.1.2 (by omega)⟩, ⟨far2 hCells.1.2.1 (by omega), far2 hCells.1.2.2 (by omega)⟩⟩, ⟨⟨far2 hCells.2.1.1 (by omega), far2 hCells.2.1.2 (by omega)⟩, ⟨far2 hCells.2.2.1 (by omega), far2 hCells.2.2.2 (by omega)⟩⟩⟩)
  clear hK K
  try simp only [Act.put, List.setIfInBounds_toArray, List.set_cons_zero, List.set_cons_succ]
  refine wpAnyJ_done (by kernel_rfl) (NoPan.normal ?_) _
  go_wp2_with fail
  refine bodyPost_ret (results_c1 (g := w.heap.size + 1 + 1) rfl rfl ((g3.set 0 _).set 1 _) Tryz.underlying46 rfl (by kernel_rfl)) rfl ?_
  exact ⟨by simp, (HK.out.2.2.setCell (by simp; omega) _).setCell (by simp; omega) _⟩
end Go.Proofs.Cr
namespace Go.Proofs.Cr
open Go Go.RowKit Go.Shelf
section
variable {F : Fence} {n : Nat} {P : Program} {ops : Array Oper} {Q : Exit → Act → World → Prop} {md : Region.Mode} {C : World → Prop} {T : List Nat}
/-- All that waits for i, by whatever way. -/
def closure (md : Region.Mode) (ops : Array Oper) (i : Nat) : List Nat :=
  (List.range ops.size).foldl (fun B j => if ((ops[j]?).map fun o => o.after.any fun e => Region.binds md e && (e.on == i || B.contains e.on)).getD false then j :: B else B) []
def behindB (md : Region.Mode) (ops : Array Oper) (listed : Array Bool) (B : List Nat) (i : Nat) : Bool :=
  B.all fun j => !listed.getD j true && ((ops[j]?).map fun o => o.after.any fun e => Region.binds md e && (e.on == i || B.contains e.on)).getD false
def freeB (ops : Array Oper) (listed : Array Bool) (T B : List Nat) (i : Nat) : Bool :=
  match ops[i]? with
  | none => false
  | some oi => !T.contains i && (List.range ops.size).all fun j => j == i || listed.getD j true || B.contains j || (match ops[j]? with
      | some oj => oi.apart ops oj && !T.contains j
      | none => true)
theorem freeB_spec {i : Nat} {oi : Oper} {listed : Array Bool} {B : List Nat} (hi : ops[i]? = some oi) (h : freeB ops listed T B i = true) : T.contains i = false ∧
    ∀ j oj, ops[j]? = some oj → j ≠ i → listed.getD j true = false → B.contains j = false → oi.apart ops oj = true ∧ T.contains j = false := by
  simp only [freeB, hi, Bool.and_eq_true, List.all_eq_true, List.mem_range, Bool.not_eq_true'] at h
  refine ⟨h.1, fun j oj hj hne hun hb => ?_⟩
  have h1 := h.2 j (Array.getElem?_eq_some_iff.1 hj).1
  simp only [hj, hun, hb, Bool.or_eq_true, beq_iff_eq, hne, false_or, Bool.false_eq_true, Bool.and_eq_true, Bool.not_eq_true'] at h1
  exact h1
theorem wpAnyJ_firstB (hfn : ∀ f, F.fn f) (hnd : noDefer ops = true) {i : Nat} {oi : Oper} {v : Value} (hi : ops[i]? = some oi) (hsel : ∀ (j : Nat) (o : Oper) cs b, ops[j]? = some o → o.op ≠ .select cs b)
    (hQ : ∀ c a w, Q (.panic c) (a.put oi.dst v) w → Q (.panic c) a w) (B : List Nat) :
    ∀ (fuel : Nat) (listed : Array Bool) (a : Act) (w : World), behindB md ops listed B i = true →
      (∀ j oj, ops[j]? = some oj → j ≠ i → listed.getD j true = false → B.contains j = false → oi.apart ops oj = true ∧ T.contains j = false) →
      i ∈ Region.ready md ops listed → YieldsJ P ops C oi v a → C w →
      wpAnyJ F n P md ops Q C T fuel (listed.setIfInBounds i true) (a.put oi.dst v) w → wpAnyJ F n P md ops Q C T (fuel + 1) listed a w := by
  intro fuel
  induction fuel with
  | zero =>
    intro listed a w _ _ hr hy hS H
    refine ⟨fun h => (by rw [h] at hr; cases hr), fun j hj => ?_⟩
    by_cases hji : j = i
    · subst hji; exact hy.wpOpIn hfn hnd hi hS ⟨fun _ => hS, H⟩
    · have := ready_mono hj hji
      rw [H.1] at this
      cases this
  | succ fuel ih =>
    intro listed a w hB hfree hr hy hS H
    refine ⟨fun h => (by rw [h] at hr; cases hr), fun j hj => ?_⟩
    by_cases hji : j = i
    · subst hji; exact hy.wpOpIn hfn hnd hi hS ⟨fun _ => hS, H⟩
    · have h1 := H.2 j (ready_mono hj hji)
      obtain ⟨hjun, oj, hoj, hall⟩ := mem_ready.1 hj
      have low : ∀ k, listed.getD k true = false → listed.getD k false = false := fun k hk => by
        rcases Nat.lt_or_ge k listed.size with h' | h'
        · simp [h'] at hk ⊢; exact hk
        · simp [Array.getElem?_eq_none h'] at hk
      unfold behindB at hB
      rw [List.all_eq_true] at hB
      have hnB : B.contains j = false := by
        rw [← Bool.not_eq_true, List.contains_iff_mem]
        intro hm
        have h2 := hB j hm
        rw [Bool.and_eq_true, hoj] at h2
        have h3 := h2.2
        simp only [Option.map_some, Option.getD_some, Array.any_eq_true, Bool.and_eq_true, Bool.or_eq_true, beq_iff_eq] at h3
        obtain ⟨x, hx, hb, e⟩ := h3
        have h4 := hall _ (Array.getElem_mem hx) hb
        rcases e with e | e
        · rw [e, low i (mem_ready.1 hr).1] at h4; cases h4
        · have h5 := hB _ (List.contains_iff_mem.1 e)
          rw [Bool.and_eq_true, Bool.not_eq_true'] at h5
          rw [low _ h5.1] at h4; cases h4
      obtain ⟨hap, hjT⟩ := hfree j oj hoj hji hjun hnB
      have h2 := wpOpIn_putJ hfn hnd hoj hap (fun cs b => hsel i oi cs b hi) (fun cs b => hsel j oj cs b hoj) hQ hy h1
      have hB' : behindB md ops (listed.setIfInBounds j true) B i = true := by
        unfold behindB
        rw [List.all_eq_true]
        intro k hk
        have h3 := hB k hk
        have hjk : j ≠ k := fun e => by subst e; rw [List.contains_iff_mem.2 hk] at hnB; cases hnB
        rw [Go.getD_set_ne true hjk]
        exact h3
      have hfree' : ∀ k ok, ops[k]? = some ok → k ≠ i → (listed.setIfInBounds j true).getD k true = false → B.contains k = false → oi.apart ops ok = true ∧ T.contains k = false := fun k ok hk hki hun hno => by
        refine hfree k ok hk hki ?_ hno
        by_cases hjk : j = k
        · subst hjk; exact hjun
        · rw [Go.getD_set_ne true hjk] at hun; exact hun
      refine wpOpIn_mono (fun a' w' h3 => ⟨h3.2.1, ih (listed.setIfInBounds j true) a' w' hB' hfree' (ready_mono hr (Ne.symm hji)) h3.1 (h3.2.1 hjT) ?_⟩) h2
      rw [Array.setIfInBounds_comm _ _ hji]
      exact h3.2.2
/-- 'takeJ', where whatever waits for i by a longer way is passed by. -/
theorem takeB (hfn : ∀ f, F.fn f) (hnd : noDefer ops = true) (i : Nat) {oi : Oper} {rest : List Oper} {v : Value} {fuel : Nat} {listed : Array Bool} {a : Act} {w : World} (hi : ops.toList.drop i = oi :: rest)
    (hs : Region.noSelect ops = true) (hQ : ∀ c a w, Q (.panic c) (a.put oi.dst v) w → Q (.panic c) a w)
    (hf : (behindB md ops listed (closure md ops i) i && freeB ops listed T (closure md ops i) i && (Region.ready md ops listed).contains i) = true) (hC : C w)
    (hy : YieldsJ P ops C oi v a)
    (h : wpAnyJ F n P md ops Q C T fuel (listed.setIfInBounds i true) (a.put oi.dst v) w) : wpAnyJ F n P md ops Q C T (fuel + 1) listed a w := by
  rw [Bool.and_eq_true, Bool.and_eq_true] at hf
  obtain ⟨⟨hb, hl⟩, hr⟩ := hf
  have hi' := drop_at hi
  obtain ⟨_, hl2⟩ := freeB_spec hi' hl
  exact wpAnyJ_firstB hfn hnd hi' (Region.noSelect_spec hs) hQ _ fuel listed a w hb hl2 (by simpa using hr) hy hC h
end
end Go.Proofs.Cr
namespace Go.Proofs.Cr
open Go.RowKit Go.Shelf
attribute [local go_sem] Oper.semAt_some

/-- A bend: the strings of its coverage and of its chance. -/
structure Bd where
  cn : ByteArray
  cd : ByteArray
  hn : ByteArray
  hd : ByteArray
def Bd.zero : Bd := ⟨⟨#[]⟩, ⟨#[]⟩, ⟨#[]⟩, ⟨#[]⟩⟩
/-- A curve in memory. -/
def RdB (w : World) (A : Option Addr) (L : List Bd) : Prop :=
  L.length ≤ 1000000000 ∧ (0 < L.length → ∃ b off, A = some ⟨b, off, none⟩ ∧ b < w.heap.size ∧ ∀ j, j < L.length →
    (w.cell? ⟨b, off + j * 4, none⟩ = some (.string (L.getD j .zero).cn) ∧ w.cell? ⟨b, off + j * 4 + 1, none⟩ = some (.string (L.getD j .zero).cd)) ∧
    (w.cell? ⟨b, off + j * 4 + 2, none⟩ = some (.string (L.getD j .zero).hn) ∧ w.cell? ⟨b, off + j * 4 + 3, none⟩ = some (.string (L.getD j .zero).hd)))
set_option maxRecDepth 100000 in
set_option maxHeartbeats 2000000 in
theorem pairs1_any {F : Fence} (hW : Wide F) (n : Nat) (hn : 1 ≤ n) (l Bs c N : Nat) (A : Option Addr) (L : List Bd) (J Jx : Nat → World → Prop) (hN : L.length = N + 1) (h1 : 1 ≤ N)
    (hY : ∀ k W, k < N → J k W → YieldAt F (n - 1) Tryz.prog l #[.agg #[.string (L.getD k .zero).cn, .string (L.getD k .zero).cd, .string (L.getD k .zero).hn, .string (L.getD k .zero).hd], .agg #[.string (L.getD (k + 1) .zero).cn, .string (L.getD (k + 1) .zero).cd, .string (L.getD (k + 1) .zero).hn, .string (L.getD (k + 1) .zero).hd]] W fun e W' =>
      (e = .returned (.bool true) ∧ J (k + 1) W' ∧ KeepS (sliceS Bs A (N + 1)) W W') ∨ (e = .returned (.bool false) ∧ Jx (k + 1) W'))
    (W : World) (hBs : W.cell? ⟨Bs, 0, none⟩ = some (.slice A (N + 1 : Nat) c)) (hc : N + 1 ≤ c) (hr : RdB W A L) (h0 : J 0 W) (hJd : ∀ k W, J k W → J k W.drew) :
    CallsIn F n Tryz.prog 103 #[.func (.yield l) #[] #[], .pointer (some ⟨Bs, 0, none⟩)] W fun e W' => (∃ v, e = .returned v) ∧ (J N W' ∨ ∃ k, k ≤ N ∧ Jx k W') := by
  have hro := hW.ro
  have hm : Tryz.prog.follows .mixedOrders = true := by kernel_rfl
  have hfnR : ∀ f, F.fn f := hW.fn
  obtain ⟨hl9, hr⟩ := hr
  obtain ⟨b, off, rfl, hb, hcs⟩ := hr (by omega)
  have HL := Lib.hid (And.intro hN hl9)
  have HC := Lib.hid hcs
  clear hr hcs hN
  have hc1 : ¬ c = 1 := by omega
  have hl9 : N ≤ 1000000000 := by have := HL.out; omega
  refine callsIn_of_wp Tryz.func103 rfl (hW.fn _) ?_ hW.ro
  simp only [Tryz.ntmps103, List.size_toArray, List.length_cons, List.length_nil, Nat.reduceAdd, Nat.reduceSub, Array.replicate_succ, Array.replicate_zero, List.push_toArray, List.append_toArray, List.nil_append, List.cons_append]
  gi_wp2
  gi_loopw [7] (fun i wr => ∃ k : Nat, k ≤ N ∧ i = .int .i64 (k : Int) ∧ J k wr ∧ KeepS (sliceS Bs (some ⟨b, off, none⟩) (N + 1)) W wr)
    (fun i _ => (N - intOf i).toNat)
  case atStart => exact ⟨0, Nat.zero_le _, by simp, h0, KeepS.refl _ _⟩
  case round =>
    obtain ⟨k, hk, rfl, hJ, hK⟩ := hrel
    by_cases hlt : k < N
    · have hcx := HC.out k (by have := HL.out; omega)
      have hcy := HC.out (k + 1) (by have := HL.out; omega)
      obtain ⟨fn, tmps, assign, body, hy, hR⟩ := hY k wr.drew hlt (hJd k wr hJ)
      generalize L.getD k .zero = x at hcx hy
      generalize L.getD (k + 1) .zero = y at hcy hy
      obtain ⟨x1, x2, x3, x4⟩ := x
      obtain ⟨y1, y2, y3, y4⟩ := y
      have kc : ∀ o v, W.cell? ⟨b, o, none⟩ = some v → wr.cell? ⟨b, o, none⟩ = some v := fun o v h => (hK.cell (p := ⟨b, o, none⟩) (.inr ⟨by omega, off, rfl⟩)).trans h
      have hcs := (hK.cell (p := ⟨Bs, 0, none⟩) (.inl rfl)).trans hBs
      have hq1 : (k : Int) < (N : Int) + 1 := by omega
      obtain ⟨m, hmk⟩ : ∃ m, m = k + 1 := ⟨_, rfl⟩
      have hq2 : (m : Int) < (N : Int) + 1 := by omega
      have hwk : IntKind.i64.wrap ((k : Int) + 1) = (m : Int) := by simp [IntKind.wrap_i64]; omega
      rw [← hmk] at hcy
      have HM := Lib.hid hmk
      clear hmk
      gi_wp2
      refine wpIn_region_J (fun W => W.cell? ⟨Bs, 0, none⟩ = some (.slice (some ⟨b, off, none⟩) (N + 1 : Nat) c) ∧ ((W.cell? ⟨b, off + k * 4, none⟩ = some (.string x1) ∧ W.cell? ⟨b, off + k * 4 + 1, none⟩ = some (.string x2)) ∧ (W.cell? ⟨b, off + k * 4 + 2, none⟩ = some (.string x3) ∧ W.cell? ⟨b, off + k * 4 + 3, none⟩ = some (.string x4))) ∧ ((W.cell? ⟨b, off + m * 4, none⟩ = some (.string y1) ∧ W.cell? ⟨b, off + m * 4 + 1, none⟩ = some (.string y2)) ∧ (W.cell? ⟨b, off + m * 4 + 2, none⟩ = some (.string y3) ∧ W.cell? ⟨b, off + m * 4 + 3, none⟩ = some (.string y4)))) [10, 11] hm ?hCells0 (fun hCells => ?_)
      case hCells0 => exact ⟨hcs, ⟨⟨kc _ _ hcx.1.1, kc _ _ hcx.1.2⟩, kc _ _ hcx.2.1, kc _ _ hcx.2.2⟩, ⟨kc _ _ hcy.1.1, kc _ _ hcy.1.2⟩, kc _ _ hcy.2.1, kc _ _ hcy.2.2⟩
      clear hcx hcy hcs kc HC
      refine takeB hfnR (by kernel_rfl) 0 (v := ?_) rfl (by kernel_rfl) (fun _ _ _ h => h) (by kernel_rfl) hCells (Or.inl ⟨by rfl, ?_⟩) ?_
      rotate_left 1
      · intro w hSw; (try dsimp only at hSw); go_simp; (try with_reducible rfl)
      try simp only [Act.put, List.setIfInBounds_toArray, List.set_cons_zero, List.set_cons_succ]
      refine takeB hfnR (by kernel_rfl) 1 (v := ?_) rfl (by kernel_rfl) (fun _ _ _ h => h) (by kernel_rfl) hCells (Or.inl ⟨by rfl, ?_⟩) ?_
      rotate_left 1
      · intro w hSw; (try dsimp only at hSw); go_simp; (try with_reducible rfl)
      try simp only [Act.put, List.setIfInBounds_toArray, List.set_cons_zero, List.set_cons_succ]
      refine takeB hfnR (by kernel_rfl) 2 (v := ?_) rfl (by kernel_rfl) (fun _ _ _ h => h) (by kernel_rfl) hCells (Or.inl ⟨by rfl, ?_⟩) ?_
      rotate_left 1
      · intro w hSw; (try dsimp only at hSw); go_simp; (try with_reducible rfl)
      try simp only [Act.put, List.setIfInBounds_toArray, List.set_cons_zero, List.set_cons_succ]
      refine takeB hfnR (by kernel_rfl) 3 (v := ?_) rfl (by kernel_rfl) (fun _ _ _ h => h) (by kernel_rfl) hCells (Or.inl ⟨by rfl, ?_⟩) ?_
      rotate_left 1
      · intro w hSw; (try dsimp only at hSw); go_simp; (try with_reducible rfl)
      try simp only [Act.put, List.setIfInBounds_toArray, List.set_cons_zero, List.set_cons_succ]
      refine takeB hfnR (by kernel_rfl) 4 (v := ?_) rfl (by kernel_rfl) (fun _ _ _ h => h) (by kernel_rfl) hCells (Or.inl ⟨by rfl, ?_⟩) ?_
      rotate_left 1
      · intro w hSw; (try dsimp only at hSw); go_simp; (try with_reducible rfl)
      try simp only [Act.put, List.setIfInBounds_toArray, List.set_cons_zero, List.set_cons_succ]
      refine takeB hfnR (by kernel_rfl) 5 (v := ?_) rfl (by kernel_rfl) (fun _ _ _ h => h) (by kernel_rfl) hCells (Or.inl ⟨by rfl, ?_⟩) ?_
      rotate_left 1
      · intro w hSw; (try dsimp only at hSw); go_simp; (try with_reducible rfl)
      try simp only [Act.put, List.setIfInBounds_toArray, List.set_cons_zero, List.set_cons_succ]
      refine takeB hfnR (by kernel_rfl) 6 (v := ?_) rfl (by kernel_rfl) (fun _ _ _ h => h) (by kernel_rfl) hCells (Or.inl ⟨by rfl, ?_⟩) ?_
      rotate_left 1
      · intro w hSw; (try dsimp only at hSw); go_simp; (try with_reducible rfl)
      try simp only [Act.put, List.setIfInBounds_toArray, List.set_cons_zero, List.set_cons_succ]
      refine takeB hfnR (by kernel_rfl) 7 (v := ?_) rfl (by kernel_rfl) (fun _ _ _ h => h) (by kernel_rfl) hCells (Or.inl ⟨by rfl, ?_⟩) ?_
      rotate_left 1
      · intro w hSw; (try dsimp only at hSw); go_simp; (try with_reducible rfl)
      try simp only [Act.put, List.setIfInBounds_toArray, List.set_cons_zero, List.set_cons_succ]
      refine takeB hfnR (by kernel_rfl) 8 (v := ?_) rfl (by kernel_rfl) (fun _ _ _ h => h) (by kernel_rfl) hCells (Or.inl ⟨by rfl, ?_⟩) ?_
      rotate_left 1
      · intro w hSw; (try dsimp only at hSw); go_simp; (try with_reducible rfl)
      try simp only [Act.put, List.setIfInBounds_toArray, List.set_cons_zero, List.set_cons_succ]
      refine takeB hfnR (by kernel_rfl) 9 (v := ?_) rfl (by kernel_rfl) (fun _ _ _ h => h) (by kernel_rfl) hCells (Or.inl ⟨by rfl, ?_⟩) ?_
      rotate_left 1
      · intro w hSw; (try dsimp only at hSw); go_simp; (try with_reducible rfl)
      try simp only [Act.put, List.setIfInBounds_toArray, List.set_cons_zero, List.set_cons_succ]
      refine oneJ 10 (by kernel_rfl) rfl (fun K hK => ?_)
      go_simp
      refine hR.mono ?_
      rintro e W3 (⟨rfl, hJ3, hk3⟩ | ⟨rfl, hJx3⟩)
      · refine hK.out _ _ (lastJ (by rfl) ?_)
        clear hK K
        try simp only [Act.put, List.setIfInBounds_toArray, List.set_cons_zero, List.set_cons_succ]
        refine oneJ 11 (by kernel_rfl) rfl (fun K hK => ?_)
        go_simp
        refine hK.out _ _ (lastJ (by rfl) ?_)
        clear hK K
        try simp only [Act.put, List.setIfInBounds_toArray, List.set_cons_zero, List.set_cons_succ]
        refine wpAnyJ_done (by kernel_rfl) (NoPan.normal ?_) _
        gi_wp2
        go_roundw
        case rel =>
          have hk1 : k + 1 ≤ N := hlt
          exact ⟨k + 1, hk1, by have := HM.out; simp; omega, hJ3, hK.trans ((KeepS.drew _ wr).trans hk3)⟩
        case measure =>
          have := HM.out
          simp only [intOf]
          omega
      · refine hK.out _ _ (lastJ (by rfl) ?_)
        clear hK K
        try simp only [Act.put, List.setIfInBounds_toArray, List.set_cons_zero, List.set_cons_succ]
        refine oneJ 11 (by kernel_rfl) rfl (fun K hK => ?_)
        go_simp
        refine hK.out _ _ (lastJ (by rfl) ?_)
        clear hK K
        try simp only [Act.put, List.setIfInBounds_toArray, List.set_cons_zero, List.set_cons_succ]
        refine wpAnyJ_done (by kernel_rfl) (NoPan.normal ?_) _
        gi_wp2
        refine bodyPost_ret (results_none rfl _ _ _) rfl ?_
        exact ⟨⟨_, rfl⟩, .inr ⟨k + 1, by omega, hJx3⟩⟩
    · have hkk : k = N := by omega
      subst hkk
      gi_wp2
      go_end0
      exact ⟨⟨_, rfl⟩, .inl hJ⟩
end Go.Proofs.Cr
namespace Go.Proofs.Cr
open Go.RowKit Go.Shelf
attribute [local go_sem] Oper.semAt_some

/-- Fractions in memory. -/
def RdP (w : World) (A : Option Addr) (L : List (ByteArray × ByteArray)) : Prop :=
  L.length ≤ 1000000000 ∧ (0 < L.length → ∃ b off, A = some ⟨b, off, none⟩ ∧ b < w.heap.size ∧ ∀ j, j < L.length →
    (w.cell? ⟨b, off + j * 2, none⟩ = some (.string (L.getD j (⟨#[]⟩, ⟨#[]⟩)).1) ∧ w.cell? ⟨b, off + j * 2 + 1, none⟩ = some (.string (L.getD j (⟨#[]⟩, ⟨#[]⟩)).2)))
theorem RdP.below {w w' : World} {A : Option Addr} {L : List (ByteArray × ByteArray)} {n : Nat} (h : RdP w A L) (hb : Below n w w') (hn : w.heap.size ≤ n) : RdP w' A L := by
  refine ⟨h.1, fun hp => ?_⟩
  obtain ⟨b, off, e, hlt, hc⟩ := h.2 hp
  have hbn : b < n := by omega
  exact ⟨b, off, e, Nat.lt_of_lt_of_le hlt hb.size, fun j hj => ⟨(hb.cell (p := ⟨b, off + j * 2, none⟩) hbn).trans (hc j hj).1, (hb.cell (p := ⟨b, off + j * 2 + 1, none⟩) hbn).trans (hc j hj).2⟩⟩
theorem RdB.below {w w' : World} {A : Option Addr} {L : List Bd} {n : Nat} (h : RdB w A L) (hb : Below n w w') (hn : w.heap.size ≤ n) : RdB w' A L := by
  refine ⟨h.1, fun hp => ?_⟩
  obtain ⟨b, off, e, hlt, hc⟩ := h.2 hp
  have hbn : b < n := by omega
  exact ⟨b, off, e, Nat.lt_of_lt_of_le hlt hb.size, fun j hj => ⟨⟨(hb.cell (p := ⟨b, off + j * 4, none⟩) hbn).trans (hc j hj).1.1, (hb.cell (p := ⟨b, off + j * 4 + 1, none⟩) hbn).trans (hc j hj).1.2⟩,
    (hb.cell (p := ⟨b, off + j * 4 + 2, none⟩) hbn).trans (hc j hj).2.1, (hb.cell (p := ⟨b, off + j * 4 + 3, none⟩) hbn).trans (hc j hj).2.2⟩⟩
def anyN (h : Nat → Bool) (n : Nat) : Bool := (List.range n).any h
theorem anyN_succ (h : Nat → Bool) (n : Nat) : anyN h (n + 1) = (anyN h n || h n) := by simp [anyN, List.range_succ]
theorem anyN_true {h : Nat → Bool} {n k : Nat} (hk : k < n) (e : h k = true) : anyN h n = true := List.any_eq_true.2 ⟨k, List.mem_range.2 hk, e⟩
theorem anyN_false {h : Nat → Bool} {n : Nat} (e : anyN h n = false) (k : Nat) (hk : k < n) : h k = false := by
  rw [← Bool.not_eq_true]; intro h'; rw [anyN_true hk h'] at e; cases e
/-- 'within'. -/
theorem within_any (n lo hi : Int) (w : World) : Calls Tryz.prog 49 #[.int .i64 n, .int .i64 lo, .int .i64 hi] w fun e w' => e = .returned (.bool (decide (lo ≤ n) && decide (n ≤ hi))) ∧ w' = w := by
  by_cases h1 : lo ≤ n
  · have E1 := Lib.hid (decide_eq_true h1)
    by_cases h2 : n ≤ hi
    · have E2 := Lib.hid (decide_eq_true h2)
      go_enter Tryz.func49, Tryz.ntmps49
      go_wp2
      go_ret
      exact ⟨by first | (rw [E1.out, E2.out]; rfl) | (rw [E2.out]; rfl) | rfl, rfl⟩
    · have E2 := Lib.hid (decide_eq_false h2)
      go_enter Tryz.func49, Tryz.ntmps49
      go_wp2
      go_ret
      exact ⟨by first | (rw [E1.out, E2.out]; rfl) | (rw [E2.out]; rfl) | rfl, rfl⟩
  · have E1 := Lib.hid (decide_eq_false h1)
    go_enter Tryz.func49, Tryz.ntmps49
    go_wp2
    go_ret
    exact ⟨by first | (rw [E1.out]; rfl) | rfl, rfl⟩
set_option maxRecDepth 100000 in
set_option maxHeartbeats 2000000 in
theorem index_part (K : Nat) (caps : Array Value) (A : Option Addr) (c : Nat) (L : List (ByteArray × ByteArray)) (h : Nat → Bool) (w : World) (hr : RdP w A L) (eK : ∀ args w, (callFunc K args).run Tryz.prog w = .ok (.enter K args) w)
    (hK : ∀ k W, k < L.length → Below w.heap.size w W → Calls Tryz.prog K (#[.agg #[.string (L.getD k (⟨#[]⟩, ⟨#[]⟩)).1, .string (L.getD k (⟨#[]⟩, ⟨#[]⟩)).2]] ++ caps) W fun e w' => e = .returned (.bool (h k)) ∧ Below W.heap.size W w') :
    Calls Tryz.prog 128 #[.slice A L.length c, .func (.func K) #[] caps] w fun e w' => ∃ r : Int, e = .returned (.int .i64 r) ∧ decide (0 ≤ r) = anyN h L.length ∧ Below w.heap.size w w' := by
  obtain ⟨hl9, hr⟩ := hr
  have HR := Lib.hid hr
  have HKK := Lib.hid hK
  obtain ⟨N, hN⟩ : ∃ N, N = L.length := ⟨_, rfl⟩
  rw [← hN] at hl9 ⊢
  have HN := Lib.hid hN
  clear hr hK hN
  go_enter Tryz.func128, Tryz.ntmps128
  go_wp2
  go_loopw [8] (fun i wr => ∃ k : Nat, k ≤ N ∧ i = .int .i64 (k : Int) ∧ Below w.heap.size w wr ∧ Hid (anyN h k = false))
    (fun i _ => (N - intOf i).toNat)
  case atStart => exact ⟨0, Nat.zero_le _, by simp, Below.refl _ _, Lib.hid rfl⟩
  case round =>
    obtain ⟨k, hk, rfl, hB, hA⟩ := hrel
    have HB := Lib.hid hB
    by_cases hlt : k < N
    · obtain ⟨b, off, rfl, hb, hcs⟩ := HR.out (by have := HN.out; omega)
      have hcx := hcs k (by have := HN.out; omega)
      have HC := Lib.hid (HKK.out k wr (by have := HN.out; omega) hB)
      clear hcs hB
      generalize L.getD k (⟨#[]⟩, ⟨#[]⟩) = x at hcx HC
      obtain ⟨x1, x2⟩ := x
      have kc : ∀ o v, w.cell? ⟨b, o, none⟩ = some v → wr.cell? ⟨b, o, none⟩ = some v := fun o v hv => (HB.out.cell (p := ⟨b, o, none⟩) hb).trans hv
      have q1 := kc _ _ hcx.1
      have q2 := kc _ _ hcx.2
      clear kc hcx
      go_wp2_with fail
      refine HC.out.mono ?_
      rintro e w2 ⟨rfl, hb2⟩
      have HB2 := Lib.hid (HB.out.trans (hb2.mono HB.out.size))
      obtain ⟨t, ht⟩ : ∃ t, t = h k := ⟨_, rfl⟩
      rw [← ht]
      have HT := Lib.hid ht
      clear ht hb2
      cases t with
      | true =>
        go_wp2_with fail
        go_ret
        refine ⟨k, rfl, ?_, HB2.out⟩
        rw [anyN_true hlt HT.out.symm]
        simp
      | false =>
        go_wp2_with fail
        go_roundw
        case rel =>
          have hk1 : k + 1 ≤ N := hlt
          exact ⟨k + 1, hk1, by simp, HB2.out, Lib.hid (by rw [anyN_succ, hA.out, ← HT.out]; rfl)⟩
        case measure =>
          simp [intOf]
          omega
    · have hkk : k = N := by omega
      subst hkk
      clear hB
      go_wp2_with fail
      go_ret
      exact ⟨-1, rfl, by rw [hA.out]; rfl, HB.out⟩
theorem contains_part (K : Nat) (caps : Array Value) (A : Option Addr) (c : Nat) (L : List (ByteArray × ByteArray)) (h : Nat → Bool) (w : World) (hr : RdP w A L) (eK : ∀ args w, (callFunc K args).run Tryz.prog w = .ok (.enter K args) w)
    (hK : ∀ k W, k < L.length → Below w.heap.size w W → Calls Tryz.prog K (#[.agg #[.string (L.getD k (⟨#[]⟩, ⟨#[]⟩)).1, .string (L.getD k (⟨#[]⟩, ⟨#[]⟩)).2]] ++ caps) W fun e w' => e = .returned (.bool (h k)) ∧ Below W.heap.size W w') :
    Calls Tryz.prog 101 #[.slice A L.length c, .func (.func K) #[] caps] w fun e w' => e = .returned (.bool (anyN h L.length)) ∧ Below w.heap.size w w' := by
  have TI := Lib.hid (index_part K caps A c L h w hr eK hK)
  clear hr hK
  generalize L.length = N at TI ⊢
  go_enter Tryz.func101, Tryz.ntmps101
  go_wp2_with fail
  refine TI.out.mono ?_
  rintro e w2 ⟨r, rfl, hr, hb⟩
  have HR := Lib.hid hr
  clear hr
  go_wp2_with fail
  go_ret
  exact ⟨by rw [← HR.out]; rfl, hb⟩
set_option maxRecDepth 100000 in
set_option maxHeartbeats 2000000 in
theorem index_bend (K : Nat) (caps : Array Value) (A : Option Addr) (c : Nat) (L : List Bd) (h : Nat → Bool) (w : World) (hr : RdB w A L) (eK : ∀ args w, (callFunc K args).run Tryz.prog w = .ok (.enter K args) w)
    (hK : ∀ k W, k < L.length → Below w.heap.size w W → Calls Tryz.prog K (#[.agg #[.string (L.getD k .zero).cn, .string (L.getD k .zero).cd, .string (L.getD k .zero).hn, .string (L.getD k .zero).hd]] ++ caps) W fun e w' => e = .returned (.bool (h k)) ∧ Below W.heap.size W w') :
    Calls Tryz.prog 100 #[.slice A L.length c, .func (.func K) #[] caps] w fun e w' => ∃ r : Int, e = .returned (.int .i64 r) ∧ decide (0 ≤ r) = anyN h L.length ∧ Below w.heap.size w w' := by
  obtain ⟨hl9, hr⟩ := hr
  have HR := Lib.hid hr
  have HKK := Lib.hid hK
  obtain ⟨N, hN⟩ : ∃ N, N = L.length := ⟨_, rfl⟩
  rw [← hN] at hl9 ⊢
  have HN := Lib.hid hN
  clear hr hK hN
  go_enter Tryz.func100, Tryz.ntmps100
  go_wp2
  go_loopw [8] (fun i wr => ∃ k : Nat, k ≤ N ∧ i = .int .i64 (k : Int) ∧ Below w.heap.size w wr ∧ Hid (anyN h k = false))
    (fun i _ => (N - intOf i).toNat)
  case atStart => exact ⟨0, Nat.zero_le _, by simp, Below.refl _ _, Lib.hid rfl⟩
  case round =>
    obtain ⟨k, hk, rfl, hB, hA⟩ := hrel
    have HB := Lib.hid hB
    by_cases hlt : k < N
    · obtain ⟨b, off, rfl, hb, hcs⟩ := HR.out (by have := HN.out; omega)
      have hcx := hcs k (by have := HN.out; omega)
      have HC := Lib.hid (HKK.out k wr (by have := HN.out; omega) hB)
      clear hcs hB
      generalize L.getD k .zero = x at hcx HC
      obtain ⟨x1, x2, x3, x4⟩ := x
      have kc : ∀ o v, w.cell? ⟨b, o, none⟩ = some v → wr.cell? ⟨b, o, none⟩ = some v := fun o v hv => (HB.out.cell (p := ⟨b, o, none⟩) hb).trans hv
      have q1 := kc _ _ hcx.1.1
      have q2 := kc _ _ hcx.1.2
      have q3 := kc _ _ hcx.2.1
      have q4 := kc _ _ hcx.2.2
      clear kc hcx
      go_wp2_with fail
      refine HC.out.mono ?_
      rintro e w2 ⟨rfl, hb2⟩
      have HB2 := Lib.hid (HB.out.trans (hb2.mono HB.out.size))
      obtain ⟨t, ht⟩ : ∃ t, t = h k := ⟨_, rfl⟩
      rw [← ht]
      have HT := Lib.hid ht
      clear ht hb2
      cases t with
      | true =>
        go_wp2_with fail
        go_ret
        refine ⟨k, rfl, ?_, HB2.out⟩
        rw [anyN_true hlt HT.out.symm]
        simp
      | false =>
        go_wp2_with fail
        go_roundw
        case rel =>
          have hk1 : k + 1 ≤ N := hlt
          exact ⟨k + 1, hk1, by simp, HB2.out, Lib.hid (by rw [anyN_succ, hA.out, ← HT.out]; rfl)⟩
        case measure =>
          simp [intOf]
          omega
    · have hkk : k = N := by omega
      subst hkk
      clear hB
      go_wp2_with fail
      go_ret
      exact ⟨-1, rfl, by rw [hA.out]; rfl, HB.out⟩
theorem contains_bend (K : Nat) (caps : Array Value) (A : Option Addr) (c : Nat) (L : List Bd) (h : Nat → Bool) (w : World) (hr : RdB w A L) (eK : ∀ args w, (callFunc K args).run Tryz.prog w = .ok (.enter K args) w)
    (hK : ∀ k W, k < L.length → Below w.heap.size w W → Calls Tryz.prog K (#[.agg #[.string (L.getD k .zero).cn, .string (L.getD k .zero).cd, .string (L.getD k .zero).hn, .string (L.getD k .zero).hd]] ++ caps) W fun e w' => e = .returned (.bool (h k)) ∧ Below W.heap.size W w') :
    Calls Tryz.prog 53 #[.slice A L.length c, .func (.func K) #[] caps] w fun e w' => e = .returned (.bool (anyN h L.length)) ∧ Below w.heap.size w w' := by
  have TI := Lib.hid (index_bend K caps A c L h w hr eK hK)
  clear hr hK
  generalize L.length = N at TI ⊢
  go_enter Tryz.func53, Tryz.ntmps53
  go_wp2_with fail
  refine TI.out.mono ?_
  rintro e w2 ⟨r, rfl, hr, hb⟩
  have HR := Lib.hid hr
  clear hr
  go_wp2_with fail
  go_ret
  exact ⟨by rw [← HR.out]; rfl, hb⟩
end Go.Proofs.Cr
namespace Go.Proofs.Cr
open Go.RowKit Go.Shelf
attribute [local go_sem] Oper.semAt_some

/-- Is a fraction valid, with at most so many digits? -/
def shortP (d : Nat) (a b : ByteArray) : Bool := decide (a.size ≤ d) && (decide (b.size ≤ d) && chk a b)
set_option maxRecDepth 100000 in
set_option maxHeartbeats 2000000 in
theorem short1_any (a b : ByteArray) (d bd : Nat) (w : World) (hd : w.cell? ⟨bd, 0, none⟩ = some (.int .i64 (d : Int))) :
    Calls Tryz.prog 102 #[.agg #[.string a, .string b], .pointer (some ⟨bd, 0, none⟩)] w fun e w' => e = .returned (.bool (!shortP d a b)) ∧ Below w.heap.size w w' := by
  have hlt := World.block_lt_of_cell? w _ hd
  have hX1 := Blk.new w #[.string a, .string b] 46
  have HW1 := Lib.hid (below_alloc w (.cells #[.string a, .string b] 46))
  have hd1 : (w.alloc (.cells #[.string a, .string b] 46)).cell? ⟨bd, 0, none⟩ = some (.int .i64 (d : Int)) := pc HW1.out hd
  obtain ⟨⟨x0, x1⟩, _, _⟩ := hX1.two
  have CA := Lib.hid (fun W => check_any a b W)
  clear hd hlt
  by_cases h1 : a.size ≤ d
  · by_cases h2 : b.size ≤ d
    · obtain ⟨t, ht⟩ : ∃ t, t = chk a b := ⟨_, rfl⟩
      rw [← ht] at CA
      have HS : Hid ((!shortP d a b) = !t) := Lib.hid (by simp [shortP, h1, h2, ← ht])
      have q1 : ¬ (d : Int) < (a.size : Int) := by omega
      have q2 : ¬ (d : Int) < (b.size : Int) := by omega
      clear h1 h2 ht
      go_enter Tryz.func102, Tryz.ntmps102
      go_wp2_with fail
      refine (CA.out _).mono ?_; rintro e w2 ⟨rfl, hb2⟩
      have HB2 := Lib.hid (HW1.out.trans (hb2.mono HW1.out.size))
      clear hb2
      cases t with
      | true =>
        simp only [okErr, if_true]
        go_wp2_with fail
        go_ret
        exact ⟨by rw [HS.out]; rfl, HB2.out⟩
      | false =>
        simp only [okErr, Bool.false_eq_true, if_false]
        go_wp2_with fail
        go_ret
        exact ⟨by rw [HS.out]; rfl, HB2.out⟩
    · have HS : Hid ((!shortP d a b) = true) := Lib.hid (by simp [shortP, h2])
      have q1 : ¬ (d : Int) < (a.size : Int) := by omega
      have q2 : (d : Int) < (b.size : Int) := by omega
      clear h1 h2
      go_enter Tryz.func102, Tryz.ntmps102
      go_wp2_with fail
      go_ret
      exact ⟨by rw [HS.out]; rfl, HW1.out⟩
  · have HS : Hid ((!shortP d a b) = true) := Lib.hid (by simp [shortP, h1])
    have q1 : (d : Int) < (a.size : Int) := by omega
    clear h1
    go_enter Tryz.func102, Tryz.ntmps102
    go_wp2_with fail
    go_ret
    exact ⟨by rw [HS.out]; rfl, HW1.out⟩
def shortL (d : Nat) (L : List (ByteArray × ByteArray)) : Bool := !anyN (fun k => !shortP d (L.getD k (⟨#[]⟩, ⟨#[]⟩)).1 (L.getD k (⟨#[]⟩, ⟨#[]⟩)).2) L.length
set_option maxRecDepth 100000 in
set_option maxHeartbeats 2000000 in
/-- 'detect.short'. -/
theorem shortL_any (d : Nat) (A : Option Addr) (c : Nat) (L : List (ByteArray × ByteArray)) (w : World) (hr : RdP w A L) :
    Calls Tryz.prog 55 #[.int .i64 (d : Int), .slice A L.length c] w fun e w' => e = .returned (.bool (shortL d L)) ∧ Below w.heap.size w w' := by
  have HX : Hid (Blk (w.alloc (.cells #[.int .i64 (d : Int)] 3)) w.heap.size #[.int .i64 (d : Int)] 3) := Lib.hid (Blk.new w _ 3)
  have HW1 := Lib.hid (below_alloc w (.cells #[.int .i64 (d : Int)] 3))
  have hmf : ∀ (fn : Fn) (first cap : Array Value) (w : World), (Instr.makeFunc fn first cap).run Tryz.prog w = .ok (.func fn first cap) w := fun _ _ _ _ => rfl
  have TC := Lib.hid (contains_part 102 #[.pointer (some ⟨w.heap.size, 0, none⟩)] A c L (fun k => !shortP d (L.getD k (⟨#[]⟩, ⟨#[]⟩)).1 (L.getD k (⟨#[]⟩, ⟨#[]⟩)).2) (w.alloc (.cells #[.int .i64 (d : Int)] 3))
    (hr.below HW1.out (Nat.le_refl _)) (fun _ _ => rfl) (fun k W _ hb => short1_any _ _ d w.heap.size W (((HX.out.pass hb).cell 0))))
  obtain ⟨t, ht⟩ : ∃ t, t = anyN (fun k => !shortP d (L.getD k (⟨#[]⟩, ⟨#[]⟩)).1 (L.getD k (⟨#[]⟩, ⟨#[]⟩)).2) L.length := ⟨_, rfl⟩
  rw [← ht] at TC
  unfold shortL
  rw [← ht]
  clear ht hr
  go_enter Tryz.func55, Tryz.ntmps55
  go_wp2_with fail
  refine TC.out.mono ?_; rintro e w2 ⟨rfl, hb2⟩
  go_wp2_with fail
  go_ret
  exact ⟨rfl, HW1.out.trans (hb2.mono HW1.out.size)⟩
end Go.Proofs.Cr
namespace Go.Proofs.Cr
open Go.RowKit Go.Shelf
attribute [local go_sem] Oper.semAt_some

theorem shortL_one (d : Nat) (a b : ByteArray) : shortL d [(a, b)] = shortP d a b := by simp [shortL, anyN, List.range_succ]
theorem shortL_two (d : Nat) (a b e f : ByteArray) : shortL d [(a, b), (e, f)] = (shortP d a b && shortP d e f) := by simp [shortL, anyN, List.range_succ]
theorem RdP.two {W : World} {g : Nat} {a b c d : ByteArray} {t : TypeId} (h : Blk W g #[.string a, .string b, .string c, .string d] t) : RdP W (some ⟨g, 0, none⟩) [(a, b), (c, d)] := by
  refine ⟨by simp, fun _ => ⟨g, 0, rfl, h.lt, fun j hj => ?_⟩⟩
  match j, hj with
  | 0, _ => exact ⟨h.cell 0, h.cell 1⟩
  | 1, _ => exact ⟨h.cell 2, h.cell 3⟩
theorem RdP.one {W : World} {g : Nat} {a b : ByteArray} {t : TypeId} (h : Blk W g #[.string a, .string b] t) : RdP W (some ⟨g, 0, none⟩) [(a, b)] := by
  refine ⟨by simp, fun _ => ⟨g, 0, rfl, h.lt, fun j hj => ?_⟩⟩
  match j, hj with
  | 0, _ => exact ⟨h.cell 0, h.cell 1⟩
def shortB (x : Bd) : Bool := shortP 18 x.cn x.cd && shortP 18 x.hn x.hd
set_option maxRecDepth 100000 in
set_option maxHeartbeats 2000000 in
theorem curve1_any (a b c d : ByteArray) (w : World) :
    Calls Tryz.prog 54 #[.agg #[.string a, .string b, .string c, .string d]] w fun e w' => e = .returned (.bool (!shortB ⟨a, b, c, d⟩)) ∧ Below w.heap.size w w' := by
  obtain ⟨hA1, hB1, hW1⟩ := two_new w #[.string a, .string b, .string c, .string d] #[.string a, .string b, .string c, .string d] 56 46
  have hX1 := Blk.new w #[.string a, .string b, .string c, .string d] 56
  obtain ⟨⟨x0, x1⟩, x2, x3⟩ := hX1.four
  have TS := Lib.hid (shortL_any 18 (some ⟨w.heap.size + 1, 0, none⟩) 2 [(a, b), (c, d)] _ (RdP.two hB1))
  rw [shortL_two, show (shortP 18 a b && shortP 18 c d) = shortB ⟨a, b, c, d⟩ from rfl] at TS
  generalize shortB ⟨a, b, c, d⟩ = t at TS ⊢
  have HW1 := Lib.hid hW1
  clear hW1 hA1 hB1 hX1
  go_enter Tryz.func54, Tryz.ntmps54
  go_wp2_with fail
  refine TS.out.mono ?_; rintro e w2 ⟨rfl, hb2⟩
  go_wp2_with fail
  go_ret
  exact ⟨rfl, HW1.out.trans (hb2.mono HW1.out.size)⟩
theorem pairs_any (A : Option Addr) (l c : Nat) (w : World) :
    Calls Tryz.prog 56 #[.slice A l c] w fun e w' => e = .returned (.func (.func 103) #[] #[.pointer (some ⟨w.heap.size, 0, none⟩)]) ∧ w.alloc (.cells #[.slice A l c] 34) = w' := by
  have hmf : ∀ (fn : Fn) (first cap : Array Value) (w : World), (Instr.makeFunc fn first cap).run Tryz.prog w = .ok (.func fn first cap) w := fun _ _ _ _ => rfl
  go_enter Tryz.func56, Tryz.ntmps56
  go_wp2
  go_ret
  exact ⟨rfl, rfl⟩
theorem pairs_seq {F : Fence} (hW : Wide F) (n : Nat) (hn : 1 ≤ n) (Bs c N : Nat) (A : Option Addr) (L : List Bd) (hN : L.length = N + 1) (h1 : 1 ≤ N) (hcap : N + 1 ≤ c) (w : World) (hBs : Bs < w.heap.size)
    (hc : w.cell? ⟨Bs, 0, none⟩ = some (.slice A (N + 1 : Nat) c)) (hr : RdB w A L) :
    SeqK F n Tryz.prog 103 #[.pointer (some ⟨Bs, 0, none⟩)] (fun k => #[.agg #[.string (L.getD k .zero).cn, .string (L.getD k .zero).cd, .string (L.getD k .zero).hn, .string (L.getD k .zero).hd], .agg #[.string (L.getD (k + 1) .zero).cn, .string (L.getD (k + 1) .zero).cd, .string (L.getD (k + 1) .zero).hn, .string (L.getD (k + 1) .zero).hd]]) N (fun _ => False) (KeepS (sliceS Bs A (N + 1))) w :=
  fun l J Jx W hWW hJ _ hY h0 =>
    pairs1_any hW n hn l Bs c N A L J Jx hN h1 hY W ((hWW.cell (p := ⟨Bs, 0, none⟩) hBs).trans hc) hcap (hr.below hWW (Nat.le_refl _)) h0
      (fun k W' hk => hJ k W' W'.drew none hk (grown_of_below (Below.refl _ W').drew none) (fun r e => by cases e))
end Go.Proofs.Cr
namespace Go.Proofs.Cr
open Go Go.RowKit
section
variable {F : Fence} {n : Nat} {P : Program}
theorem wpIn_range2 {g : Operand} {ps : Array Tmp} {assign body : Code} {Q : Exit → Act → World → Prop} {a : Act} {w : World}
    (hW : Wide F) (h1 : 1 ≤ n) {gf : Nat} {lb : Array Value} (hg : a.eval g = .func (.func gf) #[] lb) (eg : ∀ args w, (callFunc gf args).run P w = .ok (.enter gf args) w)
    {items : Nat → Array Value} {N : Nat} {C : Nat → Prop} {Kp : World → World → Prop} {w0 : World} (hseq : SeqK F (n - 1) P gf lb items N C Kp w0)
    (hC : ∀ r, C r → r < w.heap.size) (hKt : ∀ {A B C : World}, Kp A B → Kp B C → Kp A C) (hKb : ∀ (W : World) (l : Nat) (o o' : Obj), w.heap.size ≤ l → W.heap[l]? = some o → o.isCells = false → Kp W (W.putObj l o')) (hb0 : Below w0.heap.size w0 w) (hps : ∀ k, (items k).size = ps.size)
    (I : Nat → World → Prop) (Ix : Code → Nat → World → Prop) (hI : StabI w.heap.size C I) (hIx : ∀ c, StabI w.heap.size C (Ix c)) (h0 : I 0 w)
    (hround : ∀ (l k : Nat) (W : World), k < N → I k W → assign.wpIn (F.inRound l) (n - 1 - 1) P (Exit.then (fun a' W' => KeepsFrom w.heap.size W W' ∧ Kp W W' ∧ I k W' ∧
        ∀ W2, I k W2 → W'.heap.size ≤ W2.heap.size → (∀ (b : Nat) (c : Array Value) (t : TypeId) (f : Nat × Nat), W'.heap[b]? = some (Obj.cells c t f) → W2.heap[b]? = some (Obj.cells c t f)) → body.wpIn (F.inRound l) (n - 1 - 1) P (roundP w.heap.size Kp I Ix k W2) a' W2) (fun _ _ _ => False))
      { tmps := (ps.zip (items k)).foldl (fun t (p, v) => t.setIfInBounds p v) a.tmps, defers := [] } W)
    (hdone : ∀ (D : Nat) (W : World), w.heap.size ≤ D → I N W → W.heap[D]? = some (.deferred (some [])) → Q .normal { a with defers := { target := .collected D, args := #[] } :: a.defers } W)
    (hstop : ∀ (D : Nat) (c : Code) (k : Nat) (W : World), w.heap.size ≤ D → k ≤ N → Ix c k W → W.heap[D]? = some (.deferred (some [])) → c.wpIn F n P Q { a with defers := { target := .collected D, args := #[] } :: a.defers } W) :
    (Code.rangeFunc g ps assign body).wpIn F n P Q a w := by
  refine wpIn_rangeFunc ?_
  intro fn hfn
  rw [hW.ro]
  obtain ⟨rec, hrec⟩ : ∃ rec : LoopState → Option Code → Loop, rec = fun st pe => { state := st, pending := pe, fn, tmps := a.tmps, params := ps, assign, body, defers := w.heap.size } := ⟨_, rfl⟩
  obtain ⟨W1, hW1⟩ : ∃ W1, (w.alloc (.deferred (some []))).alloc (.loop (rec .ready none)) = W1 := ⟨_, rfl⟩
  have hL1 : W1.heap[w.heap.size + 1]? = some (.loop (rec .ready none)) := by
    rw [← hW1]; have := World.alloc_heap_new (w.alloc (.deferred (some []))) (.loop (rec .ready none)); rwa [World.size_alloc] at this
  have hK1 : W1.heap[w.heap.size]? = some (.deferred (some [])) := by
    rw [← hW1]; exact (Below.heap_alloc _ _ _ (by simp)).trans (World.alloc_heap_new w _)
  have hI1 : I 0 W1 := by rw [← hW1]; exact hI.alloc _ (hI.alloc _ h0)
  have hb1 : Below w0.heap.size w0 W1 := by
    rw [← hW1]; exact hb0.trans ((((Below.refl _ w).alloc (Nat.le_refl _) _).alloc (by simp) _).mono hb0.size)
  refine ⟨w.heap.size + 1, [{ target := .collected w.heap.size, args := #[] }], W1, { target := .fn (.func gf) lb, args := #[.func (.yield (w.heap.size + 1)) #[] #[]] }, W1, gf,
    #[.func (.yield (w.heap.size + 1)) #[] #[]] ++ lb, W1, ?_, ?_, ?_, ?_, fun _ => h1, ?_⟩
  · rw [← hW1, hrec]; exact run_enterLoop_outer _ _ _ _ _
  · simp only [resolve, hg]
    simp [go_sem]
  · intro f' hf'; exact hW.fn f'
  · simp [invoke, go_sem, eg]
  · have hne : ∀ {A B : World} {row : Option Nat} {k : Nat} {o : Obj}, A.grownBy B row → (∀ r, row = some r → C r) → w.heap.size ≤ k → A.heap[k]? = some o → B.heap[k]? = some o := fun {A B row k o} hg hr hk ho => by
      rw [hg.block k (Array.getElem?_eq_some_iff.1 ho).1 (fun e => by have := hC k (hr k e.symm); omega)]; exact ho
    have hst : ∀ {G : Nat → World → Prop}, StabI w.heap.size C G → ∀ (o1 o2 : Obj), StabJ C (fun k W => G k W ∧ W.heap[w.heap.size + 1]? = some o1 ∧ W.heap[w.heap.size]? = some o2) := fun hG o1 o2 s A B row hs hg' hr =>
      ⟨hG s A B row hs.1 hg' (fun r e => .inl (hr r e)), hne hg' hr (by omega) hs.2.1, hne hg' hr (Nat.le_refl _) hs.2.2⟩
    refine (hseq (w.heap.size + 1)
      (fun k W => I k W ∧ W.heap[w.heap.size + 1]? = some (.loop (rec .ready none)) ∧ W.heap[w.heap.size]? = some (.deferred (some [])))
      (fun k W => ∃ c, Ix c k W ∧ W.heap[w.heap.size + 1]? = some (.loop (rec .done (some c))) ∧ W.heap[w.heap.size]? = some (.deferred (some [])))
      W1 hb1 (hst hI _ _)
      (fun s A B row hs hg' hr => by
        obtain ⟨c, hs⟩ := hs
        exact ⟨c, hst (hIx c) _ _ s A B row hs hg' hr⟩)
      ?_ ⟨hI1, hL1, hK1⟩).mono ?_
    · rintro k W hkN ⟨hi, hl, hk⟩
      have hlt : w.heap.size + 1 < W.heap.size := (Array.getElem?_eq_some_iff.1 hl).1
      have hy := run_yield (P := P) (args := items k) hl (by rw [hrec]; exact hps k)
      rw [hrec] at hy
      refine ⟨fn, _, assign, body, hy, roundIn_of_wpIn hfn (wpIn_mono (hround (w.heap.size + 1) k W hkN hi) ?_)⟩
      intro ea a' Wa hea
      cases ea with
      | ret => exact hea.elim
      | exit id => exact hea.elim
      | goto t => exact hea.elim
      | panic ch => exact hea.elim
      | outgrown => exact hea.elim
      | normal =>
      obtain ⟨hka, hkpa, hia, hbody⟩ := hea
      have hla := hka.same _ _ (by omega) hl rfl
      have hda := hka.same _ _ (Nat.le_refl _) hk rfl
      have hlta : w.heap.size + 1 < Wa.heap.size := (Array.getElem?_eq_some_iff.1 hla).1
      refine ⟨_, run_beginRound hla (by rw [hrec]), ?_⟩
      have hl2 : (Wa.putObj (w.heap.size + 1) (.loop { rec .ready none with state := .busy })).heap[w.heap.size + 1]? = some (.loop { rec .ready none with state := .busy }) := World.putObj_heap_same hlta
      have hk2 : (Wa.putObj (w.heap.size + 1) (.loop { rec .ready none with state := .busy })).heap[w.heap.size]? = some (.deferred (some [])) := (World.putObj_heap_other (by omega)).trans hda
      have hw2 : Kp W (Wa.putObj (w.heap.size + 1) (.loop { rec .ready none with state := .busy })) := hKt hkpa (hKb _ _ _ _ (by omega) hla rfl)
      refine wpIn_mono (hbody _ (hI.putObj _ hia (by omega) hla rfl) (by simp) (fun b c t f hv => (World.putObj_heap_other (fun e => by subst e; rw [hla] at hv; cases hv)).trans hv)) ?_
      have fin : ∀ (jump : Option Code) (W3 : World), KeepsFrom w.heap.size (Wa.putObj (w.heap.size + 1) (.loop { rec .ready none with state := .busy })) W3 →
          (Instr.endRound (w.heap.size + 1) jump).run P W3 = .ok (.bool jump.isNone) (W3.putObj (w.heap.size + 1) (.loop (rec (if jump.isNone then .ready else .done) jump))) ∧
          W3.heap[w.heap.size + 1]? = some (.loop { rec .ready none with state := .busy }) ∧
          (W3.putObj (w.heap.size + 1) (.loop (rec (if jump.isNone then .ready else .done) jump))).heap[w.heap.size + 1]? = some (.loop (rec (if jump.isNone then .ready else .done) jump)) ∧
          (W3.putObj (w.heap.size + 1) (.loop (rec (if jump.isNone then .ready else .done) jump))).heap[w.heap.size]? = some (.deferred (some [])) := fun jump W3 hk3 => by
        have hl3 := hk3.same _ _ (by omega) hl2 rfl
        have := run_endRound (P := P) jump hl3
        rw [hrec] at this ⊢
        exact ⟨this, by rw [hrec] at hl3; exact hl3, World.putObj_heap_same (Array.getElem?_eq_some_iff.1 hl3).1, (World.putObj_heap_other (by omega)).trans (hk3.same _ _ (Nat.le_refl _) hk2 rfl)⟩
      rintro e a3 W3 hp
      cases e with
      | normal =>
        obtain ⟨hk3, hkp3, hi3⟩ := hp
        obtain ⟨hr, hl3, hl4, hk4⟩ := fin none W3 hk3
        exact ⟨_, _, hr, .inl ⟨rfl, ⟨hI.putObj _ hi3 (by omega) hl3 rfl, hl4, hk4⟩, hKt (hKt hw2 hkp3) (hKb _ _ _ _ (by omega) hl3 rfl)⟩⟩
      | ret =>
        obtain ⟨hk3, hi3⟩ := hp
        obtain ⟨hr, hl3, hl4, hk4⟩ := fin (some .ret) W3 hk3
        exact ⟨_, _, hr, .inr ⟨rfl, .ret, (hIx _).putObj _ hi3 (by omega) hl3 rfl, hl4, hk4⟩⟩
      | exit id =>
        obtain ⟨hk3, hi3⟩ := hp
        obtain ⟨hr, hl3, hl4, hk4⟩ := fin (some (.exit id)) W3 hk3
        exact ⟨_, _, hr, .inr ⟨rfl, .exit id, (hIx _).putObj _ hi3 (by omega) hl3 rfl, hl4, hk4⟩⟩
      | goto t =>
        obtain ⟨hk3, hi3⟩ := hp
        obtain ⟨hr, hl3, hl4, hk4⟩ := fin (some (.goto t)) W3 hk3
        exact ⟨_, _, hr, .inr ⟨rfl, .goto t, (hIx _).putObj _ hi3 (by omega) hl3 rfl, hl4, hk4⟩⟩
      | panic ch => exact hp.elim
      | outgrown => exact hp.elim
    · rintro e W2 ⟨⟨v, rfl⟩, (⟨hi, hl, hk⟩ | ⟨k, hkN, c, hi, hl, hk⟩)⟩
      · exact ⟨none, _, by have := run_endLoop (P := P) hl (by rw [hrec]; simp); rw [hrec] at this; exact this, hdone _ _ (Nat.le_refl _) (hI.putObj _ hi (by omega) hl rfl) ((World.putObj_heap_other (by omega)).trans hk)⟩
      · exact ⟨some c, _, by have := run_endLoop (P := P) hl (by rw [hrec]; simp); rw [hrec] at this; exact this, hstop _ c k _ (Nat.le_refl _) hkN ((hIx c).putObj _ hi (by omega) hl rfl) ((World.putObj_heap_other (by omega)).trans hk)⟩
end
section
variable {B : Nat} {C : Nat → Prop}
theorem stabI_blk {b : Nat} {cs : Nat → Array Value} {t : TypeId} (hc : ¬ C b) : StabI B C (fun s W => Blk W b (cs s) t) := fun s W W' row hs hg hr => by
  refine (hg.block b (Blk.lt hs) (fun e => ?_)).trans hs
  rcases hr b e.symm with h | ⟨_, o, ho, hn⟩
  · exact hc h
  · have hs' : W.heap[b]? = some (.cells (cs s) t (0, 0)) := hs
    rw [hs'] at ho; cases ho; cases hn
end
theorem keepsFrom_below {B : Nat} {W W' : World} (h : Below W.heap.size W W') : KeepsFrom B W W' := KeepsFrom.of_grownBy (grown_of_below h none) (fun j e => by cases e)
theorem keepsFrom_set (B : Nat) (W : World) (p : Addr) (v : Value) : KeepsFrom B W (W.setCell p v) := (KeepsOthers.setCell _ _ _).from _
end Go.Proofs.Cr
namespace Go.Proofs.Cr
/-- Numerator and denominator have at most k digits. -/
def sm (k : Nat) (q : Rat) : Prop := q.num.natAbs < 10 ^ k ∧ q.den < 10 ^ k
theorem mkRat_le (n : Int) (d : Nat) (hd : 0 < d) : (mkRat n d).num.natAbs ≤ n.natAbs ∧ (mkRat n d).den ≤ d := by
  rw [Rat.num_mkRat, Rat.den_mkRat, if_neg (by omega), if_neg (by omega)]
  have hg : 0 < Nat.gcd d n.natAbs := Nat.gcd_pos_of_pos_left _ hd
  refine ⟨?_, Nat.div_le_self _ _⟩
  exact Int.natAbs_ediv_le_natAbs _ _
theorem sm_of_mkRat {k : Nat} {n : Int} {d : Nat} (hd : 0 < d) (h1 : n.natAbs < 10 ^ k) (h2 : d < 10 ^ k) : sm k (mkRat n d) :=
  ⟨Nat.lt_of_le_of_lt (mkRat_le n d hd).1 h1, Nat.lt_of_le_of_lt (mkRat_le n d hd).2 h2⟩
theorem mul_lt_pow {a b j k : Nat} (h1 : a < 10 ^ j) (h2 : b < 10 ^ k) : a * b < 10 ^ (j + k) := by
  rw [Nat.pow_add]; exact Nat.mul_lt_mul'' h1 h2
variable {j k : Nat} {p q : Rat}
theorem sm.mul (hp : sm j p) (hq : sm k q) : sm (j + k) (p * q) := by
  rw [Rat.mul_def']
  refine sm_of_mkRat (Nat.mul_pos p.den_pos q.den_pos) ?_ (mul_lt_pow hp.2 hq.2)
  rw [Int.natAbs_mul]; exact mul_lt_pow hp.1 hq.1
theorem sm.sub (hp : sm j p) (hq : sm k q) (p0 : 0 ≤ p) (q0 : 0 ≤ q) : sm (j + k) (p - q) := by
  rw [Rat.sub_def']
  refine sm_of_mkRat (Nat.mul_pos p.den_pos q.den_pos) ?_ (mul_lt_pow hp.2 hq.2)
  have h1 := mul_lt_pow hp.1 hq.2
  have h2 := mul_lt_pow hp.2 hq.1
  have e1 : (p.num.natAbs : Int) = p.num := by have := Rat.num_nonneg.2 p0; omega
  have e2 : (q.num.natAbs : Int) = q.num := by have := Rat.num_nonneg.2 q0; omega
  rw [← e1, ← e2]
  generalize p.num.natAbs = a at *
  generalize q.num.natAbs = b at *
  generalize q.den = d at *
  generalize p.den = e at *
  rw [Nat.mul_comm e b] at h2
  rw [← Int.natCast_mul, ← Int.natCast_mul]
  omega
theorem sm.add (hp : sm j p) (hq : sm k q) (p0 : 0 ≤ p) (q0 : 0 ≤ q) : sm (j + k + 1) (p + q) := by
  rw [Rat.add_def']
  have hd := mul_lt_pow hp.2 hq.2
  have h1 := mul_lt_pow hp.1 hq.2
  have h2 := mul_lt_pow hp.2 hq.1
  have e1 : (p.num.natAbs : Int) = p.num := by have := Rat.num_nonneg.2 p0; omega
  have e2 : (q.num.natAbs : Int) = q.num := by have := Rat.num_nonneg.2 q0; omega
  refine sm_of_mkRat (Nat.mul_pos p.den_pos q.den_pos) ?_ ?_
  · rw [← e1, ← e2]
    generalize p.num.natAbs = a at *
    generalize q.num.natAbs = b at *
    generalize q.den = d at *
    generalize p.den = e at *
    rw [Nat.mul_comm e b] at h2
    rw [← Int.natCast_mul, ← Int.natCast_mul, Nat.pow_succ]
    omega
  · rw [Nat.pow_succ]; omega
theorem sm.div (hp : sm j p) (hq : sm k q) (q0 : 0 ≤ q) (h0 : q ≠ 0) : sm (j + k) (p / q) := by
  have hn : q.num ≠ 0 := fun e => h0 (Rat.num_eq_zero.1 e)
  have e2 : (q.num.natAbs : Int) = q.num := by have := Rat.num_nonneg.2 q0; omega
  have e : p / q = mkRat (p.num * q.den) (p.den * q.num.natAbs) := by
    rw [← Rat.divInt_ofNat, Rat.div_def, Rat.inv_def]
    conv => lhs; rw [← Rat.num_divInt_den p]
    rw [Rat.divInt_mul_divInt, Int.natCast_mul, e2]
  rw [e]
  refine sm_of_mkRat (Nat.mul_pos p.den_pos (Int.natAbs_pos.2 hn)) ?_ (mul_lt_pow hp.2 hq.1)
  rw [Int.natAbs_mul, Int.natAbs_natCast]
  exact mul_lt_pow hp.1 hq.2
theorem sm.mono (h : sm j q) (hjk : j ≤ k) : sm k q := ⟨Nat.lt_of_lt_of_le h.1 (Nat.pow_le_pow_right (by decide) hjk), Nat.lt_of_lt_of_le h.2 (Nat.pow_le_pow_right (by decide) hjk)⟩
theorem sm.ok (h : sm k q) (hk : k ≤ 600) (h0 : 0 ≤ q) : okQ q := ⟨h0, (sm.mono (k := 600) h hk).1, (sm.mono (k := 600) h hk).2⟩
end Go.Proofs.Cr
