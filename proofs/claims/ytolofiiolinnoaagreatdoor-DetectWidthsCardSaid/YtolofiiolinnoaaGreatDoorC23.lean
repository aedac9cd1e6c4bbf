/- Contracts of functions that the laws reach, and plain lemmas. Part 23. -/
import Derived.Deep.Upon
import Derived.Test.YtolofiiolinnoaaGreatDoorC22
set_option linter.all false
namespace Go.Proofs.Cr
open Go.RowKit Go.Shelf
attribute [local go_sem] Oper.semAt_some

/-- The cells of a table, as they lie. -/
theorem RdS.cell {w : World} {b off : Nat} {L : List Sg} (hc : ∀ j, j < L.length → SgAt w b (off + j * 5) (L.getD j .z)) : ∀ j u, (L.flatMap sgL)[j]? = some u → w.cell? ((⟨b, off, none⟩ : Addr).add j) = some u := by
  intro j u hu
  have hj : j < L.length * 5 := by
    rw [← sgL_len]
    exact (List.getElem?_eq_some_iff.1 hu).1
  obtain ⟨q, i, hi, rfl⟩ : ∃ q i, i < 5 ∧ j = q * 5 + i := ⟨j / 5, j % 5, Nat.mod_lt _ (by decide), by omega⟩
  have hq : q < L.length := by omega
  rw [sgL_at L q hq i hi] at hu
  have ea : (⟨b, off, none⟩ : Addr).add (q * 5 + i) = ⟨b, off + q * 5 + i, none⟩ := by
    by_cases h0 : q * 5 + i = 0
    · have : q = 0 := by omega
      subst this
      have : i = 0 := by omega
      subst this
      rfl
    · rw [Addr.add, if_neg h0]
      simp [Nat.add_assoc]
  rw [ea]
  obtain ⟨⟨⟨h0, h1⟩, h2, h3⟩, h4⟩ := hc q hq
  match i, hi with
  | 0, _ => rw [show off + q * 5 + 0 = off + q * 5 from rfl, h0]; exact hu
  | 1, _ => rw [h1]; exact hu
  | 2, _ => rw [h2]; exact hu
  | 3, _ => rw [h3]; exact hu
  | 4, _ => rw [h4]; exact hu
theorem sgL_one {L : List Sg} : ∀ u ∈ L.flatMap sgL, u.oneCell' = true := by
  intro u hu
  obtain ⟨s, _, hs⟩ := List.mem_flatMap.1 hu
  simp only [sgL, List.mem_cons, List.mem_nil_iff, or_false] at hs
  rcases hs with rfl | rfl | rfl | rfl | rfl <;> rfl
/-- 'append([]Sight{}, l...)'. -/
theorem copy_run {w : World} {base : Nat} {v : Value} {A : Option Addr} {L : List Sg} (c : Nat) (ty : TypeId) (hown : RowS w base 30 v []) (hr : RdS w A L) (hl : L.length ≤ 1000000) (hbase : base ≤ w.heap.size) :
    ∃ v' w', (Builtin.append_ #[22, 22] ty #[v, .slice A L.length c]).run Tryz.prog w = .ok v' w' ∧ RowS w' base 30 v' L ∧ w.grownBy w' v.ownBlock := by
  obtain ⟨i0, hi, hzz⟩ := Option.map_eq_some_iff.1 info30
  simp only [Prod.mk.injEq] at hzz
  obtain ⟨hz0, hz1, hz2⟩ := hzz
  by_cases h0 : L.length = 0
  · obtain rfl : L = [] := List.eq_nil_of_length_eq_zero h0
    obtain ⟨bs, k, e, hk⟩ : ∃ bs k, v = .slice bs 0 k ∧ 0 ≤ k := by
      rcases hown.2 with ⟨rfl, _⟩ | ⟨g, cap, cur, rfl, _⟩
      · exact ⟨_, _, rfl, Nat.le_refl _⟩
      · exact ⟨_, _, rfl, Nat.zero_le _⟩
    subst e
    have hs : Src Tryz.prog i0.size 22 (.slice A 0 c) 0 [] w := by
      refine ⟨.inl ⟨30, Tryz.underlying22⟩, fun w' => ?_, ?_, ?_, by simp, fun u hu => by cases hu⟩
      · simp [Builtin.lenOf]
      · cases A <;> simp [Builtin.firstCells, loadCells, loadCellsFrom]
      · cases A <;> simp [Builtin.firstCells, loadCells, loadCellsFrom]
    exact ⟨_, w, run_append_nothing w 22 22 ty 30 i0 Tryz.underlying22 hi bs 0 k hk _ hs, hown, ⟨rfl, rfl, rfl, Nat.le_refl _, fun _ _ _ => rfl⟩⟩
  · obtain ⟨b, off, rfl, hb, hc⟩ := hr.2 (by omega)
    obtain ⟨v', w', h1, h2, h3, _⟩ := run_append_own_at (P := Tryz.prog) w base 22 ty 30 i0 (.agg z5) 5 40 Tryz.underlying22 hi hz0 hz1 hz2 rfl (by decide) v 0 [] hown ⟨b, off, none⟩ L.length c (L.flatMap sgL) (sgL_len L) (RdS.cell hc) sgL_one (by unfold maxLen; omega) (by omega) hbase
    refine ⟨v', w', h1, ?_, h3⟩
    unfold RowS
    simpa using h2
section
variable {ops : Array Oper} {rest : List Oper} {o : Oper} {a : Act} {Q : Exit → Act → World → Prop}
/-- The same, for the walk. -/
theorem app_copy {w0 W : World} {base c : Nat} {v : Value} {A : Option Addr} {L : List Sg} {sl x : Operand} (hgd : o.guard = none)
    (ho : o.op = .call { callee := .builtin .append, args := #[sl, x], argTypes := #[22, 22] }) (hs : a.eval sl = v) (hx : a.eval x = .slice A L.length c) (HO : RowS W base 30 v []) (HB : Below base w0 W) (hbase : base ≤ W.heap.size) (hr : RdS W A L) (hl : L.length ≤ 1000000)
    (h : ∀ v1 w1, RowS w1 base 30 v1 L → Below base w0 w1 → wpList Tryz.prog ops Q rest (a.put o.dst v1) w1) :
    wpList Tryz.prog ops Q (o :: rest) a W := by
  refine wpList_plain hgd fun K hK => ?_
  obtain ⟨v', w', e, h2, h3⟩ := copy_run c o.type HO hr hl hbase
  unfold Oper.wp execOp
  simp only [ho, resolve, invoke, builtin, Sem.run_bind, Sem.run_pure, Result.andThen_ok, List.map_toArray, List.map_cons, List.map_nil, hs, hx, e]
  exact hK _ _ (h v' w' h2 (HB.grown h3 hbase fun j hj => (World.ownsRow.lt HO j hj).1))
end
end Go.Proofs.Cr
namespace Go.Proofs.Cr
open Go.RowKit Go.Shelf
attribute [local go_sem] Oper.semAt_some

/-- Both tables' checks answer alike. -/
theorem tab_code (L : List Sg) : ∃ n : Int, (∀ A c w, RdS w A L → Calls Tryz.prog 17 #[.slice A L.length c] w fun e w' => e = .returned (.int .i64 n) ∧ Below w.heap.size w w') ∧
    ∀ A c w, RdS w A L → Calls Tryz.prog 18 #[.slice A L.length c] w fun e w' => e = .returned (.int .i64 n) ∧ Below w.heap.size w w' := by
  by_cases h : TableP L
  · refine ⟨0, fun A c w hr => (CheckTable_any A c L w hr).mono ?_, fun A c w hr => (CheckTable06_any A c L w hr).mono ?_⟩
    · rintro e w' ⟨⟨h1, _⟩ | ⟨_, h2⟩, hb⟩
      · exact ⟨h1, hb⟩
      · exact (h2 h).elim
    · rintro e w' ⟨⟨h1, _⟩ | ⟨_, h2⟩, hb⟩
      · exact ⟨h1, hb⟩
      · exact (h2 h).elim
  · refine ⟨2, fun A c w hr => (CheckTable_any A c L w hr).mono ?_, fun A c w hr => (CheckTable06_any A c L w hr).mono ?_⟩
    · rintro e w' ⟨⟨_, h2⟩ | ⟨h1, _⟩, hb⟩
      · exact (h h2).elim
      · exact ⟨h1, hb⟩
    · rintro e w' ⟨⟨_, h2⟩ | ⟨h1, _⟩, hb⟩
      · exact (h h2).elim
      · exact ⟨h1, hb⟩
set_option maxRecDepth 100000 in
set_option maxHeartbeats 4000000 in
/-- The law DetectWidths. -/
theorem Widths_walk (A : Option Addr) (c : Nat) (L : List Sg) (x1 x2 x3 x4 : Int) (w : World) (hr : L.length ≤ 270 → RdS w A L) (hT : TabW w) (hZ : ZO w) :
    Calls Tryz.prog 3 #[.slice A L.length c, .int .i64 x1, .int .i64 x2, .int .i64 x3, .int .i64 x4] w fun e w' => e = .returned (.bool true) ∧ Below w.heap.size w w' := by
  have HTZ := Lib.hid (And.intro hT hZ)
  have HRW := Lib.hid hr
  obtain ⟨nn, hn1, hn2⟩ := tab_code L
  have HC1 := Lib.hid hn1
  have HC2 := Lib.hid hn2
  have HW1 := Lib.hid (fun A c W h => Width_any A c L x1 x2 x3 x4 W h)
  have HW2 := Lib.hid (fun A c W h => Width06_any A c L x1 x2 x3 x4 W h)
  obtain ⟨N, hN⟩ : ∃ N, N = L.length := ⟨_, rfl⟩
  rw [← hN] at HC1 HC2 HW1 HW2 ⊢
  have HN := Lib.hid hN
  clear hr hN hT hZ hn1 hn2
  by_cases h270 : 270 < N
  · have h1 : (270 : Int) < N := by omega
    have TA := Lib.hid (alive_any w HTZ.out.1 HTZ.out.2)
    go_enter Tryz.func3, Tryz.ntmps3
    go_wp2_with fail
    refine TA.out.mono ?_
    rintro e w2 ⟨rfl, hb2⟩
    have HB2 := Lib.hid hb2
    clear hb2
    go_wp2_with fail
    go_ret
    exact ⟨rfl, HB2.out⟩
  · have h1 : ¬ (270 : Int) < N := by omega
    have HN7 := Lib.hid h270
    have HR := Lib.hid (HRW.out (by have := HN.out; omega))
    have HBA := Lib.hid (below_alloc w (.cells #[] 30))
    go_enter Tryz.func3, Tryz.ntmps3
    go_wp2_with (at_builtin; refine app_copy (L := L) (A := A) (c := c) (base := w.heap.size) (w0 := w) rfl rfl rfl (by rw [← HN.out]; rfl) ?hO HBA.out HBA.out.size (HR.out.below HBA.out (Nat.le_refl _)) (by have := HN.out; have := HN7.out; omega) ?_)
    case hO => exact ⟨rfl, .inr ⟨w.heap.size, 0, #[], rfl, Nat.le_refl _, heap_alloc_new w _, Nat.le_refl _, Nat.zero_le _, rfl, rfl⟩⟩
    rintro v1 w1 hrow hb1
    obtain ⟨A1, c1, rfl, _, hrd1⟩ := hrow.reads (by have := HN.out; have := HN7.out; omega)
    rw [← HN.out]
    have HB1 := Lib.hid hb1
    have HR1 := Lib.hid hrd1
    clear hrow hb1 hrd1
    go_wp2_with fail
    refine (HW1.out A1 c1 w1 HR1.out).mono ?_
    rintro e w2 ⟨⟨⟨p1, p2⟩, rfl, hp⟩, hb2⟩
    have HP := Lib.hid hp
    have HB2 := Lib.hid (HB1.out.trans (hb2.mono HB1.out.size))
    have HR2 := Lib.hid (HR1.out.below hb2 (Nat.le_refl _))
    clear hp hb2
    simp only []
    go_wp2_with fail
    refine (HW2.out A c w2 (HR.out.below HB2.out (Nat.le_refl _))).mono ?_
    rintro e w3 ⟨⟨⟨q1, q2⟩, rfl, hq⟩, hb3⟩
    obtain ⟨rfl, rfl⟩ : q1 = p1 ∧ q2 = p2 := by simpa using width_one hq HP.out
    have HB3 := Lib.hid (HB2.out.trans (hb3.mono HB2.out.size))
    have HR3 := Lib.hid (HR2.out.below hb3 (Nat.le_refl _)).2
    have HRL := Lib.hid (HR.out.below HB3.out (Nat.le_refl _)).2
    rw [← HN.out] at HR3 HRL
    clear hq hb3
    simp only []
    go_wp2_with fail
    go_loopw [44] (fun i wr => ∃ k : Nat, k ≤ N ∧ i = .int .i64 (k : Int) ∧ Below w3.heap.size w3 wr) (fun i _ => (N - intOf i).toNat)
    case atStart => exact ⟨0, Nat.zero_le _, rfl, Below.refl _ _⟩
    case round =>
      obtain ⟨k, hk, rfl, hB⟩ := hrel
      have HB := Lib.hid hB
      by_cases hlt : k < N
      · obtain ⟨b1, off1, rfl, hb1, hcs1⟩ := HR3.out (by omega)
        obtain ⟨b2, off2, rfl, hb2, hcs2⟩ := HRL.out (by omega)
        have hc1 := ((hcs1 k hlt).below HB.out hb1)
        have hc2 := ((hcs2 k hlt).below HB.out hb2)
        obtain ⟨s, hs⟩ : ∃ s, s = L.getD k .z := ⟨_, rfl⟩
        rw [← hs] at hc1 hc2
        have hkl : (k : Int) < N := by omega
        have hk0 : ¬ (k : Int) < 0 := by omega
        have HK := Lib.hid ((Kept.of (Nat.le_refl _) hB.size hB).drew)
        have hfnR : ∀ f, Fence.wide.fn f := fun _ => trivial
        have hm : Tryz.prog.follows .mixedOrders = true := by kernel_rfl
        clear hs hB hcs1 hcs2 hb1 hb2
        go_wp2_with fail
        refine wp_region_J (fun W => (((W.cell? ⟨b1, off1 + k * 5, none⟩ = some (.int .i64 s.se) ∧ W.cell? ⟨b1, off1 + k * 5 + 1, none⟩ = some (.int .i64 s.ob)) ∧ (W.cell? ⟨b1, off1 + k * 5 + 2, none⟩ = some (.int .i64 s.li) ∧ W.cell? ⟨b1, off1 + k * 5 + 3, none⟩ = some (.int .i64 s.sea))) ∧ W.cell? ⟨b1, off1 + k * 5 + 4, none⟩ = some (.int .i64 s.wi)) ∧ (((W.cell? ⟨b2, off2 + k * 5, none⟩ = some (.int .i64 s.se) ∧ W.cell? ⟨b2, off2 + k * 5 + 1, none⟩ = some (.int .i64 s.ob)) ∧ (W.cell? ⟨b2, off2 + k * 5 + 2, none⟩ = some (.int .i64 s.li) ∧ W.cell? ⟨b2, off2 + k * 5 + 3, none⟩ = some (.int .i64 s.sea))) ∧ W.cell? ⟨b2, off2 + k * 5 + 4, none⟩ = some (.int .i64 s.wi))) [] hm ?hCells0 (fun hCells => ?_)
        case hCells0 => exact ⟨hc1, hc2⟩
        generalize wr.drew = W0 at *
        refine takeB hfnR (by kernel_rfl) 0 (v := ?_) rfl (by kernel_rfl) (fun _ _ _ h => h) (by kernel_rfl) hCells (Or.inl ⟨by rfl, ?_⟩) ?_
        rotate_left 1
        · intro w hSw; (try dsimp only at hSw); go_simp; (try with_reducible rfl)
        try simp only [Act.put, List.setIfInBounds_toArray, List.set_cons_zero, List.set_cons_succ]
        refine takeB hfnR (by kernel_rfl) 1 (v := ?_) rfl (by kernel_rfl) (fun _ _ _ h => h) (by kernel_rfl) hCells (Or.inl ⟨by rfl, ?_⟩) ?_
        rotate_left 1
        · intro w hSw; (try dsimp only at hSw); go_simp; (try with_reducible rfl)
        try simp only [Act.put, List.setIfInBounds_toArray, List.set_cons_zero, List.set_cons_succ]
        refine takeB hfnR (by kernel_rfl) 2 (v := ?_) rfl (by kernel_rfl) (fun _ _ _ h => h) (by kernel_rfl) hCells (Or.inl ⟨by rfl, ?_⟩) ?_
        rotate_left 1
        · intro w hSw; (try dsimp only at hSw); go_simp; (try with_reducible rfl)
        try simp only [Act.put, List.setIfInBounds_toArray, List.set_cons_zero, List.set_cons_succ]
        refine takeB hfnR (by kernel_rfl) 3 (v := ?_) rfl (by kernel_rfl) (fun _ _ _ h => h) (by kernel_rfl) hCells (Or.inl ⟨by rfl, ?_⟩) ?_
        rotate_left 1
        · intro w hSw; (try dsimp only at hSw); go_simp; (try with_reducible rfl)
        try simp only [Act.put, List.setIfInBounds_toArray, List.set_cons_zero, List.set_cons_succ]
        refine takeB hfnR (by kernel_rfl) 4 (v := ?_) rfl (by kernel_rfl) (fun _ _ _ h => h) (by kernel_rfl) hCells (Or.inl ⟨by rfl, ?_⟩) ?_
        rotate_left 1
        · intro w hSw; (try dsimp only at hSw); go_simp; (try with_reducible rfl)
        try simp only [Act.put, List.setIfInBounds_toArray, List.set_cons_zero, List.set_cons_succ]
        refine takeB hfnR (by kernel_rfl) 5 (v := ?_) rfl (by kernel_rfl) (fun _ _ _ h => h) (by kernel_rfl) hCells (Or.inl ⟨by rfl, ?_⟩) ?_
        rotate_left 1
        · intro w hSw; (try dsimp only at hSw); go_simp; (try with_reducible rfl)
        try simp only [Act.put, List.setIfInBounds_toArray, List.set_cons_zero, List.set_cons_succ]
        refine takeB hfnR (by kernel_rfl) 6 (v := ?_) rfl (by kernel_rfl) (fun _ _ _ h => h) (by kernel_rfl) hCells (Or.inl ⟨by rfl, ?_⟩) ?_
        rotate_left 1
        · intro w hSw; (try dsimp only at hSw); go_simp; (try with_reducible rfl)
        try simp only [Act.put, List.setIfInBounds_toArray, List.set_cons_zero, List.set_cons_succ]
        refine takeB hfnR (by kernel_rfl) 7 (v := ?_) rfl (by kernel_rfl) (fun _ _ _ h => h) (by kernel_rfl) hCells (Or.inl ⟨by rfl, ?_⟩) ?_
        rotate_left 1
        · intro w hSw; (try dsimp only at hSw); go_simp; (try with_reducible rfl)
        try simp only [Act.put, List.setIfInBounds_toArray, List.set_cons_zero, List.set_cons_succ]
        refine takeB hfnR (by kernel_rfl) 8 (v := ?_) rfl (by kernel_rfl) (fun _ _ _ h => h) (by kernel_rfl) hCells (Or.inl ⟨by rfl, ?_⟩) ?_
        rotate_left 1
        · intro w hSw; (try dsimp only at hSw); go_simp; (try with_reducible rfl)
        try simp only [Act.put, List.setIfInBounds_toArray, List.set_cons_zero, List.set_cons_succ]
        refine wpAnyJ_done (by kernel_rfl) (NoPan.normal ?_) _
        go_wp2_with fail
        go_roundw
        case rel => exact ⟨k + 1, by omega, by simp, HK.out.2.2⟩
        case measure => simp [intOf]; omega
      · clear hB
        have hkk : k = N := by omega
        subst hkk
        have hkn : ¬ (k : Int) < (k : Int) := by omega
        have HB4 := Lib.hid (HB3.out.trans (HB.out.mono HB3.out.size))
        have TA := Lib.hid (fun W (h : Below w.heap.size w W) => alive_any W (HTZ.out.1.below h (Nat.le_refl _)) (HTZ.out.2.below h (Nat.le_refl _)))
        have HRA := Lib.hid (fun W (h : Below w.heap.size w W) => HR.out.below h (Nat.le_refl _))
        go_wp2_with fail
        refine (HC1.out A c _ (HRA.out _ HB4.out)).mono ?_
        rintro e w8 ⟨rfl, hv8⟩
        have HB5 := Lib.hid (HB4.out.trans (hv8.mono HB4.out.size))
        clear hv8
        go_wp2_with fail
        refine (HC2.out A c _ (HRA.out _ HB5.out)).mono ?_
        rintro e w9 ⟨rfl, hv9⟩
        have HB6 := Lib.hid (HB5.out.trans (hv9.mono HB5.out.size))
        clear hv9
        go_wp2_with fail
        refine (TA.out _ HB6.out).mono ?_
        rintro e w10 ⟨rfl, hv10⟩
        have HB7 := Lib.hid (HB6.out.trans (hv10.mono HB6.out.size))
        clear hv10
        go_wp2_with fail
        go_ret
        exact ⟨rfl, HB7.out⟩
end Go.Proofs.Cr
