/- Contracts of functions that the laws reach, and plain lemmas. Part 7. -/
import Derived.Test.YtolofiiolinnoaaGreatDoorC06
set_option linter.all false
namespace Go.Proofs.Cr
open Go.RowKit Go.Shelf
attribute [local go_sem] Oper.semAt_some

/-- What 'weight.Compare' answers. -/
def cmpN (x y : Nat) : Int := if x < y then -1 else if y < x then 1 else 0
def cmpS (a b c d : ByteArray) : Int := if chk a b = true ∧ chk c d = true then cmpN (nv a * nv d) (nv c * nv b) else 0
theorem clamp_cmp {r : Int} {x y : Nat} (h1 : r < 0 ↔ x < y) (h2 : 0 < r ↔ y < x) : max (-1) (min 1 r) = cmpN x y := by
  unfold cmpN
  split
  · have := h1.2 (by assumption); omega
  · split
    · have := h2.2 (by assumption); omega
    · have : ¬ r < 0 := fun h => by have := h1.1 h; contradiction
      have : ¬ 0 < r := fun h => by have := h2.1 h; contradiction
      omega
theorem taken_chk {a b : ByteArray} (h : chk a b = true) (w : World) : Calls Tryz.prog 60 #[.agg #[.string a, .string b]] w fun e w' => ∃ v1 v2, e = .returned (.agg #[v1, v2]) ∧ NumV w' v1 (nv a) ∧ NumV w' v2 (nv b) ∧ Below w.heap.size w w' :=
  taken_any a b w (rightB_ok (chk_ok h).1).1.2.1 (Nat.le_trans (rightB_ok (chk_ok h).1).2 (by decide)) (rightB_ok (chk_ok h).2.1).1.2.1 (Nat.le_trans (rightB_ok (chk_ok h).2.1).2 (by decide))
theorem Num.pass {W W' : World} {A : Option Addr} {l c n : Nat} (h : Num W A l c n) (hb : Below W.heap.size W W') : Num W' A l c n := h.below hb (Nat.le_refl _)
theorem Num.alloc {W : World} {A : Option Addr} {l c n : Nat} (h : Num W A l c n) (o : Obj) : Num (W.alloc o) A l c n := h.pass (below_alloc W o)
theorem Num.set {W : World} {A : Option Addr} {l c n b : Nat} {f : Array Value} {t : TypeId} (h : Num W A l c n) (hb : Blk W b f t) (o : Nat) (x : Value) (hf : ∀ j i : Nat, f[j]? ≠ some (.int .u64 i)) : Num (W.setCell ⟨b, o, none⟩ x) A l c n := by
  obtain ⟨h1, h2, h3, h4⟩ := h
  refine ⟨h1, h2, h3, fun hp => ?_⟩
  obtain ⟨b', off, e', hlt, hc⟩ := h4 hp
  have hne : b' ≠ b := fun e => by
    subst e
    have := hc 0 hp
    rw [hb.cell] at this
    exact hf _ _ this
  refine ⟨b', off, e', by simpa using hlt, fun j hj => ?_⟩
  rw [World.cell?_setCell_other _ _ _ _ (by simp <;> omega)]
  exact hc j hj
theorem no_int {A1 A2 : Option Addr} {l1 l2 c1 c2 : Nat} : ∀ j i : Nat, (#[Value.slice A1 l1 c1, Value.slice A2 l2 c2] : Array Value)[j]? ≠ some (.int .u64 i)
  | 0, _ => by simp
  | 1, _ => by simp
  | j + 2, _ => by simp
theorem no_int2 {A1 A2 : Option Addr} {l1 l2 c1 c2 : Nat} {x : Value} (hx : ∀ i : Nat, x ≠ .int .u64 i) : ∀ j i : Nat, ((#[Value.slice A1 l1 c1, Value.slice A2 l2 c2] : Array Value).setIfInBounds 0 x)[j]? ≠ some (.int .u64 i)
  | 0, i => by simpa using hx i
  | 1, _ => by simp
  | j + 2, _ => by simp
def CmpI (n : Nat) (w : World) (a b c d : ByteArray) (a0 a' : Act) (W : World) : Prop :=
  ∃ (A1 : Option Addr) (l1 c1 : Nat) (A2 : Option Addr) (l2 c2 : Nat) (A3 : Option Addr) (l3 c3 : Nat) (A4 : Option Addr) (l4 c4 : Nat) (b5 b6 : Nat),
    a' = (((((a0.put (some 16) (.agg #[.string a, .string b])).put (some 18) (.agg #[.string c, .string d])).put (some 17) (.agg #[.slice A1 l1 c1, .slice A2 l2 c2])).put (some 19) (.agg #[.slice A3 l3 c3, .slice A4 l4 c4])).put (some 5) (.pointer (some ⟨b5, 0, none⟩))).put (some 6) (.pointer (some ⟨b6, 0, none⟩)) ∧
    Blk W b5 #[.slice A1 l1 c1, .slice A2 l2 c2] 95 ∧ Blk W b6 #[.slice A3 l3 c3, .slice A4 l4 c4] 95 ∧ Num W A1 l1 c1 (nv a) ∧ Num W A2 l2 c2 (nv b) ∧ Num W A3 l3 c3 (nv c) ∧ Num W A4 l4 c4 (nv d) ∧ Kept n (n + 2) w W
set_option maxRecDepth 100000 in
set_option maxHeartbeats 4000000 in
theorem compare_yes (a b c d : ByteArray) (w : World) (h1 : chk a b = true) (h2 : chk c d = true) :
    Calls Tryz.prog 31 #[.agg #[.string a, .string b], .agg #[.string c, .string d]] w fun e w' => e = .returned (.int .i64 (cmpN (nv a * nv d) (nv c * nv b))) ∧ Below w.heap.size w w' := by
  have la : (limbs B9 (nv a)).length ≤ 67 := limbs_of_right (chk_ok h1).1
  have lb : (limbs B9 (nv b)).length ≤ 67 := limbs_of_right (chk_ok h1).2.1
  have lc : (limbs B9 (nv c)).length ≤ 67 := limbs_of_right (chk_ok h2).1
  have ld : (limbs B9 (nv d)).length ≤ 67 := limbs_of_right (chk_ok h2).2.1
  have LL := Lib.hid (And.intro la (And.intro lb (And.intro lc ld)))
  clear la lb lc ld
  obtain ⟨hA1, hB1, hW1⟩ := two_new w #[.string a, .string b] #[.string c, .string d] 46 46
  have CA := Lib.hid (fun W => check_any a b W)
  have CB := Lib.hid (fun W => check_any c d W)
  have TA := Lib.hid (fun W => taken_chk h1 W)
  have TB := Lib.hid (fun W => taken_chk h2 W)
  rw [h1, show okErr true = 0 from rfl] at CA
  rw [h2, show okErr true = 0 from rfl] at CB
  have HW1 := Lib.hid hW1
  obtain ⟨⟨x0, x1⟩, _, _⟩ := hA1.two
  clear hW1 h1 h2
  go_enter Tryz.func31, Tryz.ntmps31
  go_wp2_with fail
  refine (CA.out _).mono ?_; rintro e w2 ⟨rfl, hb2⟩; have hA2 := hA1.pass hb2; have hB2 := hB1.pass hb2; obtain ⟨⟨y0, y1⟩, _, _⟩ := hB2.two; have HB2 := Lib.hid (HW1.out.trans (hb2.mono HW1.out.size)); clear hb2 hA1 hB1 x0 x1
  go_wp2_with fail
  refine (CB.out _).mono ?_; rintro e w3 ⟨rfl, hb3⟩; have hA3 := hA2.pass hb3; have hB3 := hB2.pass hb3; have HB3 := Lib.hid (HB2.out.trans (hb3.mono HB2.out.size)); clear hb3 hA2 hB2 y0 y1
  go_wp2_with fail
  have hm : Tryz.prog.follows .mixedOrders = true := by kernel_rfl
  have hfnR : ∀ f, Fence.wide.fn f := fun _ => trivial
  refine wp_region_I (CmpI w.heap.size w a b c d) (Kept w.heap.size (w.heap.size + 2) w) (fun W => (W.cell? ⟨w.heap.size, 0, none⟩ = some (.string a) ∧ W.cell? ⟨w.heap.size, 1, none⟩ = some (.string b)) ∧ (W.cell? ⟨w.heap.size + 1, 0, none⟩ = some (.string c) ∧ W.cell? ⟨w.heap.size + 1, 1, none⟩ = some (.string d))) [] hm ⟨hA3.drew.two.1, hB3.drew.two.1⟩ (Kept.of (by omega) (by have := hB3.lt; simp; omega) HB3.out.drew) ?_ ?_
  · clear hA3 hB3
    intro W0 hCells hk
    refine takeJ hfnR (by kernel_rfl) 0 (v := ?_) rfl (by kernel_rfl) (fun _ _ _ h => h) (by kernel_rfl) hCells (Or.inl ⟨by rfl, ?_⟩) ?_
    rotate_left 1
    · intro w hSw; (try dsimp only at hSw); go_simp; (try with_reducible rfl)
    try simp only [Act.put, List.setIfInBounds_toArray, List.set_cons_zero, List.set_cons_succ]
    refine takeJ hfnR (by kernel_rfl) 2 (v := ?_) rfl (by kernel_rfl) (fun _ _ _ h => h) (by kernel_rfl) hCells (Or.inl ⟨by rfl, ?_⟩) ?_
    rotate_left 1
    · intro w hSw; (try dsimp only at hSw); go_simp; (try with_reducible rfl)
    try simp only [Act.put, List.setIfInBounds_toArray, List.set_cons_zero, List.set_cons_succ]
    refine wpAnyJ_ready (rs := [1, 4, 5]) (by kernel_rfl) (by simp) (consJ 1 rfl (fun K hK => ?_) (consJ 4 rfl (fun K hK => ?_) (consJ 5 rfl (fun K hK => ?_) AllJ.nil)))
    ·
      go_simp
      refine ⟨rfl, ?_⟩
      refine (callsIn_wide.2 (TA.out _)).mono ?_; rintro e w4 ⟨v1, v2, rfl, ⟨A1, l1, c1, rfl, hn1⟩, ⟨A2, l2, c2, rfl, hn2⟩, hb4⟩
      have hk := hk.pass hb4
      refine hK.out _ _ (holdJ ?_ (fun hCells => ?_))
      · clear hK; (try dsimp only); exact ⟨⟨pc hb4 hCells.1.1, pc hb4 hCells.1.2⟩, ⟨pc hb4 hCells.2.1, pc hb4 hCells.2.2⟩⟩
      clear hK K hb4
      try simp only [Act.put, List.setIfInBounds_toArray, List.set_cons_zero, List.set_cons_succ]
      refine wpAnyJ_ready (rs := [3, 4, 5]) (by kernel_rfl) (by simp) (consJ 3 rfl (fun K hK => ?_) (consJ 4 rfl (fun K hK => ?_) (consJ 5 rfl (fun K hK => ?_) AllJ.nil)))
      ·
        go_simp
        refine ⟨rfl, ?_⟩
        refine (callsIn_wide.2 (TB.out _)).mono ?_; rintro e w5 ⟨v3, v4, rfl, ⟨A3, l3, c3, rfl, hn3⟩, ⟨A4, l4, c4, rfl, hn4⟩, hb5⟩
        have hk := hk.pass hb5
        have hn1 := hn1.pass hb5
        have hn2 := hn2.pass hb5
        refine hK.out _ _ (holdJ ?_ (fun hCells => ?_))
        · clear hK; (try dsimp only); exact ⟨⟨pc hb5 hCells.1.1, pc hb5 hCells.1.2⟩, ⟨pc hb5 hCells.2.1, pc hb5 hCells.2.2⟩⟩
        clear hK K hb5
        try simp only [Act.put, List.setIfInBounds_toArray, List.set_cons_zero, List.set_cons_succ]
        refine wpAnyJ_ready (rs := [4, 5]) (by kernel_rfl) (by simp) (consJ 4 rfl (fun K hK => ?_) (consJ 5 rfl (fun K hK => ?_) AllJ.nil))
        ·
          go_simp
          have hk5 := Blk.new w5 #[.slice none 0 0, .slice none 0 0] 95
          have ge_hk5 := hk.2.1
          have hk := hk.alloc (.cells #[.slice none 0 0, .slice none 0 0] 95)
          have hn1 := hn1.alloc (.cells #[.slice none 0 0, .slice none 0 0] 95)
          have hn2 := hn2.alloc (.cells #[.slice none 0 0, .slice none 0 0] 95)
          have hn3 := hn3.alloc (.cells #[.slice none 0 0, .slice none 0 0] 95)
          have hn4 := hn4.alloc (.cells #[.slice none 0 0, .slice none 0 0] 95)
          refine hK.out _ _ (holdJ ?_ (fun hCells => ?_))
          · clear hK; (try dsimp only); exact ⟨⟨pc (below_alloc _ _) hCells.1.1, pc (below_alloc _ _) hCells.1.2⟩, ⟨pc (below_alloc _ _) hCells.2.1, pc (below_alloc _ _) hCells.2.2⟩⟩
          clear hK K
          generalize w5.heap.size = b_hk5 at hk5 ge_hk5 ⊢
          generalize w5.alloc (.cells #[.slice none 0 0, .slice none 0 0] 95) = W_hk5 at hk hn1 hn2 hn3 hn4 hk5 hCells ⊢
          try simp only [Act.put, List.setIfInBounds_toArray, List.set_cons_zero, List.set_cons_succ]
          refine oneJ 5 (by kernel_rfl) rfl (fun K hK => ?_)
          go_simp
          have lt_hk5_hk6 := hk5.lt
          have hk6 := Blk.new W_hk5 #[.slice none 0 0, .slice none 0 0] 95
          have ge_hk6 := hk.2.1
          have hk := hk.alloc (.cells #[.slice none 0 0, .slice none 0 0] 95)
          have hn1 := hn1.alloc (.cells #[.slice none 0 0, .slice none 0 0] 95)
          have hn2 := hn2.alloc (.cells #[.slice none 0 0, .slice none 0 0] 95)
          have hn3 := hn3.alloc (.cells #[.slice none 0 0, .slice none 0 0] 95)
          have hn4 := hn4.alloc (.cells #[.slice none 0 0, .slice none 0 0] 95)
          have hk5 := hk5.alloc (.cells #[.slice none 0 0, .slice none 0 0] 95)
          refine hK.out _ _ (holdJ ?_ (fun hCells => ?_))
          · clear hK; (try dsimp only); exact ⟨⟨pc (below_alloc _ _) hCells.1.1, pc (below_alloc _ _) hCells.1.2⟩, ⟨pc (below_alloc _ _) hCells.2.1, pc (below_alloc _ _) hCells.2.2⟩⟩
          clear hK K
          generalize W_hk5.heap.size = b_hk6 at hk6 ge_hk6 lt_hk5_hk6 ⊢
          generalize W_hk5.alloc (.cells #[.slice none 0 0, .slice none 0 0] 95) = W_hk6 at hk hn1 hn2 hn3 hn4 hk5 hk6 hCells ⊢
          try simp only [Act.put, List.setIfInBounds_toArray, List.set_cons_zero, List.set_cons_succ]
          refine oneJ 6 (by kernel_rfl) rfl (fun K hK => ?_)
          obtain ⟨⟨r0, r1⟩, f0, f1⟩ := hk5.two
          go_simp
          refine hK.out _ _ (holdJ ?_ (fun hCells => ?_))
          · clear hK; (try dsimp only); (exact ⟨⟨far2 hCells.1.1 (by omega), far2 hCells.1.2 (by omega)⟩, ⟨far2 hCells.2.1 (by omega), far2 hCells.2.2 (by omega)⟩⟩)
          clear r0 r1 f0 f1
          have hn1 := (hn1.set hk5 0 (.slice A1 l1 c1) no_int).set (hk5.set 0 (.slice A1 l1 c1)) 1 (.slice A2 l2 c2) (no_int2 (fun i => by simp))
          have hn2 := (hn2.set hk5 0 (.slice A1 l1 c1) no_int).set (hk5.set 0 (.slice A1 l1 c1)) 1 (.slice A2 l2 c2) (no_int2 (fun i => by simp))
          have hn3 := (hn3.set hk5 0 (.slice A1 l1 c1) no_int).set (hk5.set 0 (.slice A1 l1 c1)) 1 (.slice A2 l2 c2) (no_int2 (fun i => by simp))
          have hn4 := (hn4.set hk5 0 (.slice A1 l1 c1) no_int).set (hk5.set 0 (.slice A1 l1 c1)) 1 (.slice A2 l2 c2) (no_int2 (fun i => by simp))
          have hk6 := (hk6.far (p := ⟨b_hk5, 0, none⟩) (by simp <;> omega) (.slice A1 l1 c1)).far (p := ⟨b_hk5, 1, none⟩) (by simp <;> omega) (.slice A2 l2 c2)
          have hk := (hk.set (p := ⟨b_hk5, 0, none⟩) ge_hk5 (.slice A1 l1 c1)).set (p := ⟨b_hk5, 1, none⟩) ge_hk5 (.slice A2 l2 c2)
          have hk5 := (hk5.set 0 (.slice A1 l1 c1)).set 1 (.slice A2 l2 c2)
          clear hK K
          try simp only [Act.put, List.setIfInBounds_toArray, List.set_cons_zero, List.set_cons_succ]
          refine oneJ 7 (by kernel_rfl) rfl (fun K hK => ?_)
          obtain ⟨⟨r0, r1⟩, f0, f1⟩ := hk6.two
          go_simp
          refine hK.out _ _ (holdJ ?_ (fun hCells => ?_))
          · clear hK; (try dsimp only); (exact ⟨⟨far2 hCells.1.1 (by omega), far2 hCells.1.2 (by omega)⟩, ⟨far2 hCells.2.1 (by omega), far2 hCells.2.2 (by omega)⟩⟩)
          clear r0 r1 f0 f1
          have hn1 := (hn1.set hk6 0 (.slice A3 l3 c3) no_int).set (hk6.set 0 (.slice A3 l3 c3)) 1 (.slice A4 l4 c4) (no_int2 (fun i => by simp))
          have hn2 := (hn2.set hk6 0 (.slice A3 l3 c3) no_int).set (hk6.set 0 (.slice A3 l3 c3)) 1 (.slice A4 l4 c4) (no_int2 (fun i => by simp))
          have hn3 := (hn3.set hk6 0 (.slice A3 l3 c3) no_int).set (hk6.set 0 (.slice A3 l3 c3)) 1 (.slice A4 l4 c4) (no_int2 (fun i => by simp))
          have hn4 := (hn4.set hk6 0 (.slice A3 l3 c3) no_int).set (hk6.set 0 (.slice A3 l3 c3)) 1 (.slice A4 l4 c4) (no_int2 (fun i => by simp))
          have hk5 := (hk5.far (p := ⟨b_hk6, 0, none⟩) (by simp <;> omega) (.slice A3 l3 c3)).far (p := ⟨b_hk6, 1, none⟩) (by simp <;> omega) (.slice A4 l4 c4)
          have hk := (hk.set (p := ⟨b_hk6, 0, none⟩) ge_hk6 (.slice A3 l3 c3)).set (p := ⟨b_hk6, 1, none⟩) ge_hk6 (.slice A4 l4 c4)
          have hk6 := (hk6.set 0 (.slice A3 l3 c3)).set 1 (.slice A4 l4 c4)
          clear hK K
          try simp only [Act.put, List.setIfInBounds_toArray, List.set_cons_zero, List.set_cons_succ]
          refine wpAnyJ_done (by kernel_rfl) (NoPan.normal ?_) _
          exact ⟨rfl, _, _, _, _, _, _, _, _, _, _, _, _, _, _, rfl, hk5, hk6, hn1, hn2, hn3, hn4, hk⟩
        ·
          go_simp
          have hk6 := Blk.new w5 #[.slice none 0 0, .slice none 0 0] 95
          have ge_hk6 := hk.2.1
          have hk := hk.alloc (.cells #[.slice none 0 0, .slice none 0 0] 95)
          have hn1 := hn1.alloc (.cells #[.slice none 0 0, .slice none 0 0] 95)
          have hn2 := hn2.alloc (.cells #[.slice none 0 0, .slice none 0 0] 95)
          have hn3 := hn3.alloc (.cells #[.slice none 0 0, .slice none 0 0] 95)
          have hn4 := hn4.alloc (.cells #[.slice none 0 0, .slice none 0 0] 95)
          refine hK.out _ _ (holdJ ?_ (fun hCells => ?_))
          · clear hK; (try dsimp only); exact ⟨⟨pc (below_alloc _ _) hCells.1.1, pc (below_alloc _ _) hCells.1.2⟩, ⟨pc (below_alloc _ _) hCells.2.1, pc (below_alloc _ _) hCells.2.2⟩⟩
          clear hK K
          generalize w5.heap.size = b_hk6 at hk6 ge_hk6 ⊢
          generalize w5.alloc (.cells #[.slice none 0 0, .slice none 0 0] 95) = W_hk6 at hk hn1 hn2 hn3 hn4 hk6 hCells ⊢
          try simp only [Act.put, List.setIfInBounds_toArray, List.set_cons_zero, List.set_cons_succ]
          refine oneJ 4 (by kernel_rfl) rfl (fun K hK => ?_)
          go_simp
          have lt_hk6_hk5 := hk6.lt
          have hk5 := Blk.new W_hk6 #[.slice none 0 0, .slice none 0 0] 95
          have ge_hk5 := hk.2.1
          have hk := hk.alloc (.cells #[.slice none 0 0, .slice none 0 0] 95)
          have hn1 := hn1.alloc (.cells #[.slice none 0 0, .slice none 0 0] 95)
          have hn2 := hn2.alloc (.cells #[.slice none 0 0, .slice none 0 0] 95)
          have hn3 := hn3.alloc (.cells #[.slice none 0 0, .slice none 0 0] 95)
          have hn4 := hn4.alloc (.cells #[.slice none 0 0, .slice none 0 0] 95)
          have hk6 := hk6.alloc (.cells #[.slice none 0 0, .slice none 0 0] 95)
          refine hK.out _ _ (holdJ ?_ (fun hCells => ?_))
          · clear hK; (try dsimp only); exact ⟨⟨pc (below_alloc _ _) hCells.1.1, pc (below_alloc _ _) hCells.1.2⟩, ⟨pc (below_alloc _ _) hCells.2.1, pc (below_alloc _ _) hCells.2.2⟩⟩
          clear hK K
          generalize W_hk6.heap.size = b_hk5 at hk5 ge_hk5 lt_hk6_hk5 ⊢
          generalize W_hk6.alloc (.cells #[.slice none 0 0, .slice none 0 0] 95) = W_hk5 at hk hn1 hn2 hn3 hn4 hk6 hk5 hCells ⊢
          try simp only [Act.put, List.setIfInBounds_toArray, List.set_cons_zero, List.set_cons_succ]
          refine oneJ 6 (by kernel_rfl) rfl (fun K hK => ?_)
          obtain ⟨⟨r0, r1⟩, f0, f1⟩ := hk5.two
          go_simp
          refine hK.out _ _ (holdJ ?_ (fun hCells => ?_))
          · clear hK; (try dsimp only); (exact ⟨⟨far2 hCells.1.1 (by omega), far2 hCells.1.2 (by omega)⟩, ⟨far2 hCells.2.1 (by omega), far2 hCells.2.2 (by omega)⟩⟩)
          clear r0 r1 f0 f1
          have hn1 := (hn1.set hk5 0 (.slice A1 l1 c1) no_int).set (hk5.set 0 (.slice A1 l1 c1)) 1 (.slice A2 l2 c2) (no_int2 (fun i => by simp))
          have hn2 := (hn2.set hk5 0 (.slice A1 l1 c1) no_int).set (hk5.set 0 (.slice A1 l1 c1)) 1 (.slice A2 l2 c2) (no_int2 (fun i => by simp))
          have hn3 := (hn3.set hk5 0 (.slice A1 l1 c1) no_int).set (hk5.set 0 (.slice A1 l1 c1)) 1 (.slice A2 l2 c2) (no_int2 (fun i => by simp))
          have hn4 := (hn4.set hk5 0 (.slice A1 l1 c1) no_int).set (hk5.set 0 (.slice A1 l1 c1)) 1 (.slice A2 l2 c2) (no_int2 (fun i => by simp))
          have hk6 := (hk6.far (p := ⟨b_hk5, 0, none⟩) (by simp <;> omega) (.slice A1 l1 c1)).far (p := ⟨b_hk5, 1, none⟩) (by simp <;> omega) (.slice A2 l2 c2)
          have hk := (hk.set (p := ⟨b_hk5, 0, none⟩) ge_hk5 (.slice A1 l1 c1)).set (p := ⟨b_hk5, 1, none⟩) ge_hk5 (.slice A2 l2 c2)
          have hk5 := (hk5.set 0 (.slice A1 l1 c1)).set 1 (.slice A2 l2 c2)
          clear hK K
          try simp only [Act.put, List.setIfInBounds_toArray, List.set_cons_zero, List.set_cons_succ]
          refine oneJ 7 (by kernel_rfl) rfl (fun K hK => ?_)
          obtain ⟨⟨r0, r1⟩, f0, f1⟩ := hk6.two
          go_simp
          refine hK.out _ _ (holdJ ?_ (fun hCells => ?_))
          · clear hK; (try dsimp only); (exact ⟨⟨far2 hCells.1.1 (by omega), far2 hCells.1.2 (by omega)⟩, ⟨far2 hCells.2.1 (by omega), far2 hCells.2.2 (by omega)⟩⟩)
          clear r0 r1 f0 f1
          have hn1 := (hn1.set hk6 0 (.slice A3 l3 c3) no_int).set (hk6.set 0 (.slice A3 l3 c3)) 1 (.slice A4 l4 c4) (no_int2 (fun i => by simp))
          have hn2 := (hn2.set hk6 0 (.slice A3 l3 c3) no_int).set (hk6.set 0 (.slice A3 l3 c3)) 1 (.slice A4 l4 c4) (no_int2 (fun i => by simp))
          have hn3 := (hn3.set hk6 0 (.slice A3 l3 c3) no_int).set (hk6.set 0 (.slice A3 l3 c3)) 1 (.slice A4 l4 c4) (no_int2 (fun i => by simp))
          have hn4 := (hn4.set hk6 0 (.slice A3 l3 c3) no_int).set (hk6.set 0 (.slice A3 l3 c3)) 1 (.slice A4 l4 c4) (no_int2 (fun i => by simp))
          have hk5 := (hk5.far (p := ⟨b_hk6, 0, none⟩) (by simp <;> omega) (.slice A3 l3 c3)).far (p := ⟨b_hk6, 1, none⟩) (by simp <;> omega) (.slice A4 l4 c4)
          have hk := (hk.set (p := ⟨b_hk6, 0, none⟩) ge_hk6 (.slice A3 l3 c3)).set (p := ⟨b_hk6, 1, none⟩) ge_hk6 (.slice A4 l4 c4)
          have hk6 := (hk6.set 0 (.slice A3 l3 c3)).set 1 (.slice A4 l4 c4)
          clear hK K
          try simp only [Act.put, List.setIfInBounds_toArray, List.set_cons_zero, List.set_cons_succ]
          refine wpAnyJ_done (by kernel_rfl) (NoPan.normal ?_) _
          exact ⟨rfl, _, _, _, _, _, _, _, _, _, _, _, _, _, _, rfl, hk5, hk6, hn1, hn2, hn3, hn4, hk⟩
      ·
        go_simp
        have hk5 := Blk.new w4 #[.slice none 0 0, .slice none 0 0] 95
        have ge_hk5 := hk.2.1
        have hk := hk.alloc (.cells #[.slice none 0 0, .slice none 0 0] 95)
        have hn1 := hn1.alloc (.cells #[.slice none 0 0, .slice none 0 0] 95)
        have hn2 := hn2.alloc (.cells #[.slice none 0 0, .slice none 0 0] 95)
        refine hK.out _ _ (holdJ ?_ (fun hCells => ?_))
        · clear hK; (try dsimp only); exact ⟨⟨pc (below_alloc _ _) hCells.1.1, pc (below_alloc _ _) hCells.1.2⟩, ⟨pc (below_alloc _ _) hCells.2.1, pc (below_alloc _ _) hCells.2.2⟩⟩
        clear hK K
        generalize w4.heap.size = b_hk5 at hk5 ge_hk5 ⊢
        generalize w4.alloc (.cells #[.slice none 0 0, .slice none 0 0] 95) = W_hk5 at hk hn1 hn2 hk5 hCells ⊢
        try simp only [Act.put, List.setIfInBounds_toArray, List.set_cons_zero, List.set_cons_succ]
        refine wpAnyJ_ready (rs := [3, 5]) (by kernel_rfl) (by simp) (consJ 3 rfl (fun K hK => ?_) (consJ 5 rfl (fun K hK => ?_) AllJ.nil))
        ·
          go_simp
          refine ⟨rfl, ?_⟩
          refine (callsIn_wide.2 (TB.out _)).mono ?_; rintro e w5 ⟨v3, v4, rfl, ⟨A3, l3, c3, rfl, hn3⟩, ⟨A4, l4, c4, rfl, hn4⟩, hb5⟩
          have hk := hk.pass hb5
          have hn1 := hn1.pass hb5
          have hn2 := hn2.pass hb5
          have hk5 := hk5.pass hb5
          refine hK.out _ _ (holdJ ?_ (fun hCells => ?_))
          · clear hK; (try dsimp only); exact ⟨⟨pc hb5 hCells.1.1, pc hb5 hCells.1.2⟩, ⟨pc hb5 hCells.2.1, pc hb5 hCells.2.2⟩⟩
          clear hK K hb5
          try simp only [Act.put, List.setIfInBounds_toArray, List.set_cons_zero, List.set_cons_succ]
          refine oneJ 5 (by kernel_rfl) rfl (fun K hK => ?_)
          go_simp
          have lt_hk5_hk6 := hk5.lt
          have hk6 := Blk.new w5 #[.slice none 0 0, .slice none 0 0] 95
          have ge_hk6 := hk.2.1
          have hk := hk.alloc (.cells #[.slice none 0 0, .slice none 0 0] 95)
          have hn1 := hn1.alloc (.cells #[.slice none 0 0, .slice none 0 0] 95)
          have hn2 := hn2.alloc (.cells #[.slice none 0 0, .slice none 0 0] 95)
          have hk5 := hk5.alloc (.cells #[.slice none 0 0, .slice none 0 0] 95)
          have hn3 := hn3.alloc (.cells #[.slice none 0 0, .slice none 0 0] 95)
          have hn4 := hn4.alloc (.cells #[.slice none 0 0, .slice none 0 0] 95)
          refine hK.out _ _ (holdJ ?_ (fun hCells => ?_))
          · clear hK; (try dsimp only); exact ⟨⟨pc (below_alloc _ _) hCells.1.1, pc (below_alloc _ _) hCells.1.2⟩, ⟨pc (below_alloc _ _) hCells.2.1, pc (below_alloc _ _) hCells.2.2⟩⟩
          clear hK K
          generalize w5.heap.size = b_hk6 at hk6 ge_hk6 lt_hk5_hk6 ⊢
          generalize w5.alloc (.cells #[.slice none 0 0, .slice none 0 0] 95) = W_hk6 at hk hn1 hn2 hk5 hn3 hn4 hk6 hCells ⊢
          try simp only [Act.put, List.setIfInBounds_toArray, List.set_cons_zero, List.set_cons_succ]
          refine oneJ 6 (by kernel_rfl) rfl (fun K hK => ?_)
          obtain ⟨⟨r0, r1⟩, f0, f1⟩ := hk5.two
          go_simp
          refine hK.out _ _ (holdJ ?_ (fun hCells => ?_))
          · clear hK; (try dsimp only); (exact ⟨⟨far2 hCells.1.1 (by omega), far2 hCells.1.2 (by omega)⟩, ⟨far2 hCells.2.1 (by omega), far2 hCells.2.2 (by omega)⟩⟩)
          clear r0 r1 f0 f1
          have hn1 := (hn1.set hk5 0 (.slice A1 l1 c1) no_int).set (hk5.set 0 (.slice A1 l1 c1)) 1 (.slice A2 l2 c2) (no_int2 (fun i => by simp))
          have hn2 := (hn2.set hk5 0 (.slice A1 l1 c1) no_int).set (hk5.set 0 (.slice A1 l1 c1)) 1 (.slice A2 l2 c2) (no_int2 (fun i => by simp))
          have hn3 := (hn3.set hk5 0 (.slice A1 l1 c1) no_int).set (hk5.set 0 (.slice A1 l1 c1)) 1 (.slice A2 l2 c2) (no_int2 (fun i => by simp))
          have hn4 := (hn4.set hk5 0 (.slice A1 l1 c1) no_int).set (hk5.set 0 (.slice A1 l1 c1)) 1 (.slice A2 l2 c2) (no_int2 (fun i => by simp))
          have hk6 := (hk6.far (p := ⟨b_hk5, 0, none⟩) (by simp <;> omega) (.slice A1 l1 c1)).far (p := ⟨b_hk5, 1, none⟩) (by simp <;> omega) (.slice A2 l2 c2)
          have hk := (hk.set (p := ⟨b_hk5, 0, none⟩) ge_hk5 (.slice A1 l1 c1)).set (p := ⟨b_hk5, 1, none⟩) ge_hk5 (.slice A2 l2 c2)
          have hk5 := (hk5.set 0 (.slice A1 l1 c1)).set 1 (.slice A2 l2 c2)
          clear hK K
          try simp only [Act.put, List.setIfInBounds_toArray, List.set_cons_zero, List.set_cons_succ]
          refine oneJ 7 (by kernel_rfl) rfl (fun K hK => ?_)
          obtain ⟨⟨r0, r1⟩, f0, f1⟩ := hk6.two
          go_simp
          refine hK.out _ _ (holdJ ?_ (fun hCells => ?_))
          · clear hK; (try dsimp only); (exact ⟨⟨far2 hCells.1.1 (by omega), far2 hCells.1.2 (by omega)⟩, ⟨far2 hCells.2.1 (by omega), far2 hCells.2.2 (by omega)⟩⟩)
          clear r0 r1 f0 f1
          have hn1 := (hn1.set hk6 0 (.slice A3 l3 c3) no_int).set (hk6.set 0 (.slice A3 l3 c3)) 1 (.slice A4 l4 c4) (no_int2 (fun i => by simp))
          have hn2 := (hn2.set hk6 0 (.slice A3 l3 c3) no_int).set (hk6.set 0 (.slice A3 l3 c3)) 1 (.slice A4 l4 c4) (no_int2 (fun i => by simp))
          have hn3 := (hn3.set hk6 0 (.slice A3 l3 c3) no_int).set (hk6.set 0 (.slice A3 l3 c3)) 1 (.slice A4 l4 c4) (no_int2 (fun i => by simp))
          have hn4 := (hn4.set hk6 0 (.slice A3 l3 c3) no_int).set (hk6.set 0 (.slice A3 l3 c3)) 1 (.slice A4 l4 c4) (no_int2 (fun i => by simp))
          have hk5 := (hk5.far (p := ⟨b_hk6, 0, none⟩) (by simp <;> omega) (.slice A3 l3 c3)).far (p := ⟨b_hk6, 1, none⟩) (by simp <;> omega) (.slice A4 l4 c4)
          have hk := (hk.set (p := ⟨b_hk6, 0, none⟩) ge_hk6 (.slice A3 l3 c3)).set (p := ⟨b_hk6, 1, none⟩) ge_hk6 (.slice A4 l4 c4)
          have hk6 := (hk6.set 0 (.slice A3 l3 c3)).set 1 (.slice A4 l4 c4)
          clear hK K
          try simp only [Act.put, List.setIfInBounds_toArray, List.set_cons_zero, List.set_cons_succ]
          refine wpAnyJ_done (by kernel_rfl) (NoPan.normal ?_) _
          exact ⟨rfl, _, _, _, _, _, _, _, _, _, _, _, _, _, _, rfl, hk5, hk6, hn1, hn2, hn3, hn4, hk⟩
        ·
          go_simp
          have lt_hk5_hk6 := hk5.lt
          have hk6 := Blk.new W_hk5 #[.slice none 0 0, .slice none 0 0] 95
          have ge_hk6 := hk.2.1
          have hk := hk.alloc (.cells #[.slice none 0 0, .slice none 0 0] 95)
          have hn1 := hn1.alloc (.cells #[.slice none 0 0, .slice none 0 0] 95)
          have hn2 := hn2.alloc (.cells #[.slice none 0 0, .slice none 0 0] 95)
          have hk5 := hk5.alloc (.cells #[.slice none 0 0, .slice none 0 0] 95)
          refine hK.out _ _ (holdJ ?_ (fun hCells => ?_))
          · clear hK; (try dsimp only); exact ⟨⟨pc (below_alloc _ _) hCells.1.1, pc (below_alloc _ _) hCells.1.2⟩, ⟨pc (below_alloc _ _) hCells.2.1, pc (below_alloc _ _) hCells.2.2⟩⟩
          clear hK K
          generalize W_hk5.heap.size = b_hk6 at hk6 ge_hk6 lt_hk5_hk6 ⊢
          generalize W_hk5.alloc (.cells #[.slice none 0 0, .slice none 0 0] 95) = W_hk6 at hk hn1 hn2 hk5 hk6 hCells ⊢
          try simp only [Act.put, List.setIfInBounds_toArray, List.set_cons_zero, List.set_cons_succ]
          refine oneJ 3 (by kernel_rfl) rfl (fun K hK => ?_)
          go_simp
          refine ⟨rfl, ?_⟩
          refine (callsIn_wide.2 (TB.out _)).mono ?_; rintro e w5 ⟨v3, v4, rfl, ⟨A3, l3, c3, rfl, hn3⟩, ⟨A4, l4, c4, rfl, hn4⟩, hb5⟩
          have hk := hk.pass hb5
          have hn1 := hn1.pass hb5
          have hn2 := hn2.pass hb5
          have hk5 := hk5.pass hb5
          have hk6 := hk6.pass hb5
          refine hK.out _ _ (holdJ ?_ (fun hCells => ?_))
          · clear hK; (try dsimp only); exact ⟨⟨pc hb5 hCells.1.1, pc hb5 hCells.1.2⟩, ⟨pc hb5 hCells.2.1, pc hb5 hCells.2.2⟩⟩
          clear hK K hb5
          try simp only [Act.put, List.setIfInBounds_toArray, List.set_cons_zero, List.set_cons_succ]
          refine oneJ 6 (by kernel_rfl) rfl (fun K hK => ?_)
          obtain ⟨⟨r0, r1⟩, f0, f1⟩ := hk5.two
          go_simp
          refine hK.out _ _ (holdJ ?_ (fun hCells => ?_))
          · clear hK; (try dsimp only); (exact ⟨⟨far2 hCells.1.1 (by omega), far2 hCells.1.2 (by omega)⟩, ⟨far2 hCells.2.1 (by omega), far2 hCells.2.2 (by omega)⟩⟩)
          clear r0 r1 f0 f1
          have hn1 := (hn1.set hk5 0 (.slice A1 l1 c1) no_int).set (hk5.set 0 (.slice A1 l1 c1)) 1 (.slice A2 l2 c2) (no_int2 (fun i => by simp))
          have hn2 := (hn2.set hk5 0 (.slice A1 l1 c1) no_int).set (hk5.set 0 (.slice A1 l1 c1)) 1 (.slice A2 l2 c2) (no_int2 (fun i => by simp))
          have hn3 := (hn3.set hk5 0 (.slice A1 l1 c1) no_int).set (hk5.set 0 (.slice A1 l1 c1)) 1 (.slice A2 l2 c2) (no_int2 (fun i => by simp))
          have hn4 := (hn4.set hk5 0 (.slice A1 l1 c1) no_int).set (hk5.set 0 (.slice A1 l1 c1)) 1 (.slice A2 l2 c2) (no_int2 (fun i => by simp))
          have hk6 := (hk6.far (p := ⟨b_hk5, 0, none⟩) (by simp <;> omega) (.slice A1 l1 c1)).far (p := ⟨b_hk5, 1, none⟩) (by simp <;> omega) (.slice A2 l2 c2)
          have hk := (hk.set (p := ⟨b_hk5, 0, none⟩) ge_hk5 (.slice A1 l1 c1)).set (p := ⟨b_hk5, 1, none⟩) ge_hk5 (.slice A2 l2 c2)
          have hk5 := (hk5.set 0 (.slice A1 l1 c1)).set 1 (.slice A2 l2 c2)
          clear hK K
          try simp only [Act.put, List.setIfInBounds_toArray, List.set_cons_zero, List.set_cons_succ]
          refine oneJ 7 (by kernel_rfl) rfl (fun K hK => ?_)
          obtain ⟨⟨r0, r1⟩, f0, f1⟩ := hk6.two
          go_simp
          refine hK.out _ _ (holdJ ?_ (fun hCells => ?_))
          · clear hK; (try dsimp only); (exact ⟨⟨far2 hCells.1.1 (by omega), far2 hCells.1.2 (by omega)⟩, ⟨far2 hCells.2.1 (by omega), far2 hCells.2.2 (by omega)⟩⟩)
          clear r0 r1 f0 f1
          have hn1 := (hn1.set hk6 0 (.slice A3 l3 c3) no_int).set (hk6.set 0 (.slice A3 l3 c3)) 1 (.slice A4 l4 c4) (no_int2 (fun i => by simp))
          have hn2 := (hn2.set hk6 0 (.slice A3 l3 c3) no_int).set (hk6.set 0 (.slice A3 l3 c3)) 1 (.slice A4 l4 c4) (no_int2 (fun i => by simp))
          have hn3 := (hn3.set hk6 0 (.slice A3 l3 c3) no_int).set (hk6.set 0 (.slice A3 l3 c3)) 1 (.slice A4 l4 c4) (no_int2 (fun i => by simp))
          have hn4 := (hn4.set hk6 0 (.slice A3 l3 c3) no_int).set (hk6.set 0 (.slice A3 l3 c3)) 1 (.slice A4 l4 c4) (no_int2 (fun i => by simp))
          have hk5 := (hk5.far (p := ⟨b_hk6, 0, none⟩) (by simp <;> omega) (.slice A3 l3 c3)).far (p := ⟨b_hk6, 1, none⟩) (by simp <;> omega) (.slice A4 l4 c4)
          have hk := (hk.set (p := ⟨b_hk6, 0, none⟩) ge_hk6 (.slice A3 l3 c3)).set (p := ⟨b_hk6, 1, none⟩) ge_hk6 (.slice A4 l4 c4)
          have hk6 := (hk6.set 0 (.slice A3 l3 c3)).set 1 (.slice A4 l4 c4)
          clear hK K
          try simp only [Act.put, List.setIfInBounds_toArray, List.set_cons_zero, List.set_cons_succ]
          refine wpAnyJ_done (by kernel_rfl) (NoPan.normal ?_) _
          exact ⟨rfl, _, _, _, _, _, _, _, _, _, _, _, _, _, _, rfl, hk5, hk6, hn1, hn2, hn3, hn4, hk⟩
      ·
        go_simp
        have hk6 := Blk.new w4 #[.slice none 0 0, .slice none 0 0] 95
        have ge_hk6 := hk.2.1
        have hk := hk.alloc (.cells #[.slice none 0 0, .slice none 0 0] 95)
        have hn1 := hn1.alloc (.cells #[.slice none 0 0, .slice none 0 0] 95)
        have hn2 := hn2.alloc (.cells #[.slice none 0 0, .slice none 0 0] 95)
        refine hK.out _ _ (holdJ ?_ (fun hCells => ?_))
        · clear hK; (try dsimp only); exact ⟨⟨pc (below_alloc _ _) hCells.1.1, pc (below_alloc _ _) hCells.1.2⟩, ⟨pc (below_alloc _ _) hCells.2.1, pc (below_alloc _ _) hCells.2.2⟩⟩
        clear hK K
        generalize w4.heap.size = b_hk6 at hk6 ge_hk6 ⊢
        generalize w4.alloc (.cells #[.slice none 0 0, .slice none 0 0] 95) = W_hk6 at hk hn1 hn2 hk6 hCells ⊢
        try simp only [Act.put, List.setIfInBounds_toArray, List.set_cons_zero, List.set_cons_succ]
        refine wpAnyJ_ready (rs := [3, 4]) (by kernel_rfl) (by simp) (consJ 3 rfl (fun K hK => ?_) (consJ 4 rfl (fun K hK => ?_) AllJ.nil))
        ·
          go_simp
          refine ⟨rfl, ?_⟩
          refine (callsIn_wide.2 (TB.out _)).mono ?_; rintro e w5 ⟨v3, v4, rfl, ⟨A3, l3, c3, rfl, hn3⟩, ⟨A4, l4, c4, rfl, hn4⟩, hb5⟩
          have hk := hk.pass hb5
          have hn1 := hn1.pass hb5
          have hn2 := hn2.pass hb5
          have hk6 := hk6.pass hb5
          refine hK.out _ _ (holdJ ?_ (fun hCells => ?_))
          · clear hK; (try dsimp only); exact ⟨⟨pc hb5 hCells.1.1, pc hb5 hCells.1.2⟩, ⟨pc hb5 hCells.2.1, pc hb5 hCells.2.2⟩⟩
          clear hK K hb5
          try simp only [Act.put, List.setIfInBounds_toArray, List.set_cons_zero, List.set_cons_succ]
          refine oneJ 4 (by kernel_rfl) rfl (fun K hK => ?_)
          go_simp
          have lt_hk6_hk5 := hk6.lt
          have hk5 := Blk.new w5 #[.slice none 0 0, .slice none 0 0] 95
          have ge_hk5 := hk.2.1
          have hk := hk.alloc (.cells #[.slice none 0 0, .slice none 0 0] 95)
          have hn1 := hn1.alloc (.cells #[.slice none 0 0, .slice none 0 0] 95)
          have hn2 := hn2.alloc (.cells #[.slice none 0 0, .slice none 0 0] 95)
          have hk6 := hk6.alloc (.cells #[.slice none 0 0, .slice none 0 0] 95)
          have hn3 := hn3.alloc (.cells #[.slice none 0 0, .slice none 0 0] 95)
          have hn4 := hn4.alloc (.cells #[.slice none 0 0, .slice none 0 0] 95)
          refine hK.out _ _ (holdJ ?_ (fun hCells => ?_))
          · clear hK; (try dsimp only); exact ⟨⟨pc (below_alloc _ _) hCells.1.1, pc (below_alloc _ _) hCells.1.2⟩, ⟨pc (below_alloc _ _) hCells.2.1, pc (below_alloc _ _) hCells.2.2⟩⟩
          clear hK K
          generalize w5.heap.size = b_hk5 at hk5 ge_hk5 lt_hk6_hk5 ⊢
          generalize w5.alloc (.cells #[.slice none 0 0, .slice none 0 0] 95) = W_hk5 at hk hn1 hn2 hk6 hn3 hn4 hk5 hCells ⊢
          try simp only [Act.put, List.setIfInBounds_toArray, List.set_cons_zero, List.set_cons_succ]
          refine oneJ 6 (by kernel_rfl) rfl (fun K hK => ?_)
          obtain ⟨⟨r0, r1⟩, f0, f1⟩ := hk5.two
          go_simp
          refine hK.out _ _ (holdJ ?_ (fun hCells => ?_))
          · clear hK; (try dsimp only); (exact ⟨⟨far2 hCells.1.1 (by omega), far2 hCells.1.2 (by omega)⟩, ⟨far2 hCells.2.1 (by omega), far2 hCells.2.2 (by omega)⟩⟩)
          clear r0 r1 f0 f1
          have hn1 := (hn1.set hk5 0 (.slice A1 l1 c1) no_int).set (hk5.set 0 (.slice A1 l1 c1)) 1 (.slice A2 l2 c2) (no_int2 (fun i => by simp))
          have hn2 := (hn2.set hk5 0 (.slice A1 l1 c1) no_int).set (hk5.set 0 (.slice A1 l1 c1)) 1 (.slice A2 l2 c2) (no_int2 (fun i => by simp))
          have hn3 := (hn3.set hk5 0 (.slice A1 l1 c1) no_int).set (hk5.set 0 (.slice A1 l1 c1)) 1 (.slice A2 l2 c2) (no_int2 (fun i => by simp))
          have hn4 := (hn4.set hk5 0 (.slice A1 l1 c1) no_int).set (hk5.set 0 (.slice A1 l1 c1)) 1 (.slice A2 l2 c2) (no_int2 (fun i => by simp))
          have hk6 := (hk6.far (p := ⟨b_hk5, 0, none⟩) (by simp <;> omega) (.slice A1 l1 c1)).far (p := ⟨b_hk5, 1, none⟩) (by simp <;> omega) (.slice A2 l2 c2)
          have hk := (hk.set (p := ⟨b_hk5, 0, none⟩) ge_hk5 (.slice A1 l1 c1)).set (p := ⟨b_hk5, 1, none⟩) ge_hk5 (.slice A2 l2 c2)
          have hk5 := (hk5.set 0 (.slice A1 l1 c1)).set 1 (.slice A2 l2 c2)
          clear hK K
          try simp only [Act.put, List.setIfInBounds_toArray, List.set_cons_zero, List.set_cons_succ]
          refine oneJ 7 (by kernel_rfl) rfl (fun K hK => ?_)
          obtain ⟨⟨r0, r1⟩, f0, f1⟩ := hk6.two
          go_simp
          refine hK.out _ _ (holdJ ?_ (fun hCells => ?_))
          · clear hK; (try dsimp only); (exact ⟨⟨far2 hCells.1.1 (by omega), far2 hCells.1.2 (by omega)⟩, ⟨far2 hCells.2.1 (by omega), far2 hCells.2.2 (by omega)⟩⟩)
          clear r0 r1 f0 f1
          have hn1 := (hn1.set hk6 0 (.slice A3 l3 c3) no_int).set (hk6.set 0 (.slice A3 l3 c3)) 1 (.slice A4 l4 c4) (no_int2 (fun i => by simp))
          have hn2 := (hn2.set hk6 0 (.slice A3 l3 c3) no_int).set (hk6.set 0 (.slice A3 l3 c3)) 1 (.slice A4 l4 c4) (no_int2 (fun i => by simp))
          have hn3 := (hn3.set hk6 0 (.slice A3 l3 c3) no_int).set (hk6.set 0 (.slice A3 l3 c3)) 1 (.slice A4 l4 c4) (no_int2 (fun i => by simp))
          have hn4 := (hn4.set hk6 0 (.slice A3 l3 c3) no_int).set (hk6.set 0 (.slice A3 l3 c3)) 1 (.slice A4 l4 c4) (no_int2 (fun i => by simp))
          have hk5 := (hk5.far (p := ⟨b_hk6, 0, none⟩) (by simp <;> omega) (.slice A3 l3 c3)).far (p := ⟨b_hk6, 1, none⟩) (by simp <;> omega) (.slice A4 l4 c4)
          have hk := (hk.set (p := ⟨b_hk6, 0, none⟩) ge_hk6 (.slice A3 l3 c3)).set (p := ⟨b_hk6, 1, none⟩) ge_hk6 (.slice A4 l4 c4)
          have hk6 := (hk6.set 0 (.slice A3 l3 c3)).set 1 (.slice A4 l4 c4)
          clear hK K
          try simp only [Act.put, List.setIfInBounds_toArray, List.set_cons_zero, List.set_cons_succ]
          refine wpAnyJ_done (by kernel_rfl) (NoPan.normal ?_) _
          exact ⟨rfl, _, _, _, _, _, _, _, _, _, _, _, _, _, _, rfl, hk5, hk6, hn1, hn2, hn3, hn4, hk⟩
        ·
          go_simp
          have lt_hk6_hk5 := hk6.lt
          have hk5 := Blk.new W_hk6 #[.slice none 0 0, .slice none 0 0] 95
          have ge_hk5 := hk.2.1
          have hk := hk.alloc (.cells #[.slice none 0 0, .slice none 0 0] 95)
          have hn1 := hn1.alloc (.cells #[.slice none 0 0, .slice none 0 0] 95)
          have hn2 := hn2.alloc (.cells #[.slice none 0 0, .slice none 0 0] 95)
          have hk6 := hk6.alloc (.cells #[.slice none 0 0, .slice none 0 0] 95)
          refine hK.out _ _ (holdJ ?_ (fun hCells => ?_))
          · clear hK; (try dsimp only); exact ⟨⟨pc (below_alloc _ _) hCells.1.1, pc (below_alloc _ _) hCells.1.2⟩, ⟨pc (below_alloc _ _) hCells.2.1, pc (below_alloc _ _) hCells.2.2⟩⟩
          clear hK K
          generalize W_hk6.heap.size = b_hk5 at hk5 ge_hk5 lt_hk6_hk5 ⊢
          generalize W_hk6.alloc (.cells #[.slice none 0 0, .slice none 0 0] 95) = W_hk5 at hk hn1 hn2 hk6 hk5 hCells ⊢
          try simp only [Act.put, List.setIfInBounds_toArray, List.set_cons_zero, List.set_cons_succ]
          refine oneJ 3 (by kernel_rfl) rfl (fun K hK => ?_)
          go_simp
          refine ⟨rfl, ?_⟩
          refine (callsIn_wide.2 (TB.out _)).mono ?_; rintro e w5 ⟨v3, v4, rfl, ⟨A3, l3, c3, rfl, hn3⟩, ⟨A4, l4, c4, rfl, hn4⟩, hb5⟩
          have hk := hk.pass hb5
          have hn1 := hn1.pass hb5
          have hn2 := hn2.pass hb5
          have hk6 := hk6.pass hb5
          have hk5 := hk5.pass hb5
          refine hK.out _ _ (holdJ ?_ (fun hCells => ?_))
          · clear hK; (try dsimp only); exact ⟨⟨pc hb5 hCells.1.1, pc hb5 hCells.1.2⟩, ⟨pc hb5 hCells.2.1, pc hb5 hCells.2.2⟩⟩
          clear hK K hb5
          try simp only [Act.put, List.setIfInBounds_toArray, List.set_cons_zero, List.set_cons_succ]
          refine oneJ 6 (by kernel_rfl) rfl (fun K hK => ?_)
          obtain ⟨⟨r0, r1⟩, f0, f1⟩ := hk5.two
          go_simp
          refine hK.out _ _ (holdJ ?_ (fun hCells => ?_))
          · clear hK; (try dsimp only); (exact ⟨⟨far2 hCells.1.1 (by omega), far2 hCells.1.2 (by omega)⟩, ⟨far2 hCells.2.1 (by omega), far2 hCells.2.2 (by omega)⟩⟩)
          clear r0 r1 f0 f1
          have hn1 := (hn1.set hk5 0 (.slice A1 l1 c1) no_int).set (hk5.set 0 (.slice A1 l1 c1)) 1 (.slice A2 l2 c2) (no_int2 (fun i => by simp))
          have hn2 := (hn2.set hk5 0 (.slice A1 l1 c1) no_int).set (hk5.set 0 (.slice A1 l1 c1)) 1 (.slice A2 l2 c2) (no_int2 (fun i => by simp))
          have hn3 := (hn3.set hk5 0 (.slice A1 l1 c1) no_int).set (hk5.set 0 (.slice A1 l1 c1)) 1 (.slice A2 l2 c2) (no_int2 (fun i => by simp))
          have hn4 := (hn4.set hk5 0 (.slice A1 l1 c1) no_int).set (hk5.set 0 (.slice A1 l1 c1)) 1 (.slice A2 l2 c2) (no_int2 (fun i => by simp))
          have hk6 := (hk6.far (p := ⟨b_hk5, 0, none⟩) (by simp <;> omega) (.slice A1 l1 c1)).far (p := ⟨b_hk5, 1, none⟩) (by simp <;> omega) (.slice A2 l2 c2)
          have hk := (hk.set (p := ⟨b_hk5, 0, none⟩) ge_hk5 (.slice A1 l1 c1)).set (p := ⟨b_hk5, 1, none⟩) ge_hk5 (.slice A2 l2 c2)
          have hk5 := (hk5.set 0 (.slice A1 l1 c1)).set 1 (.slice A2 l2 c2)
          clear hK K
          try simp only [Act.put, List.setIfInBounds_toArray, List.set_cons_zero, List.set_cons_succ]
          refine oneJ 7 (by kernel_rfl) rfl (fun K hK => ?_)
          obtain ⟨⟨r0, r1⟩, f0, f1⟩ := hk6.two
          go_simp
          refine hK.out _ _ (holdJ ?_ (fun hCells => ?_))
          · clear hK; (try dsimp only); (exact ⟨⟨far2 hCells.1.1 (by omega), far2 hCells.1.2 (by omega)⟩, ⟨far2 hCells.2.1 (by omega), far2 hCells.2.2 (by omega)⟩⟩)
          clear r0 r1 f0 f1
          have hn1 := (hn1.set hk6 0 (.slice A3 l3 c3) no_int).set (hk6.set 0 (.slice A3 l3 c3)) 1 (.slice A4 l4 c4) (no_int2 (fun i => by simp))
          have hn2 := (hn2.set hk6 0 (.slice A3 l3 c3) no_int).set (hk6.set 0 (.slice A3 l3 c3)) 1 (.slice A4 l4 c4) (no_int2 (fun i => by simp))
          have hn3 := (hn3.set hk6 0 (.slice A3 l3 c3) no_int).set (hk6.set 0 (.slice A3 l3 c3)) 1 (.slice A4 l4 c4) (no_int2 (fun i => by simp))
          have hn4 := (hn4.set hk6 0 (.slice A3 l3 c3) no_int).set (hk6.set 0 (.slice A3 l3 c3)) 1 (.slice A4 l4 c4) (no_int2 (fun i => by simp))
          have hk5 := (hk5.far (p := ⟨b_hk6, 0, none⟩) (by simp <;> omega) (.slice A3 l3 c3)).far (p := ⟨b_hk6, 1, none⟩) (by simp <;> omega) (.slice A4 l4 c4)
          have hk := (hk.set (p := ⟨b_hk6, 0, none⟩) ge_hk6 (.slice A3 l3 c3)).set (p := ⟨b_hk6, 1, none⟩) ge_hk6 (.slice A4 l4 c4)
          have hk6 := (hk6.set 0 (.slice A3 l3 c3)).set 1 (.slice A4 l4 c4)
          clear hK K
          try simp only [Act.put, List.setIfInBounds_toArray, List.set_cons_zero, List.set_cons_succ]
          refine wpAnyJ_done (by kernel_rfl) (NoPan.normal ?_) _
          exact ⟨rfl, _, _, _, _, _, _, _, _, _, _, _, _, _, _, rfl, hk5, hk6, hn1, hn2, hn3, hn4, hk⟩
    ·
      go_simp
      have hk5 := Blk.new W0 #[.slice none 0 0, .slice none 0 0] 95
      have ge_hk5 := hk.2.1
      have hk := hk.alloc (.cells #[.slice none 0 0, .slice none 0 0] 95)
      refine hK.out _ _ (holdJ ?_ (fun hCells => ?_))
      · clear hK; (try dsimp only); exact ⟨⟨pc (below_alloc _ _) hCells.1.1, pc (below_alloc _ _) hCells.1.2⟩, ⟨pc (below_alloc _ _) hCells.2.1, pc (below_alloc _ _) hCells.2.2⟩⟩
      clear hK K
      generalize W0.heap.size = b_hk5 at hk5 ge_hk5 ⊢
      generalize W0.alloc (.cells #[.slice none 0 0, .slice none 0 0] 95) = W_hk5 at hk hk5 hCells ⊢
      try simp only [Act.put, List.setIfInBounds_toArray, List.set_cons_zero, List.set_cons_succ]
      refine wpAnyJ_ready (rs := [1, 5]) (by kernel_rfl) (by simp) (consJ 1 rfl (fun K hK => ?_) (consJ 5 rfl (fun K hK => ?_) AllJ.nil))
      ·
        go_simp
        refine ⟨rfl, ?_⟩
        refine (callsIn_wide.2 (TA.out _)).mono ?_; rintro e w4 ⟨v1, v2, rfl, ⟨A1, l1, c1, rfl, hn1⟩, ⟨A2, l2, c2, rfl, hn2⟩, hb4⟩
        have hk := hk.pass hb4
        have hk5 := hk5.pass hb4
        refine hK.out _ _ (holdJ ?_ (fun hCells => ?_))
        · clear hK; (try dsimp only); exact ⟨⟨pc hb4 hCells.1.1, pc hb4 hCells.1.2⟩, ⟨pc hb4 hCells.2.1, pc hb4 hCells.2.2⟩⟩
        clear hK K hb4
        try simp only [Act.put, List.setIfInBounds_toArray, List.set_cons_zero, List.set_cons_succ]
        refine wpAnyJ_ready (rs := [3, 5]) (by kernel_rfl) (by simp) (consJ 3 rfl (fun K hK => ?_) (consJ 5 rfl (fun K hK => ?_) AllJ.nil))
        ·
          go_simp
          refine ⟨rfl, ?_⟩
          refine (callsIn_wide.2 (TB.out _)).mono ?_; rintro e w5 ⟨v3, v4, rfl, ⟨A3, l3, c3, rfl, hn3⟩, ⟨A4, l4, c4, rfl, hn4⟩, hb5⟩
          have hk := hk.pass hb5
          have hk5 := hk5.pass hb5
          have hn1 := hn1.pass hb5
          have hn2 := hn2.pass hb5
          refine hK.out _ _ (holdJ ?_ (fun hCells => ?_))
          · clear hK; (try dsimp only); exact ⟨⟨pc hb5 hCells.1.1, pc hb5 hCells.1.2⟩, ⟨pc hb5 hCells.2.1, pc hb5 hCells.2.2⟩⟩
          clear hK K hb5
          try simp only [Act.put, List.setIfInBounds_toArray, List.set_cons_zero, List.set_cons_succ]
          refine oneJ 5 (by kernel_rfl) rfl (fun K hK => ?_)
          go_simp
          have lt_hk5_hk6 := hk5.lt
          have hk6 := Blk.new w5 #[.slice none 0 0, .slice none 0 0] 95
          have ge_hk6 := hk.2.1
          have hk := hk.alloc (.cells #[.slice none 0 0, .slice none 0 0] 95)
          have hk5 := hk5.alloc (.cells #[.slice none 0 0, .slice none 0 0] 95)
          have hn1 := hn1.alloc (.cells #[.slice none 0 0, .slice none 0 0] 95)
          have hn2 := hn2.alloc (.cells #[.slice none 0 0, .slice none 0 0] 95)
          have hn3 := hn3.alloc (.cells #[.slice none 0 0, .slice none 0 0] 95)
          have hn4 := hn4.alloc (.cells #[.slice none 0 0, .slice none 0 0] 95)
          refine hK.out _ _ (holdJ ?_ (fun hCells => ?_))
          · clear hK; (try dsimp only); exact ⟨⟨pc (below_alloc _ _) hCells.1.1, pc (below_alloc _ _) hCells.1.2⟩, ⟨pc (below_alloc _ _) hCells.2.1, pc (below_alloc _ _) hCells.2.2⟩⟩
          clear hK K
          generalize w5.heap.size = b_hk6 at hk6 ge_hk6 lt_hk5_hk6 ⊢
          generalize w5.alloc (.cells #[.slice none 0 0, .slice none 0 0] 95) = W_hk6 at hk hk5 hn1 hn2 hn3 hn4 hk6 hCells ⊢
          try simp only [Act.put, List.setIfInBounds_toArray, List.set_cons_zero, List.set_cons_succ]
          refine oneJ 6 (by kernel_rfl) rfl (fun K hK => ?_)
          obtain ⟨⟨r0, r1⟩, f0, f1⟩ := hk5.two
          go_simp
          refine hK.out _ _ (holdJ ?_ (fun hCells => ?_))
          · clear hK; (try dsimp only); (exact ⟨⟨far2 hCells.1.1 (by omega), far2 hCells.1.2 (by omega)⟩, ⟨far2 hCells.2.1 (by omega), far2 hCells.2.2 (by omega)⟩⟩)
          clear r0 r1 f0 f1
          have hn1 := (hn1.set hk5 0 (.slice A1 l1 c1) no_int).set (hk5.set 0 (.slice A1 l1 c1)) 1 (.slice A2 l2 c2) (no_int2 (fun i => by simp))
          have hn2 := (hn2.set hk5 0 (.slice A1 l1 c1) no_int).set (hk5.set 0 (.slice A1 l1 c1)) 1 (.slice A2 l2 c2) (no_int2 (fun i => by simp))
          have hn3 := (hn3.set hk5 0 (.slice A1 l1 c1) no_int).set (hk5.set 0 (.slice A1 l1 c1)) 1 (.slice A2 l2 c2) (no_int2 (fun i => by simp))
          have hn4 := (hn4.set hk5 0 (.slice A1 l1 c1) no_int).set (hk5.set 0 (.slice A1 l1 c1)) 1 (.slice A2 l2 c2) (no_int2 (fun i => by simp))
          have hk6 := (hk6.far (p := ⟨b_hk5, 0, none⟩) (by simp <;> omega) (.slice A1 l1 c1)).far (p := ⟨b_hk5, 1, none⟩) (by simp <;> omega) (.slice A2 l2 c2)
          have hk := (hk.set (p := ⟨b_hk5, 0, none⟩) ge_hk5 (.slice A1 l1 c1)).set (p := ⟨b_hk5, 1, none⟩) ge_hk5 (.slice A2 l2 c2)
          have hk5 := (hk5.set 0 (.slice A1 l1 c1)).set 1 (.slice A2 l2 c2)
          clear hK K
          try simp only [Act.put, List.setIfInBounds_toArray, List.set_cons_zero, List.set_cons_succ]
          refine oneJ 7 (by kernel_rfl) rfl (fun K hK => ?_)
          obtain ⟨⟨r0, r1⟩, f0, f1⟩ := hk6.two
          go_simp
          refine hK.out _ _ (holdJ ?_ (fun hCells => ?_))
          · clear hK; (try dsimp only); (exact ⟨⟨far2 hCells.1.1 (by omega), far2 hCells.1.2 (by omega)⟩, ⟨far2 hCells.2.1 (by omega), far2 hCells.2.2 (by omega)⟩⟩)
          clear r0 r1 f0 f1
          have hn1 := (hn1.set hk6 0 (.slice A3 l3 c3) no_int).set (hk6.set 0 (.slice A3 l3 c3)) 1 (.slice A4 l4 c4) (no_int2 (fun i => by simp))
          have hn2 := (hn2.set hk6 0 (.slice A3 l3 c3) no_int).set (hk6.set 0 (.slice A3 l3 c3)) 1 (.slice A4 l4 c4) (no_int2 (fun i => by simp))
          have hn3 := (hn3.set hk6 0 (.slice A3 l3 c3) no_int).set (hk6.set 0 (.slice A3 l3 c3)) 1 (.slice A4 l4 c4) (no_int2 (fun i => by simp))
          have hn4 := (hn4.set hk6 0 (.slice A3 l3 c3) no_int).set (hk6.set 0 (.slice A3 l3 c3)) 1 (.slice A4 l4 c4) (no_int2 (fun i => by simp))
          have hk5 := (hk5.far (p := ⟨b_hk6, 0, none⟩) (by simp <;> omega) (.slice A3 l3 c3)).far (p := ⟨b_hk6, 1, none⟩) (by simp <;> omega) (.slice A4 l4 c4)
          have hk := (hk.set (p := ⟨b_hk6, 0, none⟩) ge_hk6 (.slice A3 l3 c3)).set (p := ⟨b_hk6, 1, none⟩) ge_hk6 (.slice A4 l4 c4)
          have hk6 := (hk6.set 0 (.slice A3 l3 c3)).set 1 (.slice A4 l4 c4)
          clear hK K
          try simp only [Act.put, List.setIfInBounds_toArray, List.set_cons_zero, List.set_cons_succ]
          refine wpAnyJ_done (by kernel_rfl) (NoPan.normal ?_) _
          exact ⟨rfl, _, _, _, _, _, _, _, _, _, _, _, _, _, _, rfl, hk5, hk6, hn1, hn2, hn3, hn4, hk⟩
        ·
          go_simp
          have lt_hk5_hk6 := hk5.lt
          have hk6 := Blk.new w4 #[.slice none 0 0, .slice none 0 0] 95
          have ge_hk6 := hk.2.1
          have hk := hk.alloc (.cells #[.slice none 0 0, .slice none 0 0] 95)
          have hk5 := hk5.alloc (.cells #[.slice none 0 0, .slice none 0 0] 95)
          have hn1 := hn1.alloc (.cells #[.slice none 0 0, .slice none 0 0] 95)
          have hn2 := hn2.alloc (.cells #[.slice none 0 0, .slice none 0 0] 95)
          refine hK.out _ _ (holdJ ?_ (fun hCells => ?_))
          · clear hK; (try dsimp only); exact ⟨⟨pc (below_alloc _ _) hCells.1.1, pc (below_alloc _ _) hCells.1.2⟩, ⟨pc (below_alloc _ _) hCells.2.1, pc (below_alloc _ _) hCells.2.2⟩⟩
          clear hK K
          generalize w4.heap.size = b_hk6 at hk6 ge_hk6 lt_hk5_hk6 ⊢
          generalize w4.alloc (.cells #[.slice none 0 0, .slice none 0 0] 95) = W_hk6 at hk hk5 hn1 hn2 hk6 hCells ⊢
          try simp only [Act.put, List.setIfInBounds_toArray, List.set_cons_zero, List.set_cons_succ]
          refine oneJ 3 (by kernel_rfl) rfl (fun K hK => ?_)
          go_simp
          refine ⟨rfl, ?_⟩
          refine (callsIn_wide.2 (TB.out _)).mono ?_; rintro e w5 ⟨v3, v4, rfl, ⟨A3, l3, c3, rfl, hn3⟩, ⟨A4, l4, c4, rfl, hn4⟩, hb5⟩
          have hk := hk.pass hb5
          have hk5 := hk5.pass hb5
          have hn1 := hn1.pass hb5
          have hn2 := hn2.pass hb5
          have hk6 := hk6.pass hb5
          refine hK.out _ _ (holdJ ?_ (fun hCells => ?_))
          · clear hK; (try dsimp only); exact ⟨⟨pc hb5 hCells.1.1, pc hb5 hCells.1.2⟩, ⟨pc hb5 hCells.2.1, pc hb5 hCells.2.2⟩⟩
          clear hK K hb5
          try simp only [Act.put, List.setIfInBounds_toArray, List.set_cons_zero, List.set_cons_succ]
          refine oneJ 6 (by kernel_rfl) rfl (fun K hK => ?_)
          obtain ⟨⟨r0, r1⟩, f0, f1⟩ := hk5.two
          go_simp
          refine hK.out _ _ (holdJ ?_ (fun hCells => ?_))
          · clear hK; (try dsimp only); (exact ⟨⟨far2 hCells.1.1 (by omega), far2 hCells.1.2 (by omega)⟩, ⟨far2 hCells.2.1 (by omega), far2 hCells.2.2 (by omega)⟩⟩)
          clear r0 r1 f0 f1
          have hn1 := (hn1.set hk5 0 (.slice A1 l1 c1) no_int).set (hk5.set 0 (.slice A1 l1 c1)) 1 (.slice A2 l2 c2) (no_int2 (fun i => by simp))
          have hn2 := (hn2.set hk5 0 (.slice A1 l1 c1) no_int).set (hk5.set 0 (.slice A1 l1 c1)) 1 (.slice A2 l2 c2) (no_int2 (fun i => by simp))
          have hn3 := (hn3.set hk5 0 (.slice A1 l1 c1) no_int).set (hk5.set 0 (.slice A1 l1 c1)) 1 (.slice A2 l2 c2) (no_int2 (fun i => by simp))
          have hn4 := (hn4.set hk5 0 (.slice A1 l1 c1) no_int).set (hk5.set 0 (.slice A1 l1 c1)) 1 (.slice A2 l2 c2) (no_int2 (fun i => by simp))
          have hk6 := (hk6.far (p := ⟨b_hk5, 0, none⟩) (by simp <;> omega) (.slice A1 l1 c1)).far (p := ⟨b_hk5, 1, none⟩) (by simp <;> omega) (.slice A2 l2 c2)
          have hk := (hk.set (p := ⟨b_hk5, 0, none⟩) ge_hk5 (.slice A1 l1 c1)).set (p := ⟨b_hk5, 1, none⟩) ge_hk5 (.slice A2 l2 c2)
          have hk5 := (hk5.set 0 (.slice A1 l1 c1)).set 1 (.slice A2 l2 c2)
          clear hK K
          try simp only [Act.put, List.setIfInBounds_toArray, List.set_cons_zero, List.set_cons_succ]
          refine oneJ 7 (by kernel_rfl) rfl (fun K hK => ?_)
          obtain ⟨⟨r0, r1⟩, f0, f1⟩ := hk6.two
          go_simp
          refine hK.out _ _ (holdJ ?_ (fun hCells => ?_))
          · clear hK; (try dsimp only); (exact ⟨⟨far2 hCells.1.1 (by omega), far2 hCells.1.2 (by omega)⟩, ⟨far2 hCells.2.1 (by omega), far2 hCells.2.2 (by omega)⟩⟩)
          clear r0 r1 f0 f1
          have hn1 := (hn1.set hk6 0 (.slice A3 l3 c3) no_int).set (hk6.set 0 (.slice A3 l3 c3)) 1 (.slice A4 l4 c4) (no_int2 (fun i => by simp))
          have hn2 := (hn2.set hk6 0 (.slice A3 l3 c3) no_int).set (hk6.set 0 (.slice A3 l3 c3)) 1 (.slice A4 l4 c4) (no_int2 (fun i => by simp))
          have hn3 := (hn3.set hk6 0 (.slice A3 l3 c3) no_int).set (hk6.set 0 (.slice A3 l3 c3)) 1 (.slice A4 l4 c4) (no_int2 (fun i => by simp))
          have hn4 := (hn4.set hk6 0 (.slice A3 l3 c3) no_int).set (hk6.set 0 (.slice A3 l3 c3)) 1 (.slice A4 l4 c4) (no_int2 (fun i => by simp))
          have hk5 := (hk5.far (p := ⟨b_hk6, 0, none⟩) (by simp <;> omega) (.slice A3 l3 c3)).far (p := ⟨b_hk6, 1, none⟩) (by simp <;> omega) (.slice A4 l4 c4)
          have hk := (hk.set (p := ⟨b_hk6, 0, none⟩) ge_hk6 (.slice A3 l3 c3)).set (p := ⟨b_hk6, 1, none⟩) ge_hk6 (.slice A4 l4 c4)
          have hk6 := (hk6.set 0 (.slice A3 l3 c3)).set 1 (.slice A4 l4 c4)
          clear hK K
          try simp only [Act.put, List.setIfInBounds_toArray, List.set_cons_zero, List.set_cons_succ]
          refine wpAnyJ_done (by kernel_rfl) (NoPan.normal ?_) _
          exact ⟨rfl, _, _, _, _, _, _, _, _, _, _, _, _, _, _, rfl, hk5, hk6, hn1, hn2, hn3, hn4, hk⟩
      ·
        go_simp
        have lt_hk5_hk6 := hk5.lt
        have hk6 := Blk.new W_hk5 #[.slice none 0 0, .slice none 0 0] 95
        have ge_hk6 := hk.2.1
        have hk := hk.alloc (.cells #[.slice none 0 0, .slice none 0 0] 95)
        have hk5 := hk5.alloc (.cells #[.slice none 0 0, .slice none 0 0] 95)
        refine hK.out _ _ (holdJ ?_ (fun hCells => ?_))
        · clear hK; (try dsimp only); exact ⟨⟨pc (below_alloc _ _) hCells.1.1, pc (below_alloc _ _) hCells.1.2⟩, ⟨pc (below_alloc _ _) hCells.2.1, pc (below_alloc _ _) hCells.2.2⟩⟩
        clear hK K
        generalize W_hk5.heap.size = b_hk6 at hk6 ge_hk6 lt_hk5_hk6 ⊢
        generalize W_hk5.alloc (.cells #[.slice none 0 0, .slice none 0 0] 95) = W_hk6 at hk hk5 hk6 hCells ⊢
        try simp only [Act.put, List.setIfInBounds_toArray, List.set_cons_zero, List.set_cons_succ]
        refine oneJ 1 (by kernel_rfl) rfl (fun K hK => ?_)
        go_simp
        refine ⟨rfl, ?_⟩
        refine (callsIn_wide.2 (TA.out _)).mono ?_; rintro e w4 ⟨v1, v2, rfl, ⟨A1, l1, c1, rfl, hn1⟩, ⟨A2, l2, c2, rfl, hn2⟩, hb4⟩
        have hk := hk.pass hb4
        have hk5 := hk5.pass hb4
        have hk6 := hk6.pass hb4
        refine hK.out _ _ (holdJ ?_ (fun hCells => ?_))
        · clear hK; (try dsimp only); exact ⟨⟨pc hb4 hCells.1.1, pc hb4 hCells.1.2⟩, ⟨pc hb4 hCells.2.1, pc hb4 hCells.2.2⟩⟩
        clear hK K hb4
        try simp only [Act.put, List.setIfInBounds_toArray, List.set_cons_zero, List.set_cons_succ]
        refine oneJ 3 (by kernel_rfl) rfl (fun K hK => ?_)
        go_simp
        refine ⟨rfl, ?_⟩
        refine (callsIn_wide.2 (TB.out _)).mono ?_; rintro e w5 ⟨v3, v4, rfl, ⟨A3, l3, c3, rfl, hn3⟩, ⟨A4, l4, c4, rfl, hn4⟩, hb5⟩
        have hk := hk.pass hb5
        have hk5 := hk5.pass hb5
        have hk6 := hk6.pass hb5
        have hn1 := hn1.pass hb5
        have hn2 := hn2.pass hb5
        refine hK.out _ _ (holdJ ?_ (fun hCells => ?_))
        · clear hK; (try dsimp only); exact ⟨⟨pc hb5 hCells.1.1, pc hb5 hCells.1.2⟩, ⟨pc hb5 hCells.2.1, pc hb5 hCells.2.2⟩⟩
        clear hK K hb5
        try simp only [Act.put, List.setIfInBounds_toArray, List.set_cons_zero, List.set_cons_succ]
        refine oneJ 6 (by kernel_rfl) rfl (fun K hK => ?_)
        obtain ⟨⟨r0, r1⟩, f0, f1⟩ := hk5.two
        go_simp
        refine hK.out _ _ (holdJ ?_ (fun hCells => ?_))
        · clear hK; (try dsimp only); (exact ⟨⟨far2 hCells.1.1 (by omega), far2 hCells.1.2 (by omega)⟩, ⟨far2 hCells.2.1 (by omega), far2 hCells.2.2 (by omega)⟩⟩)
        clear r0 r1 f0 f1
        have hn1 := (hn1.set hk5 0 (.slice A1 l1 c1) no_int).set (hk5.set 0 (.slice A1 l1 c1)) 1 (.slice A2 l2 c2) (no_int2 (fun i => by simp))
        have hn2 := (hn2.set hk5 0 (.slice A1 l1 c1) no_int).set (hk5.set 0 (.slice A1 l1 c1)) 1 (.slice A2 l2 c2) (no_int2 (fun i => by simp))
        have hn3 := (hn3.set hk5 0 (.slice A1 l1 c1) no_int).set (hk5.set 0 (.slice A1 l1 c1)) 1 (.slice A2 l2 c2) (no_int2 (fun i => by simp))
        have hn4 := (hn4.set hk5 0 (.slice A1 l1 c1) no_int).set (hk5.set 0 (.slice A1 l1 c1)) 1 (.slice A2 l2 c2) (no_int2 (fun i => by simp))
        have hk6 := (hk6.far (p := ⟨b_hk5, 0, none⟩) (by simp <;> omega) (.slice A1 l1 c1)).far (p := ⟨b_hk5, 1, none⟩) (by simp <;> omega) (.slice A2 l2 c2)
        have hk := (hk.set (p := ⟨b_hk5, 0, none⟩) ge_hk5 (.slice A1 l1 c1)).set (p := ⟨b_hk5, 1, none⟩) ge_hk5 (.slice A2 l2 c2)
        have hk5 := (hk5.set 0 (.slice A1 l1 c1)).set 1 (.slice A2 l2 c2)
        clear hK K
        try simp only [Act.put, List.setIfInBounds_toArray, List.set_cons_zero, List.set_cons_succ]
        refine oneJ 7 (by kernel_rfl) rfl (fun K hK => ?_)
        obtain ⟨⟨r0, r1⟩, f0, f1⟩ := hk6.two
        go_simp
        refine hK.out _ _ (holdJ ?_ (fun hCells => ?_))
        · clear hK; (try dsimp only); (exact ⟨⟨far2 hCells.1.1 (by omega), far2 hCells.1.2 (by omega)⟩, ⟨far2 hCells.2.1 (by omega), far2 hCells.2.2 (by omega)⟩⟩)
        clear r0 r1 f0 f1
        have hn1 := (hn1.set hk6 0 (.slice A3 l3 c3) no_int).set (hk6.set 0 (.slice A3 l3 c3)) 1 (.slice A4 l4 c4) (no_int2 (fun i => by simp))
        have hn2 := (hn2.set hk6 0 (.slice A3 l3 c3) no_int).set (hk6.set 0 (.slice A3 l3 c3)) 1 (.slice A4 l4 c4) (no_int2 (fun i => by simp))
        have hn3 := (hn3.set hk6 0 (.slice A3 l3 c3) no_int).set (hk6.set 0 (.slice A3 l3 c3)) 1 (.slice A4 l4 c4) (no_int2 (fun i => by simp))
        have hn4 := (hn4.set hk6 0 (.slice A3 l3 c3) no_int).set (hk6.set 0 (.slice A3 l3 c3)) 1 (.slice A4 l4 c4) (no_int2 (fun i => by simp))
        have hk5 := (hk5.far (p := ⟨b_hk6, 0, none⟩) (by simp <;> omega) (.slice A3 l3 c3)).far (p := ⟨b_hk6, 1, none⟩) (by simp <;> omega) (.slice A4 l4 c4)
        have hk := (hk.set (p := ⟨b_hk6, 0, none⟩) ge_hk6 (.slice A3 l3 c3)).set (p := ⟨b_hk6, 1, none⟩) ge_hk6 (.slice A4 l4 c4)
        have hk6 := (hk6.set 0 (.slice A3 l3 c3)).set 1 (.slice A4 l4 c4)
        clear hK K
        try simp only [Act.put, List.setIfInBounds_toArray, List.set_cons_zero, List.set_cons_succ]
        refine wpAnyJ_done (by kernel_rfl) (NoPan.normal ?_) _
        exact ⟨rfl, _, _, _, _, _, _, _, _, _, _, _, _, _, _, rfl, hk5, hk6, hn1, hn2, hn3, hn4, hk⟩
    ·
      go_simp
      have hk6 := Blk.new W0 #[.slice none 0 0, .slice none 0 0] 95
      have ge_hk6 := hk.2.1
      have hk := hk.alloc (.cells #[.slice none 0 0, .slice none 0 0] 95)
      refine hK.out _ _ (holdJ ?_ (fun hCells => ?_))
      · clear hK; (try dsimp only); exact ⟨⟨pc (below_alloc _ _) hCells.1.1, pc (below_alloc _ _) hCells.1.2⟩, ⟨pc (below_alloc _ _) hCells.2.1, pc (below_alloc _ _) hCells.2.2⟩⟩
      clear hK K
      generalize W0.heap.size = b_hk6 at hk6 ge_hk6 ⊢
      generalize W0.alloc (.cells #[.slice none 0 0, .slice none 0 0] 95) = W_hk6 at hk hk6 hCells ⊢
      try simp only [Act.put, List.setIfInBounds_toArray, List.set_cons_zero, List.set_cons_succ]
      refine wpAnyJ_ready (rs := [1, 4]) (by kernel_rfl) (by simp) (consJ 1 rfl (fun K hK => ?_) (consJ 4 rfl (fun K hK => ?_) AllJ.nil))
      ·
        go_simp
        refine ⟨rfl, ?_⟩
        refine (callsIn_wide.2 (TA.out _)).mono ?_; rintro e w4 ⟨v1, v2, rfl, ⟨A1, l1, c1, rfl, hn1⟩, ⟨A2, l2, c2, rfl, hn2⟩, hb4⟩
        have hk := hk.pass hb4
        have hk6 := hk6.pass hb4
        refine hK.out _ _ (holdJ ?_ (fun hCells => ?_))
        · clear hK; (try dsimp only); exact ⟨⟨pc hb4 hCells.1.1, pc hb4 hCells.1.2⟩, ⟨pc hb4 hCells.2.1, pc hb4 hCells.2.2⟩⟩
        clear hK K hb4
        try simp only [Act.put, List.setIfInBounds_toArray, List.set_cons_zero, List.set_cons_succ]
        refine wpAnyJ_ready (rs := [3, 4]) (by kernel_rfl) (by simp) (consJ 3 rfl (fun K hK => ?_) (consJ 4 rfl (fun K hK => ?_) AllJ.nil))
        ·
          go_simp
          refine ⟨rfl, ?_⟩
          refine (callsIn_wide.2 (TB.out _)).mono ?_; rintro e w5 ⟨v3, v4, rfl, ⟨A3, l3, c3, rfl, hn3⟩, ⟨A4, l4, c4, rfl, hn4⟩, hb5⟩
          have hk := hk.pass hb5
          have hk6 := hk6.pass hb5
          have hn1 := hn1.pass hb5
          have hn2 := hn2.pass hb5
          refine hK.out _ _ (holdJ ?_ (fun hCells => ?_))
          · clear hK; (try dsimp only); exact ⟨⟨pc hb5 hCells.1.1, pc hb5 hCells.1.2⟩, ⟨pc hb5 hCells.2.1, pc hb5 hCells.2.2⟩⟩
          clear hK K hb5
          try simp only [Act.put, List.setIfInBounds_toArray, List.set_cons_zero, List.set_cons_succ]
          refine oneJ 4 (by kernel_rfl) rfl (fun K hK => ?_)
          go_simp
          have lt_hk6_hk5 := hk6.lt
          have hk5 := Blk.new w5 #[.slice none 0 0, .slice none 0 0] 95
          have ge_hk5 := hk.2.1
          have hk := hk.alloc (.cells #[.slice none 0 0, .slice none 0 0] 95)
          have hk6 := hk6.alloc (.cells #[.slice none 0 0, .slice none 0 0] 95)
          have hn1 := hn1.alloc (.cells #[.slice none 0 0, .slice none 0 0] 95)
          have hn2 := hn2.alloc (.cells #[.slice none 0 0, .slice none 0 0] 95)
          have hn3 := hn3.alloc (.cells #[.slice none 0 0, .slice none 0 0] 95)
          have hn4 := hn4.alloc (.cells #[.slice none 0 0, .slice none 0 0] 95)
          refine hK.out _ _ (holdJ ?_ (fun hCells => ?_))
          · clear hK; (try dsimp only); exact ⟨⟨pc (below_alloc _ _) hCells.1.1, pc (below_alloc _ _) hCells.1.2⟩, ⟨pc (below_alloc _ _) hCells.2.1, pc (below_alloc _ _) hCells.2.2⟩⟩
          clear hK K
          generalize w5.heap.size = b_hk5 at hk5 ge_hk5 lt_hk6_hk5 ⊢
          generalize w5.alloc (.cells #[.slice none 0 0, .slice none 0 0] 95) = W_hk5 at hk hk6 hn1 hn2 hn3 hn4 hk5 hCells ⊢
          try simp only [Act.put, List.setIfInBounds_toArray, List.set_cons_zero, List.set_cons_succ]
          refine oneJ 6 (by kernel_rfl) rfl (fun K hK => ?_)
          obtain ⟨⟨r0, r1⟩, f0, f1⟩ := hk5.two
          go_simp
          refine hK.out _ _ (holdJ ?_ (fun hCells => ?_))
          · clear hK; (try dsimp only); (exact ⟨⟨far2 hCells.1.1 (by omega), far2 hCells.1.2 (by omega)⟩, ⟨far2 hCells.2.1 (by omega), far2 hCells.2.2 (by omega)⟩⟩)
          clear r0 r1 f0 f1
          have hn1 := (hn1.set hk5 0 (.slice A1 l1 c1) no_int).set (hk5.set 0 (.slice A1 l1 c1)) 1 (.slice A2 l2 c2) (no_int2 (fun i => by simp))
          have hn2 := (hn2.set hk5 0 (.slice A1 l1 c1) no_int).set (hk5.set 0 (.slice A1 l1 c1)) 1 (.slice A2 l2 c2) (no_int2 (fun i => by simp))
          have hn3 := (hn3.set hk5 0 (.slice A1 l1 c1) no_int).set (hk5.set 0 (.slice A1 l1 c1)) 1 (.slice A2 l2 c2) (no_int2 (fun i => by simp))
          have hn4 := (hn4.set hk5 0 (.slice A1 l1 c1) no_int).set (hk5.set 0 (.slice A1 l1 c1)) 1 (.slice A2 l2 c2) (no_int2 (fun i => by simp))
          have hk6 := (hk6.far (p := ⟨b_hk5, 0, none⟩) (by simp <;> omega) (.slice A1 l1 c1)).far (p := ⟨b_hk5, 1, none⟩) (by simp <;> omega) (.slice A2 l2 c2)
          have hk := (hk.set (p := ⟨b_hk5, 0, none⟩) ge_hk5 (.slice A1 l1 c1)).set (p := ⟨b_hk5, 1, none⟩) ge_hk5 (.slice A2 l2 c2)
          have hk5 := (hk5.set 0 (.slice A1 l1 c1)).set 1 (.slice A2 l2 c2)
          clear hK K
          try simp only [Act.put, List.setIfInBounds_toArray, List.set_cons_zero, List.set_cons_succ]
          refine oneJ 7 (by kernel_rfl) rfl (fun K hK => ?_)
          obtain ⟨⟨r0, r1⟩, f0, f1⟩ := hk6.two
          go_simp
          refine hK.out _ _ (holdJ ?_ (fun hCells => ?_))
          · clear hK; (try dsimp only); (exact ⟨⟨far2 hCells.1.1 (by omega), far2 hCells.1.2 (by omega)⟩, ⟨far2 hCells.2.1 (by omega), far2 hCells.2.2 (by omega)⟩⟩)
          clear r0 r1 f0 f1
          have hn1 := (hn1.set hk6 0 (.slice A3 l3 c3) no_int).set (hk6.set 0 (.slice A3 l3 c3)) 1 (.slice A4 l4 c4) (no_int2 (fun i => by simp))
          have hn2 := (hn2.set hk6 0 (.slice A3 l3 c3) no_int).set (hk6.set 0 (.slice A3 l3 c3)) 1 (.slice A4 l4 c4) (no_int2 (fun i => by simp))
          have hn3 := (hn3.set hk6 0 (.slice A3 l3 c3) no_int).set (hk6.set 0 (.slice A3 l3 c3)) 1 (.slice A4 l4 c4) (no_int2 (fun i => by simp))
          have hn4 := (hn4.set hk6 0 (.slice A3 l3 c3) no_int).set (hk6.set 0 (.slice A3 l3 c3)) 1 (.slice A4 l4 c4) (no_int2 (fun i => by simp))
          have hk5 := (hk5.far (p := ⟨b_hk6, 0, none⟩) (by simp <;> omega) (.slice A3 l3 c3)).far (p := ⟨b_hk6, 1, none⟩) (by simp <;> omega) (.slice A4 l4 c4)
          have hk := (hk.set (p := ⟨b_hk6, 0, none⟩) ge_hk6 (.slice A3 l3 c3)).set (p := ⟨b_hk6, 1, none⟩) ge_hk6 (.slice A4 l4 c4)
          have hk6 := (hk6.set 0 (.slice A3 l3 c3)).set 1 (.slice A4 l4 c4)
          clear hK K
          try simp only [Act.put, List.setIfInBounds_toArray, List.set_cons_zero, List.set_cons_succ]
          refine wpAnyJ_done (by kernel_rfl) (NoPan.normal ?_) _
          exact ⟨rfl, _, _, _, _, _, _, _, _, _, _, _, _, _, _, rfl, hk5, hk6, hn1, hn2, hn3, hn4, hk⟩
        ·
          go_simp
          have lt_hk6_hk5 := hk6.lt
          have hk5 := Blk.new w4 #[.slice none 0 0, .slice none 0 0] 95
          have ge_hk5 := hk.2.1
          have hk := hk.alloc (.cells #[.slice none 0 0, .slice none 0 0] 95)
          have hk6 := hk6.alloc (.cells #[.slice none 0 0, .slice none 0 0] 95)
          have hn1 := hn1.alloc (.cells #[.slice none 0 0, .slice none 0 0] 95)
          have hn2 := hn2.alloc (.cells #[.slice none 0 0, .slice none 0 0] 95)
          refine hK.out _ _ (holdJ ?_ (fun hCells => ?_))
          · clear hK; (try dsimp only); exact ⟨⟨pc (below_alloc _ _) hCells.1.1, pc (below_alloc _ _) hCells.1.2⟩, ⟨pc (below_alloc _ _) hCells.2.1, pc (below_alloc _ _) hCells.2.2⟩⟩
          clear hK K
          generalize w4.heap.size = b_hk5 at hk5 ge_hk5 lt_hk6_hk5 ⊢
          generalize w4.alloc (.cells #[.slice none 0 0, .slice none 0 0] 95) = W_hk5 at hk hk6 hn1 hn2 hk5 hCells ⊢
          try simp only [Act.put, List.setIfInBounds_toArray, List.set_cons_zero, List.set_cons_succ]
          refine oneJ 3 (by kernel_rfl) rfl (fun K hK => ?_)
          go_simp
          refine ⟨rfl, ?_⟩
          refine (callsIn_wide.2 (TB.out _)).mono ?_; rintro e w5 ⟨v3, v4, rfl, ⟨A3, l3, c3, rfl, hn3⟩, ⟨A4, l4, c4, rfl, hn4⟩, hb5⟩
          have hk := hk.pass hb5
          have hk6 := hk6.pass hb5
          have hn1 := hn1.pass hb5
          have hn2 := hn2.pass hb5
          have hk5 := hk5.pass hb5
          refine hK.out _ _ (holdJ ?_ (fun hCells => ?_))
          · clear hK; (try dsimp only); exact ⟨⟨pc hb5 hCells.1.1, pc hb5 hCells.1.2⟩, ⟨pc hb5 hCells.2.1, pc hb5 hCells.2.2⟩⟩
          clear hK K hb5
          try simp only [Act.put, List.setIfInBounds_toArray, List.set_cons_zero, List.set_cons_succ]
          refine oneJ 6 (by kernel_rfl) rfl (fun K hK => ?_)
          obtain ⟨⟨r0, r1⟩, f0, f1⟩ := hk5.two
          go_simp
          refine hK.out _ _ (holdJ ?_ (fun hCells => ?_))
          · clear hK; (try dsimp only); (exact ⟨⟨far2 hCells.1.1 (by omega), far2 hCells.1.2 (by omega)⟩, ⟨far2 hCells.2.1 (by omega), far2 hCells.2.2 (by omega)⟩⟩)
          clear r0 r1 f0 f1
          have hn1 := (hn1.set hk5 0 (.slice A1 l1 c1) no_int).set (hk5.set 0 (.slice A1 l1 c1)) 1 (.slice A2 l2 c2) (no_int2 (fun i => by simp))
          have hn2 := (hn2.set hk5 0 (.slice A1 l1 c1) no_int).set (hk5.set 0 (.slice A1 l1 c1)) 1 (.slice A2 l2 c2) (no_int2 (fun i => by simp))
          have hn3 := (hn3.set hk5 0 (.slice A1 l1 c1) no_int).set (hk5.set 0 (.slice A1 l1 c1)) 1 (.slice A2 l2 c2) (no_int2 (fun i => by simp))
          have hn4 := (hn4.set hk5 0 (.slice A1 l1 c1) no_int).set (hk5.set 0 (.slice A1 l1 c1)) 1 (.slice A2 l2 c2) (no_int2 (fun i => by simp))
          have hk6 := (hk6.far (p := ⟨b_hk5, 0, none⟩) (by simp <;> omega) (.slice A1 l1 c1)).far (p := ⟨b_hk5, 1, none⟩) (by simp <;> omega) (.slice A2 l2 c2)
          have hk := (hk.set (p := ⟨b_hk5, 0, none⟩) ge_hk5 (.slice A1 l1 c1)).set (p := ⟨b_hk5, 1, none⟩) ge_hk5 (.slice A2 l2 c2)
          have hk5 := (hk5.set 0 (.slice A1 l1 c1)).set 1 (.slice A2 l2 c2)
          clear hK K
          try simp only [Act.put, List.setIfInBounds_toArray, List.set_cons_zero, List.set_cons_succ]
          refine oneJ 7 (by kernel_rfl) rfl (fun K hK => ?_)
          obtain ⟨⟨r0, r1⟩, f0, f1⟩ := hk6.two
          go_simp
          refine hK.out _ _ (holdJ ?_ (fun hCells => ?_))
          · clear hK; (try dsimp only); (exact ⟨⟨far2 hCells.1.1 (by omega), far2 hCells.1.2 (by omega)⟩, ⟨far2 hCells.2.1 (by omega), far2 hCells.2.2 (by omega)⟩⟩)
          clear r0 r1 f0 f1
          have hn1 := (hn1.set hk6 0 (.slice A3 l3 c3) no_int).set (hk6.set 0 (.slice A3 l3 c3)) 1 (.slice A4 l4 c4) (no_int2 (fun i => by simp))
          have hn2 := (hn2.set hk6 0 (.slice A3 l3 c3) no_int).set (hk6.set 0 (.slice A3 l3 c3)) 1 (.slice A4 l4 c4) (no_int2 (fun i => by simp))
          have hn3 := (hn3.set hk6 0 (.slice A3 l3 c3) no_int).set (hk6.set 0 (.slice A3 l3 c3)) 1 (.slice A4 l4 c4) (no_int2 (fun i => by simp))
          have hn4 := (hn4.set hk6 0 (.slice A3 l3 c3) no_int).set (hk6.set 0 (.slice A3 l3 c3)) 1 (.slice A4 l4 c4) (no_int2 (fun i => by simp))
          have hk5 := (hk5.far (p := ⟨b_hk6, 0, none⟩) (by simp <;> omega) (.slice A3 l3 c3)).far (p := ⟨b_hk6, 1, none⟩) (by simp <;> omega) (.slice A4 l4 c4)
          have hk := (hk.set (p := ⟨b_hk6, 0, none⟩) ge_hk6 (.slice A3 l3 c3)).set (p := ⟨b_hk6, 1, none⟩) ge_hk6 (.slice A4 l4 c4)
          have hk6 := (hk6.set 0 (.slice A3 l3 c3)).set 1 (.slice A4 l4 c4)
          clear hK K
          try simp only [Act.put, List.setIfInBounds_toArray, List.set_cons_zero, List.set_cons_succ]
          refine wpAnyJ_done (by kernel_rfl) (NoPan.normal ?_) _
          exact ⟨rfl, _, _, _, _, _, _, _, _, _, _, _, _, _, _, rfl, hk5, hk6, hn1, hn2, hn3, hn4, hk⟩
      ·
        go_simp
        have lt_hk6_hk5 := hk6.lt
        have hk5 := Blk.new W_hk6 #[.slice none 0 0, .slice none 0 0] 95
        have ge_hk5 := hk.2.1
        have hk := hk.alloc (.cells #[.slice none 0 0, .slice none 0 0] 95)
        have hk6 := hk6.alloc (.cells #[.slice none 0 0, .slice none 0 0] 95)
        refine hK.out _ _ (holdJ ?_ (fun hCells => ?_))
        · clear hK; (try dsimp only); exact ⟨⟨pc (below_alloc _ _) hCells.1.1, pc (below_alloc _ _) hCells.1.2⟩, ⟨pc (below_alloc _ _) hCells.2.1, pc (below_alloc _ _) hCells.2.2⟩⟩
        clear hK K
        generalize W_hk6.heap.size = b_hk5 at hk5 ge_hk5 lt_hk6_hk5 ⊢
        generalize W_hk6.alloc (.cells #[.slice none 0 0, .slice none 0 0] 95) = W_hk5 at hk hk6 hk5 hCells ⊢
        try simp only [Act.put, List.setIfInBounds_toArray, List.set_cons_zero, List.set_cons_succ]
        refine oneJ 1 (by kernel_rfl) rfl (fun K hK => ?_)
        go_simp
        refine ⟨rfl, ?_⟩
        refine (callsIn_wide.2 (TA.out _)).mono ?_; rintro e w4 ⟨v1, v2, rfl, ⟨A1, l1, c1, rfl, hn1⟩, ⟨A2, l2, c2, rfl, hn2⟩, hb4⟩
        have hk := hk.pass hb4
        have hk6 := hk6.pass hb4
        have hk5 := hk5.pass hb4
        refine hK.out _ _ (holdJ ?_ (fun hCells => ?_))
        · clear hK; (try dsimp only); exact ⟨⟨pc hb4 hCells.1.1, pc hb4 hCells.1.2⟩, ⟨pc hb4 hCells.2.1, pc hb4 hCells.2.2⟩⟩
        clear hK K hb4
        try simp only [Act.put, List.setIfInBounds_toArray, List.set_cons_zero, List.set_cons_succ]
        refine oneJ 3 (by kernel_rfl) rfl (fun K hK => ?_)
        go_simp
        refine ⟨rfl, ?_⟩
        refine (callsIn_wide.2 (TB.out _)).mono ?_; rintro e w5 ⟨v3, v4, rfl, ⟨A3, l3, c3, rfl, hn3⟩, ⟨A4, l4, c4, rfl, hn4⟩, hb5⟩
        have hk := hk.pass hb5
        have hk6 := hk6.pass hb5
        have hk5 := hk5.pass hb5
        have hn1 := hn1.pass hb5
        have hn2 := hn2.pass hb5
        refine hK.out _ _ (holdJ ?_ (fun hCells => ?_))
        · clear hK; (try dsimp only); exact ⟨⟨pc hb5 hCells.1.1, pc hb5 hCells.1.2⟩, ⟨pc hb5 hCells.2.1, pc hb5 hCells.2.2⟩⟩
        clear hK K hb5
        try simp only [Act.put, List.setIfInBounds_toArray, List.set_cons_zero, List.set_cons_succ]
        refine oneJ 6 (by kernel_rfl) rfl (fun K hK => ?_)
        obtain ⟨⟨r0, r1⟩, f0, f1⟩ := hk5.two
        go_simp
        refine hK.out _ _ (holdJ ?_ (fun hCells => ?_))
        · clear hK; (try dsimp only); (exact ⟨⟨far2 hCells.1.1 (by omega), far2 hCells.1.2 (by omega)⟩, ⟨far2 hCells.2.1 (by omega), far2 hCells.2.2 (by omega)⟩⟩)
        clear r0 r1 f0 f1
        have hn1 := (hn1.set hk5 0 (.slice A1 l1 c1) no_int).set (hk5.set 0 (.slice A1 l1 c1)) 1 (.slice A2 l2 c2) (no_int2 (fun i => by simp))
        have hn2 := (hn2.set hk5 0 (.slice A1 l1 c1) no_int).set (hk5.set 0 (.slice A1 l1 c1)) 1 (.slice A2 l2 c2) (no_int2 (fun i => by simp))
        have hn3 := (hn3.set hk5 0 (.slice A1 l1 c1) no_int).set (hk5.set 0 (.slice A1 l1 c1)) 1 (.slice A2 l2 c2) (no_int2 (fun i => by simp))
        have hn4 := (hn4.set hk5 0 (.slice A1 l1 c1) no_int).set (hk5.set 0 (.slice A1 l1 c1)) 1 (.slice A2 l2 c2) (no_int2 (fun i => by simp))
        have hk6 := (hk6.far (p := ⟨b_hk5, 0, none⟩) (by simp <;> omega) (.slice A1 l1 c1)).far (p := ⟨b_hk5, 1, none⟩) (by simp <;> omega) (.slice A2 l2 c2)
        have hk := (hk.set (p := ⟨b_hk5, 0, none⟩) ge_hk5 (.slice A1 l1 c1)).set (p := ⟨b_hk5, 1, none⟩) ge_hk5 (.slice A2 l2 c2)
        have hk5 := (hk5.set 0 (.slice A1 l1 c1)).set 1 (.slice A2 l2 c2)
        clear hK K
        try simp only [Act.put, List.setIfInBounds_toArray, List.set_cons_zero, List.set_cons_succ]
        refine oneJ 7 (by kernel_rfl) rfl (fun K hK => ?_)
        obtain ⟨⟨r0, r1⟩, f0, f1⟩ := hk6.two
        go_simp
        refine hK.out _ _ (holdJ ?_ (fun hCells => ?_))
        · clear hK; (try dsimp only); (exact ⟨⟨far2 hCells.1.1 (by omega), far2 hCells.1.2 (by omega)⟩, ⟨far2 hCells.2.1 (by omega), far2 hCells.2.2 (by omega)⟩⟩)
        clear r0 r1 f0 f1
        have hn1 := (hn1.set hk6 0 (.slice A3 l3 c3) no_int).set (hk6.set 0 (.slice A3 l3 c3)) 1 (.slice A4 l4 c4) (no_int2 (fun i => by simp))
        have hn2 := (hn2.set hk6 0 (.slice A3 l3 c3) no_int).set (hk6.set 0 (.slice A3 l3 c3)) 1 (.slice A4 l4 c4) (no_int2 (fun i => by simp))
        have hn3 := (hn3.set hk6 0 (.slice A3 l3 c3) no_int).set (hk6.set 0 (.slice A3 l3 c3)) 1 (.slice A4 l4 c4) (no_int2 (fun i => by simp))
        have hn4 := (hn4.set hk6 0 (.slice A3 l3 c3) no_int).set (hk6.set 0 (.slice A3 l3 c3)) 1 (.slice A4 l4 c4) (no_int2 (fun i => by simp))
        have hk5 := (hk5.far (p := ⟨b_hk6, 0, none⟩) (by simp <;> omega) (.slice A3 l3 c3)).far (p := ⟨b_hk6, 1, none⟩) (by simp <;> omega) (.slice A4 l4 c4)
        have hk := (hk.set (p := ⟨b_hk6, 0, none⟩) ge_hk6 (.slice A3 l3 c3)).set (p := ⟨b_hk6, 1, none⟩) ge_hk6 (.slice A4 l4 c4)
        have hk6 := (hk6.set 0 (.slice A3 l3 c3)).set 1 (.slice A4 l4 c4)
        clear hK K
        try simp only [Act.put, List.setIfInBounds_toArray, List.set_cons_zero, List.set_cons_succ]
        refine wpAnyJ_done (by kernel_rfl) (NoPan.normal ?_) _
        exact ⟨rfl, _, _, _, _, _, _, _, _, _, _, _, _, _, _, rfl, hk5, hk6, hn1, hn2, hn3, hn4, hk⟩
  · clear hA3 hB3 CA CB TA TB HB2 HB3 HW1
    rintro a' w4 ⟨A1, l1, c1, A2, l2, c2, A3, l3, c3, A4, l4, c4, b5, b6, rfl, hk5, hk6, hn1, hn2, hn3, hn4, hk⟩
    try simp only [Act.put, List.setIfInBounds_toArray, List.set_cons_zero, List.set_cons_succ]
    have HK := Lib.hid hk
    have hs1 : l1 ≤ 67 := by rw [hn1.1]; exact LL.out.1
    have hs2 : l2 ≤ 67 := by rw [hn2.1]; exact LL.out.2.1
    have hs3 : l3 ≤ 67 := by rw [hn3.1]; exact LL.out.2.2.1
    have hs4 : l4 ≤ 67 := by rw [hn4.1]; exact LL.out.2.2.2
    have H := Lib.hid (And.intro hn1 (And.intro hn2 (And.intro hn3 hn4)))
    clear hk hn1 hn2 hn3 hn4
    go_wp2_with fail
    refine wp_region_J (fun W => (W.cell? ⟨b5, 0, none⟩ = some (.slice A1 l1 c1) ∧ W.cell? ⟨b5, 1, none⟩ = some (.slice A2 l2 c2)) ∧ (W.cell? ⟨b6, 0, none⟩ = some (.slice A3 l3 c3) ∧ W.cell? ⟨b6, 1, none⟩ = some (.slice A4 l4 c4))) [] hm ?hCells0 (fun hCells => ?_)
    case hCells0 => exact ⟨hk5.drew.two.1, hk6.drew.two.1⟩
    refine takeJ hfnR (by kernel_rfl) 0 (v := ?_) rfl (by kernel_rfl) (fun _ _ _ h => h) (by kernel_rfl) hCells (Or.inl ⟨by rfl, ?_⟩) ?_
    rotate_left 1
    · intro w hSw; (try dsimp only at hSw); go_simp; (try with_reducible rfl)
    try simp only [Act.put, List.setIfInBounds_toArray, List.set_cons_zero, List.set_cons_succ]
    refine takeJ hfnR (by kernel_rfl) 1 (v := ?_) rfl (by kernel_rfl) (fun _ _ _ h => h) (by kernel_rfl) hCells (Or.inl ⟨by rfl, ?_⟩) ?_
    rotate_left 1
    · intro w hSw; (try dsimp only at hSw); go_simp; (try with_reducible rfl)
    try simp only [Act.put, List.setIfInBounds_toArray, List.set_cons_zero, List.set_cons_succ]
    refine takeJ hfnR (by kernel_rfl) 2 (v := ?_) rfl (by kernel_rfl) (fun _ _ _ h => h) (by kernel_rfl) hCells (Or.inl ⟨by rfl, ?_⟩) ?_
    rotate_left 1
    · intro w hSw; (try dsimp only at hSw); go_simp; (try with_reducible rfl)
    try simp only [Act.put, List.setIfInBounds_toArray, List.set_cons_zero, List.set_cons_succ]
    refine takeJ hfnR (by kernel_rfl) 3 (v := ?_) rfl (by kernel_rfl) (fun _ _ _ h => h) (by kernel_rfl) hCells (Or.inl ⟨by rfl, ?_⟩) ?_
    rotate_left 1
    · intro w hSw; (try dsimp only at hSw); go_simp; (try with_reducible rfl)
    try simp only [Act.put, List.setIfInBounds_toArray, List.set_cons_zero, List.set_cons_succ]
    refine takeJ hfnR (by kernel_rfl) 5 (v := ?_) rfl (by kernel_rfl) (fun _ _ _ h => h) (by kernel_rfl) hCells (Or.inl ⟨by rfl, ?_⟩) ?_
    rotate_left 1
    · intro w hSw; (try dsimp only at hSw); go_simp; (try with_reducible rfl)
    try simp only [Act.put, List.setIfInBounds_toArray, List.set_cons_zero, List.set_cons_succ]
    refine takeJ hfnR (by kernel_rfl) 6 (v := ?_) rfl (by kernel_rfl) (fun _ _ _ h => h) (by kernel_rfl) hCells (Or.inl ⟨by rfl, ?_⟩) ?_
    rotate_left 1
    · intro w hSw; (try dsimp only at hSw); go_simp; (try with_reducible rfl)
    try simp only [Act.put, List.setIfInBounds_toArray, List.set_cons_zero, List.set_cons_succ]
    refine takeJ hfnR (by kernel_rfl) 7 (v := ?_) rfl (by kernel_rfl) (fun _ _ _ h => h) (by kernel_rfl) hCells (Or.inl ⟨by rfl, ?_⟩) ?_
    rotate_left 1
    · intro w hSw; (try dsimp only at hSw); go_simp; (try with_reducible rfl)
    try simp only [Act.put, List.setIfInBounds_toArray, List.set_cons_zero, List.set_cons_succ]
    refine takeJ hfnR (by kernel_rfl) 8 (v := ?_) rfl (by kernel_rfl) (fun _ _ _ h => h) (by kernel_rfl) hCells (Or.inl ⟨by rfl, ?_⟩) ?_
    rotate_left 1
    · intro w hSw; (try dsimp only at hSw); go_simp; (try with_reducible rfl)
    try simp only [Act.put, List.setIfInBounds_toArray, List.set_cons_zero, List.set_cons_succ]
    have TA := Lib.hid (times_n (w := w4.drew) H.out.1 H.out.2.2.2 (by omega) (by omega))
    refine oneJ 4 (by kernel_rfl) rfl (fun K hK => ?_)
    go_simp
    refine ⟨rfl, ?_⟩
    (refine (callsIn_wide.2 TA.out).mono ?_; rintro e w5 ⟨A5, l5, c5, rfl, h5, b5', hb5⟩)
    refine hK.out _ _ (holdJ ?_ (fun hCells => ?_))
    · clear hK; (try dsimp only); (exact ⟨⟨pc hb5 hCells.1.1, pc hb5 hCells.1.2⟩, ⟨pc hb5 hCells.2.1, pc hb5 hCells.2.2⟩⟩)
    clear hK K
    try simp only [Act.put, List.setIfInBounds_toArray, List.set_cons_zero, List.set_cons_succ]
    have TB := Lib.hid (times_n (w := w5) (Num.pass (W := w4.drew) H.out.2.2.1 hb5) (Num.pass (W := w4.drew) H.out.2.1 hb5) (by omega) (by omega))
    refine oneJ 9 (by kernel_rfl) rfl (fun K hK => ?_)
    go_simp
    refine ⟨rfl, ?_⟩
    (refine (callsIn_wide.2 TB.out).mono ?_; rintro e w6 ⟨A6, l6, c6, rfl, h6, b6', hb6⟩)
    refine hK.out _ _ (holdJ ?_ (fun hCells => ?_))
    · clear hK; (try dsimp only); (exact ⟨⟨pc hb6 hCells.1.1, pc hb6 hCells.1.2⟩, ⟨pc hb6 hCells.2.1, pc hb6 hCells.2.2⟩⟩)
    clear hK K
    try simp only [Act.put, List.setIfInBounds_toArray, List.set_cons_zero, List.set_cons_succ]
    have TC := Lib.hid (cmp_any _ _ _ _ _ _ _ _ w6 (h5.pass hb6) h6 (by omega) (by omega))
    have HK6 := Lib.hid ((HK.out.drew.pass hb5).pass hb6)
    clear h5 h6 hb5 hb6 TA TB
    refine oneJ 10 (by kernel_rfl) rfl (fun K hK => ?_)
    go_simp
    refine ⟨rfl, ?_⟩
    (refine (callsIn_wide.2 TC.out).mono ?_; rintro e w7 ⟨r, rfl, hr1, hr2, hr3, hr4, hb7⟩)
    refine hK.out _ _ (holdJ ?_ (fun hCells => ?_))
    · clear hK; (try dsimp only); (exact ⟨⟨pc hb7 hCells.1.1, pc hb7 hCells.1.2⟩, ⟨pc hb7 hCells.2.1, pc hb7 hCells.2.2⟩⟩)
    clear hK K
    try simp only [Act.put, List.setIfInBounds_toArray, List.set_cons_zero, List.set_cons_succ]
    have HR := Lib.hid (clamp_cmp hr3 hr4)
    have HK7 := Lib.hid (HK6.out.pass hb7)
    clear TC hr1 hr2 hr3 hr4 hb7
    refine takeJ hfnR (by kernel_rfl) 11 (v := ?_) rfl (by kernel_rfl) (fun _ _ _ h => h) (by kernel_rfl) hCells (Or.inl ⟨by rfl, ?_⟩) ?_
    rotate_left 1
    · intro w hSw; (try dsimp only at hSw); go_simp; (try with_reducible rfl)
    try simp only [Act.put, List.setIfInBounds_toArray, List.set_cons_zero, List.set_cons_succ]
    refine wpAnyJ_done (by kernel_rfl) (NoPan.normal ?_) _
    clear hCells
    go_wp2_with fail
    go_ret
    exact ⟨by rw [← HR.out]; rfl, HK7.out.2.2⟩
set_option maxRecDepth 100000 in
set_option maxHeartbeats 1000000 in
theorem compare_any (a b c d : ByteArray) (w : World) :
    Calls Tryz.prog 31 #[.agg #[.string a, .string b], .agg #[.string c, .string d]] w fun e w' => e = .returned (.int .i64 (cmpS a b c d)) ∧ Below w.heap.size w w' := by
  by_cases h1 : chk a b = true
  · by_cases h2 : chk c d = true
    · rw [show cmpS a b c d = cmpN (nv a * nv d) (nv c * nv b) from if_pos ⟨h1, h2⟩]
      exact compare_yes a b c d w h1 h2
    · rw [show cmpS a b c d = 0 from if_neg (fun h => h2 h.2)]
      obtain ⟨hA1, hB1, hW1⟩ := two_new w #[.string a, .string b] #[.string c, .string d] 46 46
      have CA := Lib.hid (fun W => check_any a b W)
      have CB := Lib.hid (fun W => check_any c d W)
      rw [h1, show okErr true = 0 from rfl] at CA
      rw [show chk c d = false by simpa using h2, show okErr false = 2 from rfl] at CB
      have HW1 := Lib.hid hW1
      obtain ⟨⟨x0, x1⟩, _, _⟩ := hA1.two
      clear hW1 h1 h2
      go_enter Tryz.func31, Tryz.ntmps31
      go_wp2_with fail
      refine (CA.out _).mono ?_; rintro e w2 ⟨rfl, hb2⟩; have hB2 := hB1.pass hb2; obtain ⟨⟨y0, y1⟩, _, _⟩ := hB2.two; have HB2 := Lib.hid (HW1.out.trans (hb2.mono HW1.out.size)); clear hb2 hA1 hB1 x0 x1
      go_wp2_with fail
      refine (CB.out _).mono ?_; rintro e w3 ⟨rfl, hb3⟩; have HB3 := Lib.hid (HB2.out.trans (hb3.mono HB2.out.size)); clear hb3 hB2 y0 y1
      go_wp2_with fail
      go_ret
      exact ⟨rfl, HB3.out⟩
  · rw [show cmpS a b c d = 0 from if_neg (fun h => h1 h.1)]
    obtain ⟨hA1, hB1, hW1⟩ := two_new w #[.string a, .string b] #[.string c, .string d] 46 46
    have CA := Lib.hid (fun W => check_any a b W)
    rw [show chk a b = false by simpa using h1, show okErr false = 2 from rfl] at CA
    have HW1 := Lib.hid hW1
    obtain ⟨⟨x0, x1⟩, _, _⟩ := hA1.two
    clear hW1 h1
    go_enter Tryz.func31, Tryz.ntmps31
    go_wp2_with fail
    refine (CA.out _).mono ?_; rintro e w2 ⟨rfl, hb2⟩; have HB2 := Lib.hid (HW1.out.trans (hb2.mono HW1.out.size)); clear hb2 hA1 hB1 x0 x1
    go_wp2_with fail
    go_ret
    exact ⟨rfl, HB2.out⟩
end Go.Proofs.Cr
