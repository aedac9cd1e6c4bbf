/- Contracts of functions that the laws reach, and plain lemmas. Part 11. -/
import Derived.Test.YtolofiiolinnoaaGreatDoorC10
set_option linter.all false
namespace Go.Proofs.Cr
open Go.RowKit Go.Shelf
attribute [local go_sem] Oper.semAt_some

/-- A bend as a value. -/
def bval (x : Bd) : Value := .agg #[.string x.cn, .string x.cd, .string x.hn, .string x.hd]
def bcs (x : Bd) : Array Value := #[.string x.cn, .string x.cd, .string x.hn, .string x.hd]
def firstT (t : Nat → Bool) (N i j : Nat) (f : Bool) : Prop := (f = true ∧ i < N ∧ j = i + 1 ∧ t i = true ∧ ∀ m, m < i → t m = false) ∨ (f = false ∧ i = N ∧ j = N ∧ ∀ m, m < N → t m = false)
def PieceP (t : Nat → Bool) (L : List Bd) (N : Nat) (w : World) (e : Ending) (w' : World) : Prop :=
  ∃ (i j : Nat) (f : Bool), e = .returned (.tuple #[bval (L.getD i .zero), bval (L.getD j .zero), .bool f]) ∧ firstT t N i j f ∧ Below w.heap.size w w'
theorem five_new (w : World) (c1 c2 c3 c4 c5 : Array Value) (t1 t2 t3 t4 t5 : TypeId) :
    (Blk (((((w.alloc (.cells c1 t1)).alloc (.cells c2 t2)).alloc (.cells c3 t3)).alloc (.cells c4 t4)).alloc (.cells c5 t5)) w.heap.size c1 t1 ∧ Blk (((((w.alloc (.cells c1 t1)).alloc (.cells c2 t2)).alloc (.cells c3 t3)).alloc (.cells c4 t4)).alloc (.cells c5 t5)) (w.heap.size + 1) c2 t2 ∧ Blk (((((w.alloc (.cells c1 t1)).alloc (.cells c2 t2)).alloc (.cells c3 t3)).alloc (.cells c4 t4)).alloc (.cells c5 t5)) (w.heap.size + 1 + 1) c3 t3) ∧
    (Blk (((((w.alloc (.cells c1 t1)).alloc (.cells c2 t2)).alloc (.cells c3 t3)).alloc (.cells c4 t4)).alloc (.cells c5 t5)) (w.heap.size + 1 + 1 + 1) c4 t4 ∧ Blk (((((w.alloc (.cells c1 t1)).alloc (.cells c2 t2)).alloc (.cells c3 t3)).alloc (.cells c4 t4)).alloc (.cells c5 t5)) (w.heap.size + 1 + 1 + 1 + 1) c5 t5) ∧ Below w.heap.size w (((((w.alloc (.cells c1 t1)).alloc (.cells c2 t2)).alloc (.cells c3 t3)).alloc (.cells c4 t4)).alloc (.cells c5 t5)) := by
  obtain ⟨h1, h2, h3, h4⟩ := three_new w c1 c2 c3 t1 t2 t3
  obtain ⟨k1, k2, k4⟩ := two_new (((w.alloc (.cells c1 t1)).alloc (.cells c2 t2)).alloc (.cells c3 t3)) c4 c5 t4 t5
  simp only [World.size_alloc] at k1 k2
  exact ⟨⟨(h1.alloc _).alloc _, (h2.alloc _).alloc _, (h3.alloc _).alloc _⟩, ⟨k1, k2⟩, h4.trans (k4.mono h4.size)⟩
theorem load4 {w : World} {g : Nat} {x : Value} {t : TypeId} (h : Blk w g #[x] t) : (loadVar 4 ⟨g, 0, none⟩).run Tryz.prog w = .ok x w := by
  have := h.cell 0
  have e : w.cell? ⟨g, 0, none⟩ = some x := this
  simp [loadVar, go_sem, e]
theorem results_bbx {fn : Func} {p q r : Tmp} {tmps : Array Value} {w : World} {g1 g2 g3 : Nat} {x y : Bd} {z : Value} (h : fn.results = #[.cell p 56, .cell q 56, .cell r 4])
    (hp : tmps.getD p undef = .pointer (some ⟨g1, 0, none⟩)) (hq : tmps.getD q undef = .pointer (some ⟨g2, 0, none⟩)) (hr : tmps.getD r undef = .pointer (some ⟨g3, 0, none⟩))
    (h1 : Blk w g1 (bcs x) 56) (h2 : Blk w g2 (bcs y) 56) (h3 : Blk w g3 #[z] 4) : (results fn tmps).run Tryz.prog w = .ok (.tuple #[bval x, bval y, z]) w := by
  have hp' : tmps[p]?.getD undef = .pointer (some ⟨g1, 0, none⟩) := by simpa using hp
  have hq' : tmps[q]?.getD undef = .pointer (some ⟨g2, 0, none⟩) := by simpa using hq
  have hr' : tmps[r]?.getD undef = .pointer (some ⟨g3, 0, none⟩) := by simpa using hr
  have e1 := run_loadVar_row (P := Tryz.prog) w g1 56 56 (bcs x) (0, 0) _ h1 Tryz.underlying56 rfl (by kernel_rfl)
  have e2 := run_loadVar_row (P := Tryz.prog) w g2 56 56 (bcs y) (0, 0) _ h2 Tryz.underlying56 rfl (by kernel_rfl)
  simp [results, h, hp', hq', hr', asAddr, e1, e2, load4 h3, bval, bcs]
theorem stabI_size {B m : Nat} {C : Nat → Prop} : StabI B C (fun _ W => m ≤ W.heap.size) := fun _ _ _ _ hs hg _ => Nat.le_trans hs hg.size
theorem Blk.put {W : World} {b D : Nat} {cs : Array Value} {t : TypeId} (h : Blk W b cs t) (o : Obj) (hne : b ≠ D) : Blk (W.putObj D o) b cs t := (World.putObj_heap_other hne).trans h
/-- A bend is laid in a variable. -/
def st4 (W : World) (b : Nat) (x : Bd) : World := (((W.setCell ⟨b, 0, none⟩ (.string x.cn)).setCell ⟨b, 1, none⟩ (.string x.cd)).setCell ⟨b, 2, none⟩ (.string x.hn)).setCell ⟨b, 3, none⟩ (.string x.hd)
theorem Blk.set4 {W : World} {b : Nat} {p q r s : Value} {t : TypeId} (h : Blk W b #[p, q, r, s] t) (x : Bd) : Blk (st4 W b x) b (bcs x) t := (((h.set 0 _).set 1 _).set 2 _).set 3 _
theorem Blk.far4 {W : World} {b g : Nat} {cs : Array Value} {t : TypeId} (h : Blk W g cs t) (hne : g ≠ b) (x : Bd) : Blk (st4 W b x) g cs t := (((h.far hne _).far hne _).far hne _).far hne _
theorem below_set4 {n : Nat} {w W : World} (h : Below n w W) {b : Nat} (hb : n ≤ b) (x : Bd) : Below n w (st4 W b x) := (((h.setCell hb _).setCell hb _).setCell hb _).setCell hb _
theorem keepsFrom_set4 (B : Nat) (W : World) (b : Nat) (x : Bd) : KeepsFrom B W (st4 W b x) := (((keepsFrom_set B W _ _).trans (keepsFrom_set _ _ _ _)).trans (keepsFrom_set _ _ _ _)).trans (keepsFrom_set _ _ _ _)
theorem far1 {W : World} {b o r j : Nat} {u v : Value} (h : W.cell? ⟨b, o, none⟩ = some v) (hne : b ≠ r) : (W.setCell ⟨r, j, none⟩ u).cell? ⟨b, o, none⟩ = some v :=
  (World.cell?_setCell_other _ _ _ _ (by simp <;> omega)).trans h
theorem cell_far4 {W : World} {b g o : Nat} {v : Value} (h : W.cell? ⟨g, o, none⟩ = some v) (hne : g ≠ b) (x : Bd) : (st4 W b x).cell? ⟨g, o, none⟩ = some v := by
  unfold st4
  rw [World.cell?_setCell_other _ _ _ _ (by simp [hne]), World.cell?_setCell_other _ _ _ _ (by simp [hne]), World.cell?_setCell_other _ _ _ _ (by simp [hne]), World.cell?_setCell_other _ _ _ _ (by simp [hne])]
  exact h
set_option maxRecDepth 100000 in
set_option maxHeartbeats 4000000 in
theorem piece_in {F : Fence} (hW : Wide F) (n : Nat) (hn : 5 ≤ n) (A : Option Addr) (c N : Nat) (L : List Bd) (a b : ByteArray) (w : World) (hr : RdB w A L) (hN : L.length = N + 1) (h1 : 1 ≤ N) (hc : N + 1 ≤ c) :
    CallsIn F n Tryz.prog 85 #[.slice A (N + 1 : Nat) c, .agg #[.string a, .string b]] w (PieceP (fun k => decide (cmpS a b (L.getD (k + 1) .zero).cn (L.getD (k + 1) .zero).cd < 0)) L N w) := by
  have hro := hW.ro
  have h0 : 1 ≤ n := by omega
  have hfm := hW.fn 103
  have hm : Tryz.prog.follows .mixedOrders = true := by kernel_rfl
  have hfnR : ∀ f, F.fn f := hW.fn
  obtain ⟨⟨hA1, hA2, hA3⟩, ⟨hA4, hA5⟩, hB0⟩ := five_new w #[.string a, .string b] #[.string ⟨#[]⟩, .string ⟨#[]⟩, .string ⟨#[]⟩, .string ⟨#[]⟩] #[.string ⟨#[]⟩, .string ⟨#[]⟩, .string ⟨#[]⟩, .string ⟨#[]⟩] #[.bool false] #[.slice A (N + 1 : Nat) c] 46 56 56 4 34
  have HB0 := Lib.hid hB0
  have HR := Lib.hid hr
  have HL := Lib.hid hN
  obtain ⟨t, ht⟩ : ∃ t : Nat → Bool, t = (fun k => decide (cmpS a b (L.getD (k + 1) .zero).cn (L.getD (k + 1) .zero).cd < 0)) := ⟨_, rfl⟩
  rw [← ht]
  have HT := Lib.hid ht
  clear hB0 hr hN ht
  refine callsIn_of_wp_marks Tryz.func85 rfl (hW.fn _) ?_ hW.ro
  simp only [Tryz.ntmps85, List.size_toArray, List.length_cons, List.length_nil, Nat.reduceAdd, Nat.reduceSub, Array.replicate_succ, Array.replicate_zero, List.push_toArray, List.append_toArray, List.nil_append, List.cons_append]
  gi_wp2_with (gi_at_call 56; refine (hW.tr (pairs_any _ _ _ _)).mono ?_; rintro e w' ⟨rfl, rfl⟩)
  have HS : Hid (∀ g, sliceS (w.heap.size + 1 + 1 + 1 + 1) A (N + 1) g → g < w.heap.size + 5) := Lib.hid (by
    rintro g (rfl | ⟨hp, off, rfl⟩)
    · omega
    · obtain ⟨b', off', e, hlt, _⟩ := HR.out.2 (by rw [HL.out]; omega)
      cases e; omega)
  refine wpIn_range2 hW h0 (gf := 103) (lb := #[.pointer (some ⟨w.heap.size + 1 + 1 + 1 + 1, 0, none⟩)]) rfl (enters_of Tryz.func103 (by kernel_rfl) rfl)
    (pairs_seq hW (n - 1) (by omega) (w.heap.size + 1 + 1 + 1 + 1) c N A L HL.out h1 hc _ hA5.lt (hA5.cell 0) (HR.out.below HB0.out (Nat.le_refl _))) (fun _ h => h.elim) (fun h k => h.trans k) ?hKb (Below.refl _ _) (fun _ => rfl)
    (fun k W => (∀ m, m < k → t m = false) ∧ Blk W w.heap.size #[.string a, .string b] 46 ∧ Blk W (w.heap.size + 1) #[.string ⟨#[]⟩, .string ⟨#[]⟩, .string ⟨#[]⟩, .string ⟨#[]⟩] 56 ∧ Blk W (w.heap.size + 1 + 1) #[.string ⟨#[]⟩, .string ⟨#[]⟩, .string ⟨#[]⟩, .string ⟨#[]⟩] 56 ∧ Blk W (w.heap.size + 1 + 1 + 1) #[.bool false] 4 ∧ w.heap.size + 5 ≤ W.heap.size ∧ Below w.heap.size w W)
    (fun cd k W => ∃ i : Nat, (cd = .ret ∧ i < N ∧ t i = true ∧ ∀ m, m < i → t m = false) ∧ Blk W (w.heap.size + 1) (bcs (L.getD i .zero)) 56 ∧ Blk W (w.heap.size + 1 + 1) (bcs (L.getD (i + 1) .zero)) 56 ∧ Blk W (w.heap.size + 1 + 1 + 1) #[.bool true] 4 ∧ Below w.heap.size w W)
    ((stabI_pure _).and ((stabI_blk (fun h => h)).and ((stabI_blk (fun h => h)).and ((stabI_blk (fun h => h)).and ((stabI_blk (fun h => h)).and (stabI_size.and (stabI_below (by simp; omega) (Nat.le_refl _) (fun _ h => h.elim))))))))
    (fun cd => stabI_ex fun i => (stabI_pure _).and ((stabI_blk (fun h => h)).and ((stabI_blk (fun h => h)).and ((stabI_blk (fun h => h)).and (stabI_below (by simp; omega) (Nat.le_refl _) (fun _ h => h.elim))))))
    ⟨fun m hm => absurd hm (Nat.not_lt_zero _), hA1, hA2, hA3, hA4, by simp, HB0.out⟩
    ?round ?done ?stop
  case hKb =>
    intro W l o o' hl ho hc
    exact keepS_book (n := w.heap.size + 5) HS.out W l o o' (by simp at hl; omega) ho hc
  case round =>
    rintro l k W hk ⟨hd, g1, g2, g3, g4, hs5, gB⟩
    have hn2 : 1 ≤ n - 1 - 1 := by omega
    obtain ⟨x, hx⟩ : ∃ x, x = L.getD k .zero := ⟨_, rfl⟩
    obtain ⟨y, hy⟩ : ∃ y, y = L.getD (k + 1) .zero := ⟨_, rfl⟩
    have htk : t k = decide (cmpS a b y.cn y.cd < 0) := by rw [HT.out, hy]
    rw [← hx, ← hy]
    have HX := Lib.hid hx; have HY := Lib.hid hy; have HTK := Lib.hid htk; have HD := Lib.hid hd; have HG := Lib.hid gB
    clear hx hy htk hd gB
    have TC := Lib.hid (fun W => compare_any a b y.cn y.cd W)
    obtain ⟨r, hrr⟩ : ∃ r, r = cmpS a b y.cn y.cd := ⟨_, rfl⟩
    rw [← hrr] at TC HTK
    clear hrr
    obtain ⟨x1, x2, x3, x4⟩ := x
    obtain ⟨y1, y2, y3, y4⟩ := y
    gi_wp2
    have hk1 := Blk.new W #[.string x1, .string x2, .string x3, .string x4] 56
    have hk2 := Blk.new (W.alloc (.cells #[.string x1, .string x2, .string x3, .string x4] 56)) #[.string y1, .string y2, .string y3, .string y4] 56
    have hB2 : Below W.heap.size W ((W.alloc (.cells #[.string x1, .string x2, .string x3, .string x4] 56)).alloc (.cells #[.string y1, .string y2, .string y3, .string y4] 56)) := ((Below.refl _ W).alloc (Nat.le_refl _) _).alloc (by simp) _
    have HB2 := Lib.hid hB2
    rw [World.size_alloc] at hk2
    clear hB2
    refine ⟨keepsFrom_below HB2.out, KeepS.of_below (n := W.heap.size) HB2.out (fun g hg => Nat.lt_of_lt_of_le (HS.out g hg) hs5), ⟨HD.out, g1.pass HB2.out, g2.pass HB2.out, g3.pass HB2.out, g4.pass HB2.out, (by first | omega | (simp; omega)), HG.out.trans (HB2.out.mono HG.out.size)⟩, ?_⟩
    rintro W2 _ g1 g2 g3 g4 _ gB hsz hbl
    have hx1 : Blk W2 W.heap.size #[.string x1, .string x2, .string x3, .string x4] 56 := hbl _ _ _ _ _ (hk1.alloc _)
    have hy1 : Blk W2 (W.heap.size + 1) #[.string y1, .string y2, .string y3, .string y4] 56 := hbl _ _ _ _ _ hk2
    have HG2 := Lib.hid gB
    have HSZ := Lib.hid hsz
    clear hbl hk1 hk2 gB hsz
    obtain ⟨⟨p0, p1⟩, _, _⟩ := g1.two
    obtain ⟨⟨q0, q1⟩, q2, q3⟩ := hy1.four
    have hs6 : w.heap.size + 5 ≤ W2.heap.size := by have := HSZ.out; first | omega | (simp at this; omega)
    by_cases hlt : r < 0
    · have HTT : Hid (t k = true) := Lib.hid (by rw [HTK.out, decide_eq_true hlt])
      gi_wp2_with (gi_at_call 31; refine (CallsIn.inRound l (hW.tr (TC.out _))).mono ?_; rintro e w3 ⟨rfl, hb3⟩)
      have g2 := (g2.pass hb3).drew
      have g3 := (g3.pass hb3).drew
      have g4 := (g4.pass hb3).drew
      have hx1 := (hx1.pass hb3).drew
      have hy1 := (hy1.pass hb3).drew
      have HK3 := Lib.hid (show KeepsFrom (w.heap.size + 1 + 1 + 1 + 1 + 1) W2 w3.drew from keepsFrom_below hb3.drew)
      have HG3 := Lib.hid (HG2.out.trans (hb3.drew.mono HG2.out.size))
      clear hb3 g1 p0 p1 q0 q1 q2 q3
      obtain ⟨⟨a0, a1⟩, a2, a3⟩ := g2.four
      obtain ⟨⟨b0, b1⟩, b2, b3⟩ := g3.four
      have c0 : w3.drew.cell? ⟨w.heap.size + 1 + 1 + 1, 0, none⟩ = some (.bool false) := g4.cell 0
      have a4 := g2.free 0; have a5 := g2.free 1; have a6 := g2.free 2; have a7 := g2.free 3
      have b4 := g3.free 0; have b5 := g3.free 1; have b6 := g3.free 2; have b7 := g3.free 3
      have c1 := g4.free 0
      have hfnR : ∀ f, (F.inRound l).fn f := hW.fn
      have hlx := hx1.lt
      have hly := hy1.lt
      refine wpIn_region_J (fun V => ((V.cell? ⟨W.heap.size, 0, none⟩ = some (.string x1) ∧ V.cell? ⟨W.heap.size, 1, none⟩ = some (.string x2)) ∧ (V.cell? ⟨W.heap.size, 2, none⟩ = some (.string x3) ∧ V.cell? ⟨W.heap.size, 3, none⟩ = some (.string x4))) ∧ ((V.cell? ⟨W.heap.size + 1, 0, none⟩ = some (.string y1) ∧ V.cell? ⟨W.heap.size + 1, 1, none⟩ = some (.string y2)) ∧ (V.cell? ⟨W.heap.size + 1, 2, none⟩ = some (.string y3) ∧ V.cell? ⟨W.heap.size + 1, 3, none⟩ = some (.string y4)))) [] hm ?hCells0 (fun hCells => ?_)
      case hCells0 => exact ⟨hx1.four, hy1.four⟩
      generalize w3.drew = W5 at *
      refine takeJ hfnR (by kernel_rfl) 0 (v := ?_) rfl (by kernel_rfl) (fun _ _ _ h => h) (by kernel_rfl) hCells (Or.inl ⟨by rfl, ?_⟩) ?_
      rotate_left 1
      · intro w hSw; (try dsimp only at hSw); go_simp; (try with_reducible rfl)
      try simp only [Act.put, List.setIfInBounds_toArray, List.set_cons_zero, List.set_cons_succ]
      refine takeJ hfnR (by kernel_rfl) 1 (v := ?_) rfl (by kernel_rfl) (fun _ _ _ h => h) (by kernel_rfl) hCells (Or.inl ⟨by rfl, ?_⟩) ?_
      rotate_left 1
      · intro w hSw; (try dsimp only at hSw); go_simp; (try with_reducible rfl)
      try simp only [Act.put, List.setIfInBounds_toArray, List.set_cons_zero, List.set_cons_succ]
      refine oneJ 2 (by kernel_rfl) rfl (fun K hK => ?_)
      go_simp
      refine hK.out _ _ (holdJ ?_ (fun hCells => ?_))
      · clear hK; (try dsimp only); (exact ⟨⟨⟨cell_far4 hCells.1.1.1 (by omega) ⟨x1, x2, x3, x4⟩, cell_far4 hCells.1.1.2 (by omega) ⟨x1, x2, x3, x4⟩⟩, cell_far4 hCells.1.2.1 (by omega) ⟨x1, x2, x3, x4⟩, cell_far4 hCells.1.2.2 (by omega) ⟨x1, x2, x3, x4⟩⟩, ⟨cell_far4 hCells.2.1.1 (by omega) ⟨x1, x2, x3, x4⟩, cell_far4 hCells.2.1.2 (by omega) ⟨x1, x2, x3, x4⟩⟩, cell_far4 hCells.2.2.1 (by omega) ⟨x1, x2, x3, x4⟩, cell_far4 hCells.2.2.2 (by omega) ⟨x1, x2, x3, x4⟩⟩)
      clear hK K
      try simp only [Act.put, List.setIfInBounds_toArray, List.set_cons_zero, List.set_cons_succ]
      refine oneJ 3 (by kernel_rfl) rfl (fun K hK => ?_)
      go_simp
      refine hK.out _ _ (holdJ ?_ (fun hCells => ?_))
      · clear hK; (try dsimp only); (exact ⟨⟨⟨cell_far4 hCells.1.1.1 (by omega) ⟨y1, y2, y3, y4⟩, cell_far4 hCells.1.1.2 (by omega) ⟨y1, y2, y3, y4⟩⟩, cell_far4 hCells.1.2.1 (by omega) ⟨y1, y2, y3, y4⟩, cell_far4 hCells.1.2.2 (by omega) ⟨y1, y2, y3, y4⟩⟩, ⟨cell_far4 hCells.2.1.1 (by omega) ⟨y1, y2, y3, y4⟩, cell_far4 hCells.2.1.2 (by omega) ⟨y1, y2, y3, y4⟩⟩, cell_far4 hCells.2.2.1 (by omega) ⟨y1, y2, y3, y4⟩, cell_far4 hCells.2.2.2 (by omega) ⟨y1, y2, y3, y4⟩⟩)
      clear hK K
      try simp only [Act.put, List.setIfInBounds_toArray, List.set_cons_zero, List.set_cons_succ]
      refine oneJ 4 (by kernel_rfl) rfl (fun K hK => ?_)
      go_simp
      refine hK.out _ _ (holdJ ?_ (fun hCells => ?_))
      · clear hK; (try dsimp only); (exact ⟨⟨⟨(far1 hCells.1.1.1 (by omega)), (far1 hCells.1.1.2 (by omega))⟩, (far1 hCells.1.2.1 (by omega)), (far1 hCells.1.2.2 (by omega))⟩, ⟨(far1 hCells.2.1.1 (by omega)), (far1 hCells.2.1.2 (by omega))⟩, (far1 hCells.2.2.1 (by omega)), (far1 hCells.2.2.2 (by omega))⟩)
      clear hK K
      try simp only [Act.put, List.setIfInBounds_toArray, List.set_cons_zero, List.set_cons_succ]
      refine wpAnyJ_done (by kernel_rfl) (NoPan.normal ?_) _
      gi_wp2
      have HK6 := ((HK3.out.trans (keepsFrom_set4 _ _ (w.heap.size + 1) ⟨x1, x2, x3, x4⟩)).trans (keepsFrom_set4 _ _ (w.heap.size + 1 + 1) ⟨y1, y2, y3, y4⟩)).trans (keepsFrom_set _ _ ⟨w.heap.size + 1 + 1 + 1, 0, none⟩ (.bool true))
      unfold st4 at HK6
      refine ⟨HK6, k, ⟨rfl, hk, HTT.out, HD.out⟩, ?_, ?_, ?_, ?_⟩
      · have := ((g2.set4 ⟨x1, x2, x3, x4⟩).far4 (b := w.heap.size + 1 + 1) (by omega) ⟨y1, y2, y3, y4⟩).far (p := ⟨w.heap.size + 1 + 1 + 1, 0, none⟩) (by simp) (.bool true)
        unfold st4 at this
        have e : bcs (L[k]?.getD .zero) = bcs ⟨x1, x2, x3, x4⟩ := by rw [HX.out, List.getD_eq_getElem?_getD]
        rw [e]
        exact this
      · have := ((g3.far4 (b := w.heap.size + 1) (by omega) ⟨x1, x2, x3, x4⟩).set4 ⟨y1, y2, y3, y4⟩).far (p := ⟨w.heap.size + 1 + 1 + 1, 0, none⟩) (by simp) (.bool true)
        unfold st4 at this
        have e : bcs (L[k + 1]?.getD .zero) = bcs ⟨y1, y2, y3, y4⟩ := by rw [HY.out, List.getD_eq_getElem?_getD]
        rw [e]
        exact this
      · have := ((g4.far4 (b := w.heap.size + 1) (by omega) ⟨x1, x2, x3, x4⟩).far4 (b := w.heap.size + 1 + 1) (by omega) ⟨y1, y2, y3, y4⟩).set 0 (.bool true)
        unfold st4 at this
        exact this
      · have := ((below_set4 (below_set4 HG3.out (b := w.heap.size + 1) (by omega) ⟨x1, x2, x3, x4⟩) (b := w.heap.size + 1 + 1) (by omega) ⟨y1, y2, y3, y4⟩).setCell (p := ⟨w.heap.size + 1 + 1 + 1, 0, none⟩) (by simp; omega) (.bool true))
        unfold st4 at this
        exact this
    · have HTT : Hid (t k = false) := Lib.hid (by rw [HTK.out, decide_eq_false hlt])
      gi_wp2_with (gi_at_call 31; refine (CallsIn.inRound l (hW.tr (TC.out _))).mono ?_; rintro e w3 ⟨rfl, hb3⟩)
      refine ⟨keepsFrom_below hb3, KeepS.of_below hb3 (fun g hg => Nat.lt_of_lt_of_le (HS.out g hg) hs6), ?_, g1.pass hb3, g2.pass hb3, g3.pass hb3, g4.pass hb3, Nat.le_trans hs6 hb3.size, HG2.out.trans (hb3.mono HG2.out.size)⟩
      intro m hm
      rcases Nat.lt_or_eq_of_le (Nat.le_of_lt_succ hm) with h | rfl
      · exact HD.out m h
      · exact HTT.out
  case done =>
    rintro D W hD ⟨hd, g1, g2, g3, g4, hs5, gB⟩ hK
    obtain ⟨bb, off, rfl, hb, hcs⟩ := HR.out.2 (by rw [HL.out]; omega)
    have hcN := hcs N (by rw [HL.out]; omega)
    have hNb : N ≤ 1000000000 := by have := HR.out.1; have := HL.out; omega
    have HD := Lib.hid hd
    have HG := Lib.hid gB
    obtain ⟨x, hx⟩ : ∃ x, x = L.getD N .zero := ⟨_, rfl⟩
    rw [← hx] at hcN
    have HX := Lib.hid hx
    obtain ⟨x1, x2, x3, x4⟩ := x
    have q0 := (gB.cell (p := ⟨bb, off + N * 4, none⟩) hb).trans hcN.1.1
    have q1 := (gB.cell (p := ⟨bb, off + N * 4 + 1, none⟩) hb).trans hcN.1.2
    have q2 := (gB.cell (p := ⟨bb, off + N * 4 + 2, none⟩) hb).trans hcN.2.1
    have q3 := (gB.cell (p := ⟨bb, off + N * 4 + 3, none⟩) hb).trans hcN.2.2
    clear hcs hcN hx hd gB
    have hwN : wrap64 (N : Int) = (N : Int) := by unfold wrap64; omega
    gi_wp2_with fail
    have hB6 : Below W.heap.size W (W.alloc (.cells #[.string x1, .string x2, .string x3, .string x4] 56)).drew := (below_alloc W _).drew
    have hx1 : Blk (W.alloc (.cells #[.string x1, .string x2, .string x3, .string x4] 56)).drew W.heap.size #[.string x1, .string x2, .string x3, .string x4] 56 := (Blk.new W _ 56).drew
    have g2 := g2.pass hB6
    have g3 := g3.pass hB6
    have g4 := g4.pass hB6
    have HK3 := Lib.hid (show KeepsFrom (w.heap.size + 1 + 1 + 1 + 1 + 1) W _ from keepsFrom_below hB6)
    have HG3 := Lib.hid (HG.out.trans (hB6.mono HG.out.size))
    have HDK := Lib.hid (And.intro hD hK)
    clear hB6 q0 q1 q2 q3 hK hD
    obtain ⟨⟨a0, a1⟩, a2, a3⟩ := g2.four
    obtain ⟨⟨b0, b1⟩, b2, b3⟩ := g3.four
    have c0 := g4.cell 0
    have c0 : (W.alloc (.cells #[.string x1, .string x2, .string x3, .string x4] 56)).drew.cell? ⟨w.heap.size + 1 + 1 + 1, 0, none⟩ = some (.bool false) := c0
    have a4 := g2.free 0; have a5 := g2.free 1; have a6 := g2.free 2; have a7 := g2.free 3
    have b4 := g3.free 0; have b5 := g3.free 1; have b6 := g3.free 2; have b7 := g3.free 3
    have c1 := g4.free 0
    refine wpIn_region_J (fun V => ((V.cell? ⟨W.heap.size, 0, none⟩ = some (.string x1) ∧ V.cell? ⟨W.heap.size, 1, none⟩ = some (.string x2)) ∧ (V.cell? ⟨W.heap.size, 2, none⟩ = some (.string x3) ∧ V.cell? ⟨W.heap.size, 3, none⟩ = some (.string x4)))) [] hm ?hCells0 (fun hCells => ?_)
    case hCells0 => exact hx1.four
    generalize (W.alloc (.cells #[.string x1, .string x2, .string x3, .string x4] 56)).drew = W5 at *
    refine takeJ hfnR (by kernel_rfl) 0 (v := ?_) rfl (by kernel_rfl) (fun _ _ _ h => h) (by kernel_rfl) hCells (Or.inl ⟨by rfl, ?_⟩) ?_
    rotate_left 1
    · intro w hSw; (try dsimp only at hSw); go_simp; (try with_reducible rfl)
    try simp only [Act.put, List.setIfInBounds_toArray, List.set_cons_zero, List.set_cons_succ]
    refine takeJ hfnR (by kernel_rfl) 1 (v := ?_) rfl (by kernel_rfl) (fun _ _ _ h => h) (by kernel_rfl) hCells (Or.inl ⟨by rfl, ?_⟩) ?_
    rotate_left 1
    · intro w hSw; (try dsimp only at hSw); go_simp; (try with_reducible rfl)
    try simp only [Act.put, List.setIfInBounds_toArray, List.set_cons_zero, List.set_cons_succ]
    refine oneJ 2 (by kernel_rfl) rfl (fun K hK => ?_)
    go_simp
    refine hK.out _ _ (holdJ ?_ (fun hCells => ?_))
    · clear hK; (try dsimp only); (exact ⟨⟨cell_far4 hCells.1.1 (by omega) ⟨x1, x2, x3, x4⟩, cell_far4 hCells.1.2 (by omega) ⟨x1, x2, x3, x4⟩⟩, cell_far4 hCells.2.1 (by omega) ⟨x1, x2, x3, x4⟩, cell_far4 hCells.2.2 (by omega) ⟨x1, x2, x3, x4⟩⟩)
    clear hK K
    try simp only [Act.put, List.setIfInBounds_toArray, List.set_cons_zero, List.set_cons_succ]
    refine oneJ 3 (by kernel_rfl) rfl (fun K hK => ?_)
    go_simp
    refine hK.out _ _ (holdJ ?_ (fun hCells => ?_))
    · clear hK; (try dsimp only); (exact ⟨⟨cell_far4 hCells.1.1 (by omega) ⟨x1, x2, x3, x4⟩, cell_far4 hCells.1.2 (by omega) ⟨x1, x2, x3, x4⟩⟩, cell_far4 hCells.2.1 (by omega) ⟨x1, x2, x3, x4⟩, cell_far4 hCells.2.2 (by omega) ⟨x1, x2, x3, x4⟩⟩)
    clear hK K
    try simp only [Act.put, List.setIfInBounds_toArray, List.set_cons_zero, List.set_cons_succ]
    refine oneJ 4 (by kernel_rfl) rfl (fun K hK => ?_)
    go_simp
    refine hK.out _ _ (holdJ ?_ (fun hCells => ?_))
    · clear hK; (try dsimp only); (exact ⟨⟨(far1 hCells.1.1 (by omega)), (far1 hCells.1.2 (by omega))⟩, (far1 hCells.2.1 (by omega)), (far1 hCells.2.2 (by omega))⟩)
    clear hK K
    try simp only [Act.put, List.setIfInBounds_toArray, List.set_cons_zero, List.set_cons_succ]
    refine wpAnyJ_done (by kernel_rfl) (NoPan.normal ?_) _
    gi_wp2
    have HK6 := ((HK3.out.trans (keepsFrom_set4 _ _ (w.heap.size + 1) ⟨x1, x2, x3, x4⟩)).trans (keepsFrom_set4 _ _ (w.heap.size + 1 + 1) ⟨x1, x2, x3, x4⟩)).trans (keepsFrom_set _ _ ⟨w.heap.size + 1 + 1 + 1, 0, none⟩ (.bool false))
    have hD5 : w.heap.size + 1 + 1 + 1 + 1 + 1 ≤ D := by have := HDK.out.1; simp at this; omega
    have HK7 := HK6.same D _ hD5 HDK.out.2 rfl
    have k2 := ((g2.set4 ⟨x1, x2, x3, x4⟩).far4 (b := w.heap.size + 1 + 1) (by omega) ⟨x1, x2, x3, x4⟩).far (p := ⟨w.heap.size + 1 + 1 + 1, 0, none⟩) (by simp) (.bool false)
    have k3 := ((g3.far4 (b := w.heap.size + 1) (by omega) ⟨x1, x2, x3, x4⟩).set4 ⟨x1, x2, x3, x4⟩).far (p := ⟨w.heap.size + 1 + 1 + 1, 0, none⟩) (by simp) (.bool false)
    have k4 := ((g4.far4 (b := w.heap.size + 1) (by omega) ⟨x1, x2, x3, x4⟩).far4 (b := w.heap.size + 1 + 1) (by omega) ⟨x1, x2, x3, x4⟩).set 0 (.bool false)
    have kB := ((below_set4 (below_set4 HG3.out (b := w.heap.size + 1) (by omega) ⟨x1, x2, x3, x4⟩) (b := w.heap.size + 1 + 1) (by omega) ⟨x1, x2, x3, x4⟩).setCell (p := ⟨w.heap.size + 1 + 1 + 1, 0, none⟩) (by simp; omega) (.bool false))
    unfold st4 at HK7 k2 k3 k4 kB
    refine ⟨by simp, .inl ⟨_, _, rfl, run_takeDeferred HK7, ?_⟩⟩
    refine ⟨_, results_bbx rfl rfl rfl rfl (k2.put _ (by omega)) (k3.put _ (by omega)) (k4.put _ (by omega)), N, N, false, ?_, .inr ⟨rfl, rfl, rfl, HD.out⟩, ?_⟩
    · rw [← HX.out]
    · exact kB.trans (belowK_b (w := w) (Nat.le_refl _) _ D _ _ (by omega) HK7 rfl rfl)
  case stop =>
    rintro D cd k W hD hk ⟨i, ⟨rfl, hi1, hi2, hi3⟩, g2, g3, g4, gB⟩ hK
    gi_wp2
    refine ⟨by simp, .inl ⟨_, _, rfl, run_takeDeferred hK, ?_⟩⟩
    refine ⟨_, results_bbx rfl rfl rfl rfl (g2.put _ (by simp at hD; omega)) (g3.put _ (by simp at hD; omega)) (g4.put _ (by simp at hD; omega)), i, i + 1, true, rfl, .inl ⟨rfl, hi1, rfl, hi2, hi3⟩, ?_⟩
    exact gB.trans (belowK_b (w := w) (Nat.le_refl _) _ D _ _ (by simp at hD; omega) hK rfl rfl)
end Go.Proofs.Cr
namespace Go.Proofs.Cr
theorem short_fr {d : Nat} {a b : ByteArray} (h : shortP d a b = true) : Fr a b (qv a b) ∧ sm d (qv a b) := by
  simp only [shortP, Bool.and_eq_true, decide_eq_true_eq] at h
  obtain ⟨h1, h2, h3⟩ := h
  have hf := fr_of_chk h3
  refine ⟨hf, ?_, ?_⟩
  · have e : (qv a b).num.natAbs = nv a := by have := hf.nvs.1; omega
    rw [e]
    exact Nat.lt_of_lt_of_le (nv_lt_size (chk_ok h3).1) (Nat.pow_le_pow_right (by decide) h1)
  · rw [← hf.nvs.2]
    exact Nat.lt_of_lt_of_le (nv_lt_size (chk_ok h3).2.1) (Nat.pow_le_pow_right (by decide) h2)
/-- The coverage and the chance of a bend. -/
def qx (L : List Bd) (k : Nat) : Rat := qv (L.getD k .zero).cn (L.getD k .zero).cd
def qy (L : List Bd) (k : Nat) : Rat := qv (L.getD k .zero).hn (L.getD k .zero).hd
def slq (L : List Bd) (k : Nat) : Rat := (qy L (k + 1) - qy L k) / (qx L (k + 1) - qx L k)
def zeroBd : Bd := ⟨⟨#[48]⟩, ⟨#[49]⟩, ⟨#[48]⟩, ⟨#[49]⟩⟩
/-- A valid curve, N pieces. -/
structure CurveP (L : List Bd) (N : Nat) : Prop where
  len : L.length = N + 1
  pos : 1 ≤ N
  most : N ≤ 63
  zero : L.getD 0 .zero = zeroBd
  sh : ∀ k, k ≤ N → shortB (L.getD k .zero) = true
  top : qy L N ≤ 1
  up : ∀ k, k < N → qx L k < qx L (k + 1) ∧ qy L k ≤ qy L (k + 1)
  cc : ∀ k, k + 1 < N → slq L (k + 1) ≤ slq L k
theorem shortB_fr {x : Bd} (h : shortB x = true) : (Fr x.cn x.cd (qv x.cn x.cd) ∧ sm 18 (qv x.cn x.cd)) ∧ (Fr x.hn x.hd (qv x.hn x.hd) ∧ sm 18 (qv x.hn x.hd)) := by
  simp only [shortB, Bool.and_eq_true] at h
  exact ⟨short_fr h.1, short_fr h.2⟩
theorem rise_ok {L : List Bd} {k : Nat} (h1 : shortB (L.getD k .zero) = true) (h2 : shortB (L.getD (k + 1) .zero) = true) (hx : qx L k < qx L (k + 1)) (hy : qy L k ≤ qy L (k + 1)) :
    RiseOK (qx L k) (qy L k) (qx L (k + 1)) (qy L (k + 1)) := by
  obtain ⟨⟨f1, s1⟩, f2, s2⟩ := shortB_fr h1
  obtain ⟨⟨f3, s3⟩, f4, s4⟩ := shortB_fr h2
  have d1 : 0 ≤ qy L (k + 1) - qy L k := by grind
  have d2 : 0 < qx L (k + 1) - qx L k := by grind
  have n2 : qx L (k + 1) - qx L k ≠ 0 := by grind
  have m1 : sm 36 (qy L (k + 1) - qy L k) := sm.sub s4 s2 f4.1 f2.1
  have m2 : sm 36 (qx L (k + 1) - qx L k) := sm.sub s3 s1 f3.1 f1.1
  have m3 : sm 72 ((qy L (k + 1) - qy L k) / (qx L (k + 1) - qx L k)) := sm.div m1 m2 (by grind) n2
  exact ⟨f1.ok.1, f2.ok.1, f3.ok.1, f4.ok.1, m1.ok (by decide) d1, m2.ok (by decide) (by grind), n2, m3.ok (by decide) (by rw [Rat.div_def]; exact Rat.mul_nonneg d1 (Rat.le_of_lt (Rat.inv_pos.2 d2)))⟩
theorem cmpQ_lt {p q : Rat} (h : p < q) : cmpQ p q = -1 := if_pos h
theorem cmpQ_gt {p q : Rat} (h : q < p) : cmpQ p q = 1 := by
  unfold cmpQ
  rw [if_neg (by grind), if_pos h]
theorem cmpQ_le {p q : Rat} (h : ¬ q < p) : ¬ 0 < cmpQ p q := by
  unfold cmpQ
  rw [if_neg h]
  split <;> decide
theorem cmpQ_ge {p q : Rat} (h : ¬ p < q) : 0 ≤ cmpQ p q := by
  unfold cmpQ
  rw [if_neg h]
  split <;> decide
end Go.Proofs.Cr
namespace Go.Proofs.Cr
open Go.RowKit Go.Shelf
attribute [local go_sem] Oper.semAt_some

/-- The package's 'zero' and 'one' lie as they were laid. -/
def ZO (w : World) : Prop := ((w.cell? ⟨0, 0, none⟩ = some (.string ⟨#[48]⟩) ∧ w.cell? ⟨0, 1, none⟩ = some (.string ⟨#[49]⟩)) ∧ (w.cell? ⟨1, 0, none⟩ = some (.string ⟨#[49]⟩) ∧ w.cell? ⟨1, 1, none⟩ = some (.string ⟨#[49]⟩)))
theorem ZO.pass {w w' : World} (h : ZO w) (hb : Below w.heap.size w w') : ZO w' := ⟨⟨pc hb h.1.1, pc hb h.1.2⟩, pc hb h.2.1, pc hb h.2.2⟩
theorem ZO.below {w w' : World} {n : Nat} (h : ZO w) (hb : Below n w w') (hn : w.heap.size ≤ n) : ZO w' := h.pass (hb.mono hn)
/-- Where the loop is: what has been looked at is in order; the slope of the last piece. -/
def LastIs (L : List Bd) (n k : Nat) (W : World) (pv : Value) : Prop :=
  (k = 0 ∧ pv = .pointer none) ∨ ∃ j b, k = j + 1 ∧ pv = .pointer (some ⟨b, 0, none⟩) ∧ n ≤ b ∧ Blk W b #[.string (qN (slq L j)), .string (qD (slq L j))] 46
theorem LastIs.stab {B n : Nat} {L : List Bd} {pv : Value} : StabI B (fun _ => False) (fun k W => LastIs L n k W pv) := by
  rintro s W W' row (⟨h1, h2⟩ | ⟨j, b, h1, h2, h3, h4⟩) hg hr
  · exact .inl ⟨h1, h2⟩
  · exact .inr ⟨j, b, h1, h2, h3, stabI_blk (B := B) (C := fun _ => False) (cs := fun _ => #[.string (qN (slq L j)), .string (qD (slq L j))]) (fun h => h) s W W' row h4 hg hr⟩
theorem LastIs.pass {L : List Bd} {n k : Nat} {W W' : World} {pv : Value} (h : LastIs L n k W pv) (hb : Below W.heap.size W W') : LastIs L n k W' pv := by
  rcases h with ⟨h1, h2⟩ | ⟨j, b, h1, h2, h3, h4⟩
  · exact .inl ⟨h1, h2⟩
  · exact .inr ⟨j, b, h1, h2, h3, h4.pass hb⟩
theorem results_s24 {fn : Func} {p : Tmp} {tmps : Array Value} {w : World} {g : Nat} {x : Value} {t : TypeId} (h : fn.results = #[.cell p 24]) (hp : tmps.getD p undef = .pointer (some ⟨g, 0, none⟩)) (hg : Blk w g #[x] t) :
    (results fn tmps).run Tryz.prog w = .ok x w := by
  have hp' : tmps[p]?.getD undef = .pointer (some ⟨g, 0, none⟩) := by simpa using hp
  simp [results, h, hp', asAddr, load24 hg]
def CurvePost (L : List Bd) (N : Nat) (w : World) (e : Ending) (w' : World) : Prop := ((e = .returned (.int .i64 0) ∧ CurveP L N) ∨ (e = .returned (.int .i64 2) ∧ ¬ CurveP L N)) ∧ Below w.heap.size w w'
set_option maxRecDepth 100000 in
set_option maxHeartbeats 8000000 in
theorem curve_good (n : Nat) (hn : 5 ≤ n) (A : Option Addr) (c N : Nat) (L : List Bd) (w : World) (hr : RdB w A L) (hN : L.length = N + 1) (h1 : 1 ≤ N) (h63 : N ≤ 63) (hc : N + 1 ≤ c)
    (hz : L.getD 0 .zero = zeroBd) (hsh : ∀ k, k ≤ N → shortB (L.getD k .zero) = true) (htop : qy L N ≤ 1) (hT : TabW w) (hZ : ZO w) :
    CallsIn Fence.wide n Tryz.prog 22 #[.slice A (N + 1 : Nat) c] w (CurvePost L N w) := by
  have hW := wide_wide
  have hro := hW.ro
  have h0 : 1 ≤ n := by omega
  have hfm := hW.fn 103
  have hm : Tryz.prog.follows .mixedOrders = true := by kernel_rfl
  have hfnR : ∀ f, Fence.wide.fn f := hW.fn
  have hX1 := Blk.new w #[.int .i64 0] 24
  have HW1 := Lib.hid (below_alloc w (.cells #[.int .i64 0] 24))
  have HR := Lib.hid hr
  have HL := Lib.hid hN
  have HTZ := Lib.hid (And.intro hT hZ)
  have HS := Lib.hid hsh
  have TW := Lib.hid (fun W => within_any ((N : Int) + 1) 2 64 W)
  have e1 : (decide ((2 : Int) ≤ (N : Int) + 1) && decide ((N : Int) + 1 ≤ 64)) = true := by simp; omega
  rw [e1] at TW
  obtain ⟨b, off, rfl, hb, hcs⟩ := hr.2 (by omega)
  have hz0 := hcs 0 (by omega)
  have hzN := hcs N (by omega)
  rw [hz, Nat.zero_mul, Nat.add_zero] at hz0
  have HZ0 := Lib.hid hz
  have HTOP := Lib.hid htop
  have g00 := hZ.1.1; have g01 := hZ.1.2
  obtain ⟨y, hy⟩ : ∃ y, y = L.getD N .zero := ⟨_, rfl⟩
  rw [← hy] at hzN
  have HY := Lib.hid hy
  clear hcs hN hr hT hZ hsh htop hz e1 hy
  obtain ⟨W1, hW1⟩ : ∃ W1, W1 = (w.alloc (.cells #[.int .i64 0] 24)).drew := ⟨_, rfl⟩
  refine callsIn_of_wp_marks Tryz.func22 rfl (hW.fn _) ?_ hW.ro
  simp only [Tryz.ntmps22, List.size_toArray, List.length_cons, List.length_nil, Nat.reduceAdd, Nat.reduceSub, Array.replicate_succ, Array.replicate_zero, List.push_toArray, List.append_toArray, List.nil_append, List.cons_append]
  gi_wp2
  have kc : ∀ {p v}, w.cell? p = some v → (w.alloc (.cells #[.int .i64 0] 24)).drew.cell? p = some v := fun h => pc HW1.out.drew h
  refine wpIn_region_J (fun W => ((W.cell? ⟨b, off, none⟩ = some (.string ⟨#[48]⟩) ∧ W.cell? ⟨b, off + 1, none⟩ = some (.string ⟨#[49]⟩)) ∧ (W.cell? ⟨b, off + 2, none⟩ = some (.string ⟨#[48]⟩) ∧ W.cell? ⟨b, off + 3, none⟩ = some (.string ⟨#[49]⟩))) ∧ W.cell? ⟨0, 0, none⟩ = some (.string ⟨#[48]⟩) ∧ W.cell? ⟨0, 1, none⟩ = some (.string ⟨#[49]⟩)) [] hm ?hCells0 (fun hCells => ?_)
  case hCells0 => exact ⟨⟨⟨kc hz0.1.1, kc hz0.1.2⟩, kc hz0.2.1, kc hz0.2.2⟩, kc g00, kc g01⟩
  clear hz0 g00 g01 kc hW1
  refine takeB hfnR (by kernel_rfl) 0 (v := ?_) rfl (by kernel_rfl) (fun _ _ _ h => h) (by kernel_rfl) hCells (Or.inl ⟨by rfl, ?_⟩) ?_
  rotate_left 1
  · intro w hSw; (try dsimp only at hSw); go_simp; (try with_reducible rfl)
  try simp only [Act.put, List.setIfInBounds_toArray, List.set_cons_zero, List.set_cons_succ]
  refine takeB hfnR (by kernel_rfl) 1 (v := ?_) rfl (by kernel_rfl) (fun _ _ _ h => h) (by kernel_rfl) hCells (Or.inl ⟨by rfl, ?_⟩) ?_
  rotate_left 1
  · intro w hSw; (try dsimp only at hSw); go_simp; (try with_reducible rfl)
  try simp only [Act.put, List.setIfInBounds_toArray, List.set_cons_zero, List.set_cons_succ]
  refine oneJ 2 (by kernel_rfl) rfl (fun K hK => ?_)
  go_simp
  gi_wp2_with (gi_at_call 49; refine (hW.tr (TW.out _)).mono ?_; rintro e w2 ⟨rfl, rfl⟩)
  refine hK.out _ _ (holdJ ?_ (fun hCells => ?_))
  · clear hK; (try dsimp only); (exact hCells)
  clear hK K
  try simp only [Act.put, List.setIfInBounds_toArray, List.set_cons_zero, List.set_cons_succ]
  refine takeB hfnR (by kernel_rfl) 3 (v := ?_) rfl (by kernel_rfl) (fun _ _ _ h => h) (by kernel_rfl) hCells (Or.inl ⟨by rfl, ?_⟩) ?_
  rotate_left 1
  · intro w hSw; (try dsimp only at hSw); go_simp; (try with_reducible rfl)
  try simp only [Act.put, List.setIfInBounds_toArray, List.set_cons_zero, List.set_cons_succ]
  refine takeB hfnR (by kernel_rfl) 4 (v := ?_) rfl (by kernel_rfl) (fun _ _ _ h => h) (by kernel_rfl) hCells (Or.inl ⟨by rfl, ?_⟩) ?_
  rotate_left 1
  · intro w hSw; (try dsimp only at hSw); go_simp; (try with_reducible rfl)
  try simp only [Act.put, List.setIfInBounds_toArray, List.set_cons_zero, List.set_cons_succ]
  refine takeB hfnR (by kernel_rfl) 5 (v := ?_) rfl (by kernel_rfl) (fun _ _ _ h => h) (by kernel_rfl) hCells (Or.inl ⟨by rfl, ?_⟩) ?_
  rotate_left 1
  · intro w hSw; (try dsimp only at hSw); go_simp; (try with_reducible rfl)
  try simp only [Act.put, List.setIfInBounds_toArray, List.set_cons_zero, List.set_cons_succ]
  refine takeB hfnR (by kernel_rfl) 6 (v := ?_) rfl (by kernel_rfl) (fun _ _ _ h => h) (by kernel_rfl) hCells (Or.inl ⟨by rfl, ?_⟩) ?_
  rotate_left 1
  · intro w hSw; (try dsimp only at hSw); go_simp; (try with_reducible rfl)
  try simp only [Act.put, List.setIfInBounds_toArray, List.set_cons_zero, List.set_cons_succ]
  refine takeB hfnR (by kernel_rfl) 7 (v := ?_) rfl (by kernel_rfl) (fun _ _ _ h => h) (by kernel_rfl) hCells (Or.inl ⟨by rfl, ?_⟩) ?_
  rotate_left 1
  · intro w hSw; (try dsimp only at hSw); go_simp; (try with_reducible rfl)
  try simp only [Act.put, List.setIfInBounds_toArray, List.set_cons_zero, List.set_cons_succ]
  refine takeB hfnR (by kernel_rfl) 8 (v := ?_) rfl (by kernel_rfl) (fun _ _ _ h => h) (by kernel_rfl) hCells (Or.inl ⟨by rfl, ?_⟩) ?_
  rotate_left 1
  · intro w hSw; (try dsimp only at hSw); go_simp; (try with_reducible rfl)
  try simp only [Act.put, List.setIfInBounds_toArray, List.set_cons_zero, List.set_cons_succ]
  refine takeB hfnR (by kernel_rfl) 9 (v := ?_) rfl (by kernel_rfl) (fun _ _ _ h => h) (by kernel_rfl) hCells (Or.inl ⟨by rfl, ?_⟩) ?_
  rotate_left 1
  · intro w hSw; (try dsimp only at hSw); go_simp; (try with_reducible rfl)
  try simp only [Act.put, List.setIfInBounds_toArray, List.set_cons_zero, List.set_cons_succ]
  refine takeB hfnR (by kernel_rfl) 10 (v := ?_) rfl (by kernel_rfl) (fun _ _ _ h => h) (by kernel_rfl) hCells (Or.inl ⟨by rfl, ?_⟩) ?_
  rotate_left 1
  · intro w hSw; (try dsimp only at hSw); go_simp; (try with_reducible rfl)
  try simp only [Act.put, List.setIfInBounds_toArray, List.set_cons_zero, List.set_cons_succ]
  refine takeB hfnR (by kernel_rfl) 11 (v := ?_) rfl (by kernel_rfl) (fun _ _ _ h => h) (by kernel_rfl) hCells (Or.inl ⟨by rfl, ?_⟩) ?_
  rotate_left 1
  · intro w hSw; (try dsimp only at hSw); go_simp; (try with_reducible rfl)
  try simp only [Act.put, List.setIfInBounds_toArray, List.set_cons_zero, List.set_cons_succ]
  refine takeB hfnR (by kernel_rfl) 12 (v := ?_) rfl (by kernel_rfl) (fun _ _ _ h => h) (by kernel_rfl) hCells (Or.inl ⟨by rfl, ?_⟩) ?_
  rotate_left 1
  · intro w hSw; (try dsimp only at hSw); go_simp; (try with_reducible rfl)
  try simp only [Act.put, List.setIfInBounds_toArray, List.set_cons_zero, List.set_cons_succ]
  refine wpAnyJ_done (by kernel_rfl) (NoPan.normal ?_) _
  clear hCells
  gi_wp2
  obtain ⟨y1, y2, y3, y4⟩ := y
  have HX2 := Lib.hid (show Blk (w.alloc (.cells #[.int .i64 0] 24)).drew.drew w.heap.size #[.int .i64 0] 24 from hX1)
  have HB2 := Lib.hid (show Below w.heap.size w (w.alloc (.cells #[.int .i64 0] 24)).drew.drew from HW1.out.drew.drew)
  have TC := Lib.hid (contains_bend 54 #[] (some ⟨b, off, none⟩) c L (fun k => !shortB (L.getD k .zero)) _ (HR.out.below HB2.out (Nat.le_refl _)) (fun _ _ => rfl) (fun k W _ _ => curve1_any _ _ _ _ W))
  have hany : anyN (fun k => !shortB (L.getD k .zero)) L.length = false := by
    rw [← Bool.not_eq_true]
    intro h
    obtain ⟨k, hk, hk2⟩ := List.any_eq_true.1 h
    rw [List.mem_range, HL.out] at hk
    rw [HS.out k (by omega)] at hk2
    cases hk2
  rw [hany, HL.out] at TC
  have TP := Lib.hid (fun W => compare_any y3 y4 ⟨#[49]⟩ ⟨#[49]⟩ W)
  have hrle : ¬ (0 < cmpS y3 y4 ⟨#[49]⟩ ⟨#[49]⟩) := by
    have hf := (shortB_fr (HS.out N (Nat.le_refl _))).2.1
    rw [← HY.out] at hf
    have h1 : okQ 1 := ⟨by decide, Nat.lt_trans (by decide : (1 : Rat).num.natAbs < 9223372036854775808) pow19_lt, Nat.lt_trans (by decide : (1 : Rat).den < 9223372036854775808) pow19_lt⟩
    have e1 : (⟨#[49]⟩ : ByteArray) = qN 1 := by kernel_rfl
    have e2 : (⟨#[49]⟩ : ByteArray) = qD 1 := by kernel_rfl
    have h1f := h1.fr
    rw [← e1, ← e2] at h1f
    have ht := HTOP.out
    unfold qy at ht
    rw [← HY.out] at ht
    rw [cmpS_q hf h1f]
    split
    · decide
    · rw [if_neg (Rat.not_lt.2 ht)]; decide
  obtain ⟨r, hrr⟩ : ∃ r, r = cmpS y3 y4 ⟨#[49]⟩ ⟨#[49]⟩ := ⟨_, rfl⟩
  rw [← hrr] at TP hrle
  clear hrr hany
  have hNb : N ≤ 1000000000 := by omega
  have hwN : wrap64 (N : Int) = (N : Int) := by unfold wrap64; omega
  have hNN : (N : Int) < (N : Int) + 1 := by omega
  have hwI : IntKind.i64.wrap (N : Int) = (N : Int) := by simp [IntKind.wrap_i64]; omega
  have kc : ∀ {p v}, w.cell? p = some v → (w.alloc (.cells #[.int .i64 0] 24)).drew.drew.cell? p = some v := fun h => pc HB2.out h
  have g10 := HTZ.out.2.2.1; have g11 := HTZ.out.2.2.2
  refine wpIn_region_J (fun W => (W.cell? ⟨b, off + N * 4 + 2, none⟩ = some (.string y3) ∧ W.cell? ⟨b, off + N * 4 + 3, none⟩ = some (.string y4)) ∧ W.cell? ⟨1, 0, none⟩ = some (.string ⟨#[49]⟩) ∧ W.cell? ⟨1, 1, none⟩ = some (.string ⟨#[49]⟩)) [] hm ?hCells0 (fun hCells => ?_)
  case hCells0 => exact ⟨⟨kc hzN.2.1, kc hzN.2.2⟩, kc g10, kc g11⟩
  clear hzN kc g10 g11 hX1
  generalize (w.alloc (.cells #[.int .i64 0] 24)).drew.drew = W2 at *
  refine takeB hfnR (by kernel_rfl) 0 (v := ?_) rfl (by kernel_rfl) (fun _ _ _ h => h) (by kernel_rfl) hCells (Or.inl ⟨by rfl, ?_⟩) ?_
  rotate_left 1
  · intro w hSw; (try dsimp only at hSw); go_simp; (try with_reducible rfl)
  try simp only [Act.put, List.setIfInBounds_toArray, List.set_cons_zero, List.set_cons_succ]
  refine oneJ 1 (by kernel_rfl) rfl (fun K hK => ?_)
  go_simp
  gi_wp2_with (gi_at_call 53; refine (hW.tr TC.out).mono ?_; rintro e w3 ⟨rfl, hb3⟩)
  refine hK.out _ _ (holdJ ?_ (fun hCells => ?_))
  · clear hK; (try dsimp only); (exact ⟨⟨pc hb3 hCells.1.1, pc hb3 hCells.1.2⟩, pc hb3 hCells.2.1, pc hb3 hCells.2.2⟩)
  clear hK K
  try simp only [Act.put, List.setIfInBounds_toArray, List.set_cons_zero, List.set_cons_succ]
  refine takeB hfnR (by kernel_rfl) 2 (v := ?_) rfl (by kernel_rfl) (fun _ _ _ h => h) (by kernel_rfl) hCells (Or.inl ⟨by rfl, ?_⟩) ?_
  rotate_left 1
  · intro w hSw; (try dsimp only at hSw); go_simp; (try with_reducible rfl)
  try simp only [Act.put, List.setIfInBounds_toArray, List.set_cons_zero, List.set_cons_succ]
  refine takeB hfnR (by kernel_rfl) 3 (v := ?_) rfl (by kernel_rfl) (fun _ _ _ h => h) (by kernel_rfl) hCells (Or.inl ⟨by rfl, ?_⟩) ?_
  rotate_left 1
  · intro w hSw; (try dsimp only at hSw); go_simp; (try with_reducible rfl)
  try simp only [Act.put, List.setIfInBounds_toArray, List.set_cons_zero, List.set_cons_succ]
  refine takeB hfnR (by kernel_rfl) 4 (v := ?_) rfl (by kernel_rfl) (fun _ _ _ h => h) (by kernel_rfl) hCells (Or.inl ⟨by rfl, ?_⟩) ?_
  rotate_left 1
  · intro w hSw; (try dsimp only at hSw); go_simp; (try with_reducible rfl)
  try simp only [Act.put, List.setIfInBounds_toArray, List.set_cons_zero, List.set_cons_succ]
  refine takeB hfnR (by kernel_rfl) 5 (v := ?_) rfl (by kernel_rfl) (fun _ _ _ h => h) (by kernel_rfl) hCells (Or.inl ⟨by rfl, ?_⟩) ?_
  rotate_left 1
  · intro w hSw; (try dsimp only at hSw); go_simp; (try with_reducible rfl)
  try simp only [Act.put, List.setIfInBounds_toArray, List.set_cons_zero, List.set_cons_succ]
  refine takeB hfnR (by kernel_rfl) 6 (v := ?_) rfl (by kernel_rfl) (fun _ _ _ h => h) (by kernel_rfl) hCells (Or.inl ⟨by rfl, ?_⟩) ?_
  rotate_left 1
  · intro w hSw; (try dsimp only at hSw); go_simp; (try with_reducible rfl)
  try simp only [Act.put, List.setIfInBounds_toArray, List.set_cons_zero, List.set_cons_succ]
  refine takeB hfnR (by kernel_rfl) 7 (v := ?_) rfl (by kernel_rfl) (fun _ _ _ h => h) (by kernel_rfl) hCells (Or.inl ⟨by rfl, ?_⟩) ?_
  rotate_left 1
  · intro w hSw; (try dsimp only at hSw); go_simp; (try with_reducible rfl)
  try simp only [Act.put, List.setIfInBounds_toArray, List.set_cons_zero, List.set_cons_succ]
  refine takeB hfnR (by kernel_rfl) 8 (v := ?_) rfl (by kernel_rfl) (fun _ _ _ h => h) (by kernel_rfl) hCells (Or.inl ⟨by rfl, ?_⟩) ?_
  rotate_left 1
  · intro w hSw; (try dsimp only at hSw); go_simp; (try with_reducible rfl)
  try simp only [Act.put, List.setIfInBounds_toArray, List.set_cons_zero, List.set_cons_succ]
  refine takeB hfnR (by kernel_rfl) 9 (v := ?_) rfl (by kernel_rfl) (fun _ _ _ h => h) (by kernel_rfl) hCells (Or.inl ⟨by rfl, ?_⟩) ?_
  rotate_left 1
  · intro w hSw; (try dsimp only at hSw); go_simp; (try with_reducible rfl)
  try simp only [Act.put, List.setIfInBounds_toArray, List.set_cons_zero, List.set_cons_succ]
  refine takeB hfnR (by kernel_rfl) 10 (v := ?_) rfl (by kernel_rfl) (fun _ _ _ h => h) (by kernel_rfl) hCells (Or.inl ⟨by rfl, ?_⟩) ?_
  rotate_left 1
  · intro w hSw; (try dsimp only at hSw); go_simp; (try with_reducible rfl)
  try simp only [Act.put, List.setIfInBounds_toArray, List.set_cons_zero, List.set_cons_succ]
  refine oneJ 11 (by kernel_rfl) rfl (fun K hK => ?_)
  go_simp
  gi_wp2_with (gi_at_call 31; refine (hW.tr (TP.out _)).mono ?_; rintro e w4 ⟨rfl, hb4⟩)
  refine hK.out _ _ (holdJ ?_ (fun hCells => ?_))
  · clear hK; (try dsimp only); (exact ⟨⟨pc hb4 hCells.1.1, pc hb4 hCells.1.2⟩, pc hb4 hCells.2.1, pc hb4 hCells.2.2⟩)
  clear hK K
  try simp only [Act.put, List.setIfInBounds_toArray, List.set_cons_zero, List.set_cons_succ]
  refine takeB hfnR (by kernel_rfl) 12 (v := ?_) rfl (by kernel_rfl) (fun _ _ _ h => h) (by kernel_rfl) hCells (Or.inl ⟨by rfl, ?_⟩) ?_
  rotate_left 1
  · intro w hSw; (try dsimp only at hSw); go_simp; (try with_reducible rfl)
  try simp only [Act.put, List.setIfInBounds_toArray, List.set_cons_zero, List.set_cons_succ]
  refine takeB hfnR (by kernel_rfl) 13 (v := ?_) rfl (by kernel_rfl) (fun _ _ _ h => h) (by kernel_rfl) hCells (Or.inl ⟨by rfl, ?_⟩) ?_
  rotate_left 1
  · intro w hSw; (try dsimp only at hSw); go_simp; (try with_reducible rfl)
  try simp only [Act.put, List.setIfInBounds_toArray, List.set_cons_zero, List.set_cons_succ]
  refine wpAnyJ_done (by kernel_rfl) (NoPan.normal ?_) _
  have hX4 := (HX2.out.pass hb3).pass hb4
  have HB4 := Lib.hid ((HB2.out.trans (hb3.mono HB2.out.size)).trans (hb4.mono (Nat.le_trans HB2.out.size hb3.size)))
  clear hCells hb3 hb4 TC TP HX2 HB2 W1 HW1 TW
  obtain ⟨hL6, hP6, hB6⟩ := two_new w4 #[.pointer none] #[.slice (some ⟨b, off, none⟩) (N + 1 : Nat) c] 86 34
  have HB6 := Lib.hid (HB4.out.trans (hB6.mono HB4.out.size))
  have hX6 := hX4.pass hB6
  have hlt4 := hX4.lt
  clear hB6 hX4
  gi_wp2_with (gi_at_call 56; refine (hW.tr (pairs_any _ _ _ _)).mono ?_; rintro e w' ⟨rfl, rfl⟩)
  have HSS : Hid (∀ g, sliceS (w4.heap.size + 1) (some ⟨b, off, none⟩) (N + 1) g → g < w4.heap.size + 2) := Lib.hid (by
    rintro g (rfl | ⟨hp, off', e⟩)
    · omega
    · cases e; omega)
  refine wpIn_range2 hW h0 (gf := 103) (lb := #[.pointer (some ⟨w4.heap.size + 1, 0, none⟩)]) rfl (enters_of Tryz.func103 (by kernel_rfl) rfl)
    (pairs_seq hW (n - 1) (by omega) (w4.heap.size + 1) c N (some ⟨b, off, none⟩) L HL.out h1 hc _ hP6.lt (hP6.cell 0) (HR.out.below HB6.out (Nat.le_refl _))) (fun _ h => h.elim) (fun h k => h.trans k) ?hKb (Below.refl _ _) (fun _ => rfl)
    (fun k W => ((∀ m, m < k → qx L m < qx L (m + 1) ∧ qy L m ≤ qy L (m + 1)) ∧ (∀ m, m + 1 < k → slq L (m + 1) ≤ slq L m)) ∧ Blk W w.heap.size #[.int .i64 0] 24 ∧ (∃ pv, Blk W w4.heap.size #[pv] 86 ∧ LastIs L (w4.heap.size + 2) k W pv) ∧ w4.heap.size + 2 ≤ W.heap.size ∧ Below w.heap.size w W)
    (fun cd k W => (cd = .ret ∧ ¬ CurveP L N) ∧ Blk W w.heap.size #[.int .i64 2] 24 ∧ Below w.heap.size w W)
    ((stabI_pure (fun k => (∀ m, m < k → qx L m < qx L (m + 1) ∧ qy L m ≤ qy L (m + 1)) ∧ (∀ m, m + 1 < k → slq L (m + 1) ≤ slq L m))).and ((stabI_blk (fun h => h)).and ((stabI_ex fun pv => (stabI_blk (fun h => h)).and LastIs.stab).and (stabI_size.and (stabI_below (by simp; omega) (Nat.le_refl _) (fun _ h => h.elim))))))
    (fun cd => (stabI_pure (fun _ => cd = .ret ∧ ¬ CurveP L N)).and ((stabI_blk (fun h => h)).and (stabI_below (by simp; omega) (Nat.le_refl _) (fun _ h => h.elim))))
    ⟨⟨fun m hm => absurd hm (Nat.not_lt_zero _), fun m hm => absurd hm (Nat.not_lt_zero _)⟩, hX6, ⟨_, hL6, .inl ⟨rfl, rfl⟩⟩, by simp, HB6.out⟩
    ?round ?done ?stop
  case hKb =>
    intro W l o o' hl ho hc
    exact keepS_book (n := w4.heap.size + 2) HSS.out W l o o' (by simp at hl; omega) ho hc
  case stop =>
    rintro D cd k W hD hk ⟨⟨rfl, hno⟩, g1, gB⟩ hK
    gi_wp2
    refine ⟨by simp, .inl ⟨_, _, rfl, run_takeDeferred hK, ?_⟩⟩
    refine ⟨_, results_s24 rfl rfl (g1.put _ (by simp at hD; omega)), .inr ⟨rfl, hno⟩, ?_⟩
    exact gB.trans (belowK_b (w := w) (Nat.le_refl _) _ D _ _ (by simp at hD; omega) hK rfl rfl)
  case done =>
    rintro D W hD ⟨⟨hu, hcc⟩, g1, _, hs5, gB⟩ hK
    have HV := Lib.hid (CurveP.mk HL.out h1 h63 HZ0.out HS.out HTOP.out hu hcc)
    clear hu hcc
    have c0 : W.cell? ⟨w.heap.size, 0, none⟩ = some (.int .i64 0) := g1.cell 0
    have c1 := g1.free 0
    have HG := Lib.hid gB
    have HDK := Lib.hid (And.intro hD hK)
    clear hD hK gB
    gi_wp2
    have hD5 : w4.heap.size + 2 ≤ D := by have := HDK.out.1; simp at this; omega
    have HK7 := (keepsFrom_set (w4.heap.size + 2) W ⟨w.heap.size, 0, none⟩ (.int .i64 0)).same D _ hD5 HDK.out.2 rfl
    refine ⟨by simp, .inl ⟨_, _, rfl, run_takeDeferred HK7, ?_⟩⟩
    refine ⟨_, results_s24 rfl rfl ((g1.set 0 (.int .i64 0)).put _ (by omega)), .inl ⟨rfl, HV.out⟩, ?_⟩
    exact (HG.out.setCell (p := ⟨w.heap.size, 0, none⟩) (by simp) (.int .i64 0)).trans (belowK_b (w := w) (Nat.le_refl _) _ D _ _ (by omega) HK7 rfl rfl)
  case round =>
    clear hX6 hL6 hP6 HTOP HZ0
    rintro l k W hk ⟨⟨hu, hcc⟩, g1, ⟨pv, g2, hl⟩, hs5, gB⟩
    have hn2 : 1 ≤ n - 1 - 1 := by omega
    have hsk := HS.out k (by omega)
    have hsk1 := HS.out (k + 1) (by omega)
    obtain ⟨⟨f1, _⟩, f2, _⟩ := shortB_fr hsk
    obtain ⟨⟨f3, _⟩, f4, _⟩ := shortB_fr hsk1
    have o1 := f1.ok; have o2 := f2.ok; have o3 := f3.ok; have o4 := f4.ok
    have HRI := Lib.hid (fun h1 h2 => rise_ok hsk hsk1 h1 h2)
    have HOK := Lib.hid (show (okQ (qx L k) ∧ okQ (qy L k)) ∧ okQ (qx L (k + 1)) ∧ okQ (qy L (k + 1)) from ⟨⟨o1.1, o2.1⟩, o3.1, o4.1⟩)
    obtain ⟨a, ha⟩ : ∃ a, a = qx L k := ⟨_, rfl⟩
    obtain ⟨u, hu'⟩ : ∃ u, u = qy L k := ⟨_, rfl⟩
    obtain ⟨a', ha'⟩ : ∃ a', a' = qx L (k + 1) := ⟨_, rfl⟩
    obtain ⟨v, hv⟩ : ∃ v, v = qy L (k + 1) := ⟨_, rfl⟩
    have e1 : (L.getD k .zero).cn = qN a := by rw [ha]; exact o1.2.1
    have e2 : (L.getD k .zero).cd = qD a := by rw [ha]; exact o1.2.2
    have e3 : (L.getD k .zero).hn = qN u := by rw [hu']; exact o2.2.1
    have e4 : (L.getD k .zero).hd = qD u := by rw [hu']; exact o2.2.2
    have e5 : (L.getD (k + 1) .zero).cn = qN a' := by rw [ha']; exact o3.2.1
    have e6 : (L.getD (k + 1) .zero).cd = qD a' := by rw [ha']; exact o3.2.2
    have e7 : (L.getD (k + 1) .zero).hn = qN v := by rw [hv]; exact o4.2.1
    have e8 : (L.getD (k + 1) .zero).hd = qD v := by rw [hv]; exact o4.2.2
    rw [e1, e2, e3, e4, e5, e6, e7, e8]
    clear e1 e2 e3 e4 e5 e6 e7 e8
    have HE := Lib.hid (And.intro ha (And.intro hu' (And.intro ha' hv)))
    rw [← ha, ← hu', ← ha', ← hv] at HRI HOK
    have HU := Lib.hid (And.intro hu hcc)
    have HG := Lib.hid gB
    clear o1 o2 o3 o4 f1 f2 f3 f4 hsk hsk1 ha hu' ha' hv hu hcc gB
    gi_wp2
    have hk1 := Blk.new W #[.string (qN a), .string (qD a), .string (qN u), .string (qD u)] 56
    have hk2 := Blk.new (W.alloc (.cells #[.string (qN a), .string (qD a), .string (qN u), .string (qD u)] 56)) #[.string (qN a'), .string (qD a'), .string (qN v), .string (qD v)] 56
    have HB2 := Lib.hid (show Below W.heap.size W ((W.alloc (.cells #[.string (qN a), .string (qD a), .string (qN u), .string (qD u)] 56)).alloc (.cells #[.string (qN a'), .string (qD a'), .string (qN v), .string (qD v)] 56)) from ((Below.refl _ W).alloc (Nat.le_refl _) _).alloc (by simp) _)
    rw [World.size_alloc] at hk2
    refine ⟨keepsFrom_below HB2.out, KeepS.of_below (n := W.heap.size) HB2.out (fun g hg => Nat.lt_of_lt_of_le (HSS.out g hg) hs5), ⟨HU.out, g1.pass HB2.out, ⟨pv, g2.pass HB2.out, hl.pass HB2.out⟩, (by first | omega | (simp; omega)), HG.out.trans (HB2.out.mono HG.out.size)⟩, ?_⟩
    clear g1 g2 hl
    rintro W2 ⟨_, g1, ⟨pv, g2, hl⟩, hs6, gB⟩ hsz hbl
    have hx1 : Blk W2 W.heap.size #[.string (qN a), .string (qD a), .string (qN u), .string (qD u)] 56 := hbl _ _ _ _ (hk1.alloc _)
    have hy1 : Blk W2 (W.heap.size + 1) #[.string (qN a'), .string (qD a'), .string (qN v), .string (qD v)] 56 := hbl _ _ _ _ hk2
    clear hbl hk1 hk2 HB2 hsz
    have TA := Lib.hid (fun W => cmp_q a a' HOK.out.1.1 HOK.out.2.1 W)
    have TB := Lib.hid (fun W => cmp_q u v HOK.out.1.2 HOK.out.2.2 W)
    obtain ⟨⟨p0, p1⟩, p2, p3⟩ := hx1.four
    obtain ⟨⟨q0, q1⟩, q2, q3⟩ := hy1.four
    have HGB := Lib.hid gB
    clear gB
    by_cases haa : a < a'
    · rw [cmpQ_lt haa] at TA
      gi_wp2_with fail
      refine (CallsIn.inRound l (hW.tr (TA.out _))).mono ?_
      rintro e w5 ⟨rfl, hb5⟩
      have g1 := g1.pass hb5
      have g2 := g2.pass hb5
      have hl := hl.pass hb5
      have hx1 := hx1.pass hb5
      have hy1 := hy1.pass hb5
      clear p0 p1 p2 p3 q0 q1 q2 q3
      obtain ⟨⟨p0, p1⟩, p2, p3⟩ := hx1.four
      obtain ⟨⟨q0, q1⟩, q2, q3⟩ := hy1.four
      have K5 := Lib.hid hb5
      clear hb5
      by_cases hvu : v < u
      · rw [cmpQ_gt hvu] at TB
        gi_wp2_with fail
        refine (CallsIn.inRound l (hW.tr (TB.out _))).mono ?_
        rintro e w6 ⟨rfl, hb6⟩
        have g1 := g1.pass hb6
        have K6 := Lib.hid (K5.out.trans (hb6.mono K5.out.size))
        clear hb6 p0 p1 p2 p3 q0 q1 q2 q3 g2 hl hx1 hy1
        have r0 : w6.cell? ⟨w.heap.size, 0, none⟩ = some (.int .i64 0) := g1.cell 0
        have f0 := g1.free 0
        gi_wp2_with fail
        refine ⟨(keepsFrom_below K6.out).trans (keepsFrom_set _ _ ⟨w.heap.size, 0, none⟩ (.int .i64 2)), ⟨rfl, fun hp => Rat.not_lt.2 (hp.up k hk).2 (by rw [← HE.out.2.1, ← HE.out.2.2.2]; exact hvu)⟩, g1.set 0 (.int .i64 2), (HGB.out.trans (K6.out.mono HGB.out.size)).setCell (p := ⟨w.heap.size, 0, none⟩) (by simp) (.int .i64 2)⟩
      · have hrl := cmpQ_le hvu
        obtain ⟨r, hrr⟩ : ∃ r, r = cmpQ u v := ⟨_, rfl⟩
        rw [← hrr] at TB hrl
        clear hrr
        gi_wp2_with fail
        refine (CallsIn.inRound l (hW.tr (TB.out _))).mono ?_
        rintro e w6 ⟨rfl, hb6⟩
        have g1 := g1.pass hb6
        have g2 := g2.pass hb6
        have hl := hl.pass hb6
        have hx1 := hx1.pass hb6
        have hy1 := hy1.pass hb6
        have K6 := Lib.hid (K5.out.trans (hb6.mono K5.out.size))
        clear hb6 p0 p1 p2 p3 q0 q1 q2 q3
        obtain ⟨⟨p0, p1⟩, p2, p3⟩ := hx1.four
        obtain ⟨⟨q0, q1⟩, q2, q3⟩ := hy1.four
        have HLE := Lib.hid (show u ≤ v from Rat.not_lt.1 hvu)
        have HAA := Lib.hid haa
        clear hvu haa
        have TR := Lib.hid (rise_q a u a' v (HRI.out HAA.out HLE.out) w6 (HTZ.out.1.below (HGB.out.trans (K6.out.mono HGB.out.size)) (Nat.le_refl _)))
        gi_wp2_with fail
        refine (CallsIn.inRound l (hW.tr TR.out)).mono ?_
        rintro e w7 ⟨rfl, hb7⟩
        have g1 := g1.pass hb7
        have g2 := g2.pass hb7
        have hl := hl.pass hb7
        have K7 := Lib.hid (K6.out.trans (hb7.mono K6.out.size))
        clear hb7 p0 p1 p2 p3 q0 q1 q2 q3 hx1 hy1
        have hfnR : ∀ f, (Fence.wide.inRound l).fn f := hW.fn
        have HS0 := Lib.hid (show (v - u) / (a' - a) = slq L k by unfold slq; rw [← HE.out.1, ← HE.out.2.1, ← HE.out.2.2.1, ← HE.out.2.2.2])
        have OS := Lib.hid (HRI.out HAA.out HLE.out).s3
        rcases hl with ⟨hk0, rfl⟩ | ⟨j, bs, hkj, rfl, hbs, gbs⟩
        · gi_wp2_with fail
          have hB8 : Below w7.heap.size w7 (w7.alloc (.cells #[.string (qN ((v - u) / (a' - a))), .string (qD ((v - u) / (a' - a)))] 46)).drew := (below_alloc w7 _).drew
          have hN8 : Blk (w7.alloc (.cells #[.string (qN ((v - u) / (a' - a))), .string (qD ((v - u) / (a' - a)))] 46)).drew w7.heap.size #[.string (qN ((v - u) / (a' - a))), .string (qD ((v - u) / (a' - a)))] 46 := (Blk.new w7 _ 46).drew
          have g1 := g1.pass hB8
          have g2 := g2.pass hB8
          have K8 := Lib.hid (K7.out.trans (hB8.mono K7.out.size))
          have hge : w4.heap.size + 2 ≤ w7.heap.size := Nat.le_trans hs6 K7.out.size
          clear hB8
          have c0 := g2.cell 0
          refine wpIn_region_J (fun V => V.cell? ⟨w4.heap.size, 0, none⟩ = some (.pointer none)) [] hm ?hCells0 (fun hCells => ?_)
          case hCells0 => exact c0
          clear c0
          generalize (w7.alloc (.cells #[.string (qN ((v - u) / (a' - a))), .string (qD ((v - u) / (a' - a)))] 46)).drew = W8 at *
          refine takeB hfnR (by kernel_rfl) 0 (v := ?_) rfl (by kernel_rfl) (fun _ _ _ h => h) (by kernel_rfl) hCells (Or.inl ⟨by rfl, ?_⟩) ?_
          rotate_left 1
          · intro w hSw; (try dsimp only at hSw); go_simp; (try with_reducible rfl)
          try simp only [Act.put, List.setIfInBounds_toArray, List.set_cons_zero, List.set_cons_succ]
          refine takeB hfnR (by kernel_rfl) 1 (v := ?_) rfl (by kernel_rfl) (fun _ _ _ h => h) (by kernel_rfl) hCells (Or.inl ⟨by rfl, ?_⟩) ?_
          rotate_left 1
          · intro w hSw; (try dsimp only at hSw); go_simp; (try with_reducible rfl)
          try simp only [Act.put, List.setIfInBounds_toArray, List.set_cons_zero, List.set_cons_succ]
          refine takeB hfnR (by kernel_rfl) 2 (v := ?_) rfl (by kernel_rfl) (fun _ _ _ h => h) (by kernel_rfl) hCells (Or.inl ⟨by rfl, ?_⟩) ?_
          rotate_left 1
          · intro w hSw; (try dsimp only at hSw); go_simp; (try with_reducible rfl)
          try simp only [Act.put, List.setIfInBounds_toArray, List.set_cons_zero, List.set_cons_succ]
          refine takeB hfnR (by kernel_rfl) 3 (v := undef) rfl (by kernel_rfl) (fun _ _ _ h => h) (by kernel_rfl) hCells (Or.inr ⟨by rfl, rfl⟩) ?_
          try simp only [Act.put, List.setIfInBounds_toArray, List.set_cons_zero, List.set_cons_succ]
          refine takeB hfnR (by kernel_rfl) 4 (v := undef) rfl (by kernel_rfl) (fun _ _ _ h => h) (by kernel_rfl) hCells (Or.inr ⟨by rfl, rfl⟩) ?_
          try simp only [Act.put, List.setIfInBounds_toArray, List.set_cons_zero, List.set_cons_succ]
          refine takeB hfnR (by kernel_rfl) 5 (v := undef) rfl (by kernel_rfl) (fun _ _ _ h => h) (by kernel_rfl) hCells (Or.inr ⟨by rfl, rfl⟩) ?_
          try simp only [Act.put, List.setIfInBounds_toArray, List.set_cons_zero, List.set_cons_succ]
          refine takeB hfnR (by kernel_rfl) 6 (v := undef) rfl (by kernel_rfl) (fun _ _ _ h => h) (by kernel_rfl) hCells (Or.inr ⟨by rfl, rfl⟩) ?_
          try simp only [Act.put, List.setIfInBounds_toArray, List.set_cons_zero, List.set_cons_succ]
          refine takeB hfnR (by kernel_rfl) 7 (v := undef) rfl (by kernel_rfl) (fun _ _ _ h => h) (by kernel_rfl) hCells (Or.inr ⟨by rfl, rfl⟩) ?_
          try simp only [Act.put, List.setIfInBounds_toArray, List.set_cons_zero, List.set_cons_succ]
          refine takeB hfnR (by kernel_rfl) 8 (v := undef) rfl (by kernel_rfl) (fun _ _ _ h => h) (by kernel_rfl) hCells (Or.inr ⟨by rfl, rfl⟩) ?_
          try simp only [Act.put, List.setIfInBounds_toArray, List.set_cons_zero, List.set_cons_succ]
          refine takeB hfnR (by kernel_rfl) 9 (v := ?_) rfl (by kernel_rfl) (fun _ _ _ h => h) (by kernel_rfl) hCells (Or.inl ⟨by rfl, ?_⟩) ?_
          rotate_left 1
          · intro w hSw; (try dsimp only at hSw); go_simp; (try with_reducible rfl)
          try simp only [Act.put, List.setIfInBounds_toArray, List.set_cons_zero, List.set_cons_succ]
          refine wpAnyJ_done (by kernel_rfl) (NoPan.normal ?_) _
          clear hCells
          have c0 : W8.cell? ⟨w4.heap.size, 0, none⟩ = some (.pointer none) := g2.cell 0
          have c1 := g2.free 0
          gi_wp2
          refine ⟨(keepsFrom_below K8.out).trans (keepsFrom_set _ _ ⟨w4.heap.size, 0, none⟩ (.pointer (some ⟨w7.heap.size, 0, none⟩))), (KeepS.of_below K8.out (fun g hg => Nat.lt_of_lt_of_le (HSS.out g hg) hs6)).trans (KeepS.setCell _ _ ?_), ⟨?_, ?_⟩, g1.far (p := ⟨w4.heap.size, 0, none⟩) (by simp; omega) (.pointer (some ⟨w7.heap.size, 0, none⟩)),
            ⟨_, g2.set 0 (.pointer (some ⟨w7.heap.size, 0, none⟩)), .inr ⟨k, w7.heap.size, rfl, rfl, hge, ?_⟩⟩, ?_, (HGB.out.trans (K8.out.mono HGB.out.size)).setCell (p := ⟨w4.heap.size, 0, none⟩) (by simp; omega) (.pointer (some ⟨w7.heap.size, 0, none⟩))⟩
          · rintro (h | ⟨_, off', e⟩)
            · simp at h
            · have e' : b = w4.heap.size := congrArg (fun a : Option Addr => (a.map Addr.block).getD 0) e
              omega
          · intro m hm
            rcases Nat.lt_or_eq_of_le (Nat.le_of_lt_succ hm) with h | rfl
            · exact HU.out.1 m h
            · rw [← HE.out.1, ← HE.out.2.1, ← HE.out.2.2.1, ← HE.out.2.2.2]; exact ⟨HAA.out, HLE.out⟩
          · intro m hm
            omega
          · rw [← HS0.out]
            exact hN8.far (p := ⟨w4.heap.size, 0, none⟩) (by simp; omega) (.pointer (some ⟨w7.heap.size, 0, none⟩))
          · have := K8.out.size
            simp
            omega
        · gi_wp2_with fail
          have hB8 : Below w7.heap.size w7 (w7.alloc (.cells #[.string (qN ((v - u) / (a' - a))), .string (qD ((v - u) / (a' - a)))] 46)).drew := (below_alloc w7 _).drew
          have hN8 : Blk (w7.alloc (.cells #[.string (qN ((v - u) / (a' - a))), .string (qD ((v - u) / (a' - a)))] 46)).drew w7.heap.size #[.string (qN ((v - u) / (a' - a))), .string (qD ((v - u) / (a' - a)))] 46 := (Blk.new w7 _ 46).drew
          have g1 := g1.pass hB8
          have g2 := g2.pass hB8
          have gbs := gbs.pass hB8
          have K8 := Lib.hid (K7.out.trans (hB8.mono K7.out.size))
          have hge : w4.heap.size + 2 ≤ w7.heap.size := Nat.le_trans hs6 K7.out.size
          clear hB8
          have OJ : Hid (okQ (slq L j)) := Lib.hid (rise_ok (HS.out j (by omega)) (HS.out (j + 1) (by omega)) (HU.out.1 j (by omega)).1 (HU.out.1 j (by omega)).2).s3
          have TS := Lib.hid (fun W => cmp_q ((v - u) / (a' - a)) (slq L j) OS.out OJ.out W)
          have HKJ := Lib.hid hkj
          clear hkj
          have c0 := g2.cell 0
          have c0 : (w7.alloc (.cells #[.string (qN ((v - u) / (a' - a))), .string (qD ((v - u) / (a' - a)))] 46)).drew.cell? ⟨w4.heap.size, 0, none⟩ = some (.pointer (some ⟨bs, 0, none⟩)) := c0
          refine wpIn_region_J (fun V => V.cell? ⟨w4.heap.size, 0, none⟩ = some (.pointer (some ⟨bs, 0, none⟩)) ∧ (V.cell? ⟨w7.heap.size, 0, none⟩ = some (.string (qN ((v - u) / (a' - a)))) ∧ V.cell? ⟨w7.heap.size, 1, none⟩ = some (.string (qD ((v - u) / (a' - a))))) ∧ (V.cell? ⟨bs, 0, none⟩ = some (.string (qN (slq L j))) ∧ V.cell? ⟨bs, 1, none⟩ = some (.string (qD (slq L j))))) [] hm ?hCells0 (fun hCells => ?_)
          case hCells0 => exact ⟨c0, hN8.two.1, gbs.two.1⟩
          clear c0
          generalize (w7.alloc (.cells #[.string (qN ((v - u) / (a' - a))), .string (qD ((v - u) / (a' - a)))] 46)).drew = W9 at *
          by_cases hss : slq L j < (v - u) / (a' - a)
          · rw [cmpQ_gt hss] at TS
            refine takeB hfnR (by kernel_rfl) 0 (v := ?_) rfl (by kernel_rfl) (fun _ _ _ h => h) (by kernel_rfl) hCells (Or.inl ⟨by rfl, ?_⟩) ?_
            rotate_left 1
            · intro w hSw; (try dsimp only at hSw); go_simp; (try with_reducible rfl)
            try simp only [Act.put, List.setIfInBounds_toArray, List.set_cons_zero, List.set_cons_succ]
            refine takeB hfnR (by kernel_rfl) 1 (v := ?_) rfl (by kernel_rfl) (fun _ _ _ h => h) (by kernel_rfl) hCells (Or.inl ⟨by rfl, ?_⟩) ?_
            rotate_left 1
            · intro w hSw; (try dsimp only at hSw); go_simp; (try with_reducible rfl)
            try simp only [Act.put, List.setIfInBounds_toArray, List.set_cons_zero, List.set_cons_succ]
            refine takeB hfnR (by kernel_rfl) 2 (v := ?_) rfl (by kernel_rfl) (fun _ _ _ h => h) (by kernel_rfl) hCells (Or.inl ⟨by rfl, ?_⟩) ?_
            rotate_left 1
            · intro w hSw; (try dsimp only at hSw); go_simp; (try with_reducible rfl)
            try simp only [Act.put, List.setIfInBounds_toArray, List.set_cons_zero, List.set_cons_succ]
            refine takeB hfnR (by kernel_rfl) 3 (v := ?_) rfl (by kernel_rfl) (fun _ _ _ h => h) (by kernel_rfl) hCells (Or.inl ⟨by rfl, ?_⟩) ?_
            rotate_left 1
            · intro w hSw; (try dsimp only at hSw); go_simp; (try with_reducible rfl)
            try simp only [Act.put, List.setIfInBounds_toArray, List.set_cons_zero, List.set_cons_succ]
            refine takeB hfnR (by kernel_rfl) 4 (v := ?_) rfl (by kernel_rfl) (fun _ _ _ h => h) (by kernel_rfl) hCells (Or.inl ⟨by rfl, ?_⟩) ?_
            rotate_left 1
            · intro w hSw; (try dsimp only at hSw); go_simp; (try with_reducible rfl)
            try simp only [Act.put, List.setIfInBounds_toArray, List.set_cons_zero, List.set_cons_succ]
            refine takeB hfnR (by kernel_rfl) 5 (v := ?_) rfl (by kernel_rfl) (fun _ _ _ h => h) (by kernel_rfl) hCells (Or.inl ⟨by rfl, ?_⟩) ?_
            rotate_left 1
            · intro w hSw; (try dsimp only at hSw); go_simp; (try with_reducible rfl)
            try simp only [Act.put, List.setIfInBounds_toArray, List.set_cons_zero, List.set_cons_succ]
            refine takeB hfnR (by kernel_rfl) 6 (v := ?_) rfl (by kernel_rfl) (fun _ _ _ h => h) (by kernel_rfl) hCells (Or.inl ⟨by rfl, ?_⟩) ?_
            rotate_left 1
            · intro w hSw; (try dsimp only at hSw); go_simp; (try with_reducible rfl)
            try simp only [Act.put, List.setIfInBounds_toArray, List.set_cons_zero, List.set_cons_succ]
            refine oneJ 7 (by kernel_rfl) rfl (fun K hK => ?_)
            go_simp
            gi_wp2_with (gi_at_call 31; refine (CallsIn.inRound l (hW.tr (TS.out _))).mono ?_; rintro e W8 ⟨rfl, hb8⟩)
            refine hK.out _ _ (holdJ ?_ (fun hCells => ?_))
            · clear hK; (try dsimp only); (exact ⟨pc hb8 hCells.1, ⟨pc hb8 hCells.2.1.1, pc hb8 hCells.2.1.2⟩, pc hb8 hCells.2.2.1, pc hb8 hCells.2.2.2⟩)
            clear hK K
            try simp only [Act.put, List.setIfInBounds_toArray, List.set_cons_zero, List.set_cons_succ]
            refine takeB hfnR (by kernel_rfl) 8 (v := ?_) rfl (by kernel_rfl) (fun _ _ _ h => h) (by kernel_rfl) hCells (Or.inl ⟨by rfl, ?_⟩) ?_
            rotate_left 1
            · intro w hSw; (try dsimp only at hSw); go_simp; (try with_reducible rfl)
            try simp only [Act.put, List.setIfInBounds_toArray, List.set_cons_zero, List.set_cons_succ]
            refine takeB hfnR (by kernel_rfl) 9 (v := ?_) rfl (by kernel_rfl) (fun _ _ _ h => h) (by kernel_rfl) hCells (Or.inl ⟨by rfl, ?_⟩) ?_
            rotate_left 1
            · intro w hSw; (try dsimp only at hSw); go_simp; (try with_reducible rfl)
            try simp only [Act.put, List.setIfInBounds_toArray, List.set_cons_zero, List.set_cons_succ]
            refine wpAnyJ_done (by kernel_rfl) (NoPan.normal ?_) _
            have g1 := g1.pass hb8
            have K9 := Lib.hid (K8.out.trans (hb8.mono K8.out.size))
            have HSS2 := Lib.hid hss
            clear hCells hb8 hss TS g2 gbs hN8
            have r0 : W8.cell? ⟨w.heap.size, 0, none⟩ = some (.int .i64 0) := g1.cell 0
            have f0 := g1.free 0
            gi_wp2_with fail
            refine ⟨(keepsFrom_below K9.out).trans (keepsFrom_set _ _ ⟨w.heap.size, 0, none⟩ (.int .i64 2)), ⟨rfl, fun hp => Rat.not_lt.2 (hp.cc j (by have := HKJ.out; omega)) (by rw [← HKJ.out, ← HS0.out]; exact HSS2.out)⟩, g1.set 0 (.int .i64 2), (HGB.out.trans (K9.out.mono HGB.out.size)).setCell (p := ⟨w.heap.size, 0, none⟩) (by simp) (.int .i64 2)⟩
          · have hrl := cmpQ_le hss
            obtain ⟨r, hrr⟩ : ∃ r, r = cmpQ ((v - u) / (a' - a)) (slq L j) := ⟨_, rfl⟩
            rw [← hrr] at TS hrl
            clear hrr
            refine takeB hfnR (by kernel_rfl) 0 (v := ?_) rfl (by kernel_rfl) (fun _ _ _ h => h) (by kernel_rfl) hCells (Or.inl ⟨by rfl, ?_⟩) ?_
            rotate_left 1
            · intro w hSw; (try dsimp only at hSw); go_simp; (try with_reducible rfl)
            try simp only [Act.put, List.setIfInBounds_toArray, List.set_cons_zero, List.set_cons_succ]
            refine takeB hfnR (by kernel_rfl) 1 (v := ?_) rfl (by kernel_rfl) (fun _ _ _ h => h) (by kernel_rfl) hCells (Or.inl ⟨by rfl, ?_⟩) ?_
            rotate_left 1
            · intro w hSw; (try dsimp only at hSw); go_simp; (try with_reducible rfl)
            try simp only [Act.put, List.setIfInBounds_toArray, List.set_cons_zero, List.set_cons_succ]
            refine takeB hfnR (by kernel_rfl) 2 (v := ?_) rfl (by kernel_rfl) (fun _ _ _ h => h) (by kernel_rfl) hCells (Or.inl ⟨by rfl, ?_⟩) ?_
            rotate_left 1
            · intro w hSw; (try dsimp only at hSw); go_simp; (try with_reducible rfl)
            try simp only [Act.put, List.setIfInBounds_toArray, List.set_cons_zero, List.set_cons_succ]
            refine takeB hfnR (by kernel_rfl) 3 (v := ?_) rfl (by kernel_rfl) (fun _ _ _ h => h) (by kernel_rfl) hCells (Or.inl ⟨by rfl, ?_⟩) ?_
            rotate_left 1
            · intro w hSw; (try dsimp only at hSw); go_simp; (try with_reducible rfl)
            try simp only [Act.put, List.setIfInBounds_toArray, List.set_cons_zero, List.set_cons_succ]
            refine takeB hfnR (by kernel_rfl) 4 (v := ?_) rfl (by kernel_rfl) (fun _ _ _ h => h) (by kernel_rfl) hCells (Or.inl ⟨by rfl, ?_⟩) ?_
            rotate_left 1
            · intro w hSw; (try dsimp only at hSw); go_simp; (try with_reducible rfl)
            try simp only [Act.put, List.setIfInBounds_toArray, List.set_cons_zero, List.set_cons_succ]
            refine takeB hfnR (by kernel_rfl) 5 (v := ?_) rfl (by kernel_rfl) (fun _ _ _ h => h) (by kernel_rfl) hCells (Or.inl ⟨by rfl, ?_⟩) ?_
            rotate_left 1
            · intro w hSw; (try dsimp only at hSw); go_simp; (try with_reducible rfl)
            try simp only [Act.put, List.setIfInBounds_toArray, List.set_cons_zero, List.set_cons_succ]
            refine takeB hfnR (by kernel_rfl) 6 (v := ?_) rfl (by kernel_rfl) (fun _ _ _ h => h) (by kernel_rfl) hCells (Or.inl ⟨by rfl, ?_⟩) ?_
            rotate_left 1
            · intro w hSw; (try dsimp only at hSw); go_simp; (try with_reducible rfl)
            try simp only [Act.put, List.setIfInBounds_toArray, List.set_cons_zero, List.set_cons_succ]
            refine oneJ 7 (by kernel_rfl) rfl (fun K hK => ?_)
            go_simp
            gi_wp2_with (gi_at_call 31; refine (CallsIn.inRound l (hW.tr (TS.out _))).mono ?_; rintro e W8 ⟨rfl, hb8⟩)
            refine hK.out _ _ (holdJ ?_ (fun hCells => ?_))
            · clear hK; (try dsimp only); (exact ⟨pc hb8 hCells.1, ⟨pc hb8 hCells.2.1.1, pc hb8 hCells.2.1.2⟩, pc hb8 hCells.2.2.1, pc hb8 hCells.2.2.2⟩)
            clear hK K
            try simp only [Act.put, List.setIfInBounds_toArray, List.set_cons_zero, List.set_cons_succ]
            refine takeB hfnR (by kernel_rfl) 8 (v := ?_) rfl (by kernel_rfl) (fun _ _ _ h => h) (by kernel_rfl) hCells (Or.inl ⟨by rfl, ?_⟩) ?_
            rotate_left 1
            · intro w hSw; (try dsimp only at hSw); go_simp; (try with_reducible rfl)
            try simp only [Act.put, List.setIfInBounds_toArray, List.set_cons_zero, List.set_cons_succ]
            refine takeB hfnR (by kernel_rfl) 9 (v := ?_) rfl (by kernel_rfl) (fun _ _ _ h => h) (by kernel_rfl) hCells (Or.inl ⟨by rfl, ?_⟩) ?_
            rotate_left 1
            · intro w hSw; (try dsimp only at hSw); go_simp; (try with_reducible rfl)
            try simp only [Act.put, List.setIfInBounds_toArray, List.set_cons_zero, List.set_cons_succ]
            refine wpAnyJ_done (by kernel_rfl) (NoPan.normal ?_) _
            have g1 := g1.pass hb8
            have g2 := g2.pass hb8
            have hN8 := hN8.pass hb8
            have K8 := Lib.hid (K8.out.trans (hb8.mono K8.out.size))
            have HSS2 := Lib.hid (Rat.not_lt.1 hss)
            clear hCells hb8 hss TS gbs
            have c0 : W8.cell? ⟨w4.heap.size, 0, none⟩ = some (.pointer (some ⟨bs, 0, none⟩)) := g2.cell 0
            have c1 := g2.free 0
            gi_wp2
            refine ⟨(keepsFrom_below K8.out).trans (keepsFrom_set _ _ ⟨w4.heap.size, 0, none⟩ (.pointer (some ⟨w7.heap.size, 0, none⟩))), (KeepS.of_below K8.out (fun g hg => Nat.lt_of_lt_of_le (HSS.out g hg) hs6)).trans (KeepS.setCell _ _ ?_), ⟨?_, ?_⟩, g1.far (p := ⟨w4.heap.size, 0, none⟩) (by simp; omega) (.pointer (some ⟨w7.heap.size, 0, none⟩)),
              ⟨_, g2.set 0 (.pointer (some ⟨w7.heap.size, 0, none⟩)), .inr ⟨k, w7.heap.size, rfl, rfl, hge, ?_⟩⟩, ?_, (HGB.out.trans (K8.out.mono HGB.out.size)).setCell (p := ⟨w4.heap.size, 0, none⟩) (by simp; omega) (.pointer (some ⟨w7.heap.size, 0, none⟩))⟩
            · rintro (h | ⟨_, off', e⟩)
              · simp at h
              · have e' : b = w4.heap.size := congrArg (fun a : Option Addr => (a.map Addr.block).getD 0) e
                omega
            · intro m hm
              rcases Nat.lt_or_eq_of_le (Nat.le_of_lt_succ hm) with h | rfl
              · exact HU.out.1 m h
              · rw [← HE.out.1, ← HE.out.2.1, ← HE.out.2.2.1, ← HE.out.2.2.2]; exact ⟨HAA.out, HLE.out⟩
            · intro m hm
              rcases Nat.lt_or_eq_of_le (Nat.le_of_lt_succ hm) with h | h
              · exact HU.out.2 m h
              · have hjm : m = j := by have := HKJ.out; omega
                subst hjm
                rw [← HKJ.out, ← HS0.out]
                exact HSS2.out
            · rw [← HS0.out]
              exact hN8.far (p := ⟨w4.heap.size, 0, none⟩) (by simp; omega) (.pointer (some ⟨w7.heap.size, 0, none⟩))
            · have := K8.out.size
              simp
              omega
    · have hrl := cmpQ_ge haa
      obtain ⟨r, hrr⟩ : ∃ r, r = cmpQ a a' := ⟨_, rfl⟩
      rw [← hrr] at TA hrl
      clear hrr
      gi_wp2_with fail
      refine (CallsIn.inRound l (hW.tr (TA.out _))).mono ?_
      rintro e w5 ⟨rfl, hb5⟩
      have g1 := g1.pass hb5
      have K5 := Lib.hid hb5
      clear hb5 p0 p1 p2 p3 q0 q1 q2 q3 g2 hl hx1 hy1
      have r0 : w5.cell? ⟨w.heap.size, 0, none⟩ = some (.int .i64 0) := g1.cell 0
      have f0 := g1.free 0
      gi_wp2_with fail
      refine ⟨(keepsFrom_below K5.out).trans (keepsFrom_set _ _ ⟨w.heap.size, 0, none⟩ (.int .i64 2)), ⟨rfl, fun hp => haa (by have := (hp.up k hk).1; rw [← HE.out.1, ← HE.out.2.2.1] at this; exact this)⟩, g1.set 0 (.int .i64 2), (HGB.out.trans (K5.out.mono HGB.out.size)).setCell (p := ⟨w.heap.size, 0, none⟩) (by simp) (.int .i64 2)⟩
end Go.Proofs.Cr
