/- Contracts of functions that the laws reach, and plain lemmas. Part 2. -/
import Derived.Lib.SliceRun
import Derived.ArgAppend
import Derived.Test.YtolofiiolinnoaaGreatDoorC01
set_option linter.all false
namespace Go.Proofs.Cr
open Go.RowKit

theorem mul_bound {x y : Nat} (hx : x < 1000000000) (hy : y < 1000000000) : x * y ≤ 999999998000000001 := by
  calc x * y ≤ 999999999 * 999999999 := Nat.mul_le_mul (by omega) (by omega)
    _ = 999999998000000001 := by decide

theorem cast_mul_le (x y : Nat) (h : x * y ≤ 999999998000000001) : (x : Int) * (y : Int) ≤ 999999998000000001 := by
  have : ((x * y : Nat) : Int) ≤ 999999998000000001 := by omega
  rwa [Int.natCast_mul] at this
theorem cast_mul_nn (x y : Nat) : 0 ≤ (x : Int) * (y : Int) := by
  rw [← Int.natCast_mul]; omega
theorem cast_step_mod (cy o x y : Nat) : ((cy:Int) + ((o:Int) + (x:Int)*(y:Int))) % 1000000000 = ((cy + (o + x*y)) % 1000000000 : Nat) := by
  have : ((x * y : Nat) : Int) = (x : Int) * y := Int.natCast_mul x y
  omega
theorem cast_step_div (cy o x y : Nat) : ((cy:Int) + ((o:Int) + (x:Int)*(y:Int))) / 1000000000 = ((cy + (o + x*y)) / 1000000000 : Nat) := by
  have : ((x * y : Nat) : Int) = (x : Int) * y := Int.natCast_mul x y
  omega

theorem times_alg (V V' V0 p q o cy x y T b r c : Nat) (hd : r + b * c = cy + (o + x * y)) (hset : V + (p * q) * o = V' + (p * q) * r) (hv : V' + (p * q) * cy = V0 + p * (x * T)) :
    V + (p * q * b) * c = V0 + p * (x * (T + q * y)) := by
  have h1 : (p * q) * (r + b * c) = (p * q) * (cy + (o + x * y)) := by rw [hd]
  grind

theorem times_in (os os' ys : List Nat) (i k cy x : Nat) (hb : Bnd B9 os') (hl : i + k < os'.length) (hk : k < ys.length) (hx : x < 1000000000) (hy : ys.getD k 0 < 1000000000) (hcy : cy < 1000000000)
    (hv : val B9 os' + B9 ^ (i + k) * cy = val B9 os + B9 ^ i * (x * val B9 (ys.take k))) :
    let s := cy + (os'.getD (i + k) 0 + x * ys.getD k 0)
    Bnd B9 (os'.set (i + k) (s % 1000000000)) ∧ s / 1000000000 < 1000000000 ∧ val B9 (os'.set (i + k) (s % 1000000000)) + B9 ^ (i + (k + 1)) * (s / 1000000000) = val B9 os + B9 ^ i * (x * val B9 (ys.take (k + 1))) := by
  intro s
  have h1 := hb.getD B9_pos (i + k)
  have h2 := mul_bound hx hy
  have hs : s < 1000000000 * 1000000000 := by simp only [s]; rw [B9_eq] at h1; omega
  refine ⟨hb.set _ (Nat.mod_lt _ (by decide)), by omega, ?_⟩
  have hset := val_set (B := B9) os' (i + k) (s % 1000000000) hl
  rw [val_take_succ _ _ _ hk]
  have hd : s % 1000000000 + B9 * (s / 1000000000) = cy + (os'.getD (i + k) 0 + x * ys.getD k 0) := Nat.mod_add_div s 1000000000
  rw [Nat.pow_add] at hset hv
  rw [← Nat.add_assoc, Nat.pow_succ, Nat.pow_add]
  exact times_alg _ _ _ _ _ _ _ _ _ _ _ _ _ hd hset hv

set_option maxRecDepth 100000 in
set_option maxHeartbeats 2000000 in
theorem times_core (xs ys : List Nat) (A1 A2 : Option Addr) (c1 c2 : Nat) (w : World) (h1 : Reads w .u64 A1 xs) (h2 : Reads w .u64 A2 ys)
    (ha : Bnd B9 xs) (hb : Bnd B9 ys) (hs1 : xs.length ≤ 100000) (hs2 : ys.length ≤ 100000) :
    Calls Tryz.prog 64 #[.slice A1 xs.length c1, .slice A2 ys.length c2] w fun e w' => ∃ v zs, e = .returned v ∧ Owns w' w.heap.size 98 .u64 v zs ∧ Trimmed zs ∧ Bnd B9 zs ∧ val B9 zs = val B9 xs * val B9 ys ∧ Below w.heap.size w w' := by
  obtain ⟨i0, hi, hz0, hz1, hz2⟩ := info_parts info151
  go_enter Tryz.func64, Tryz.ntmps64
  go_wp2_with (refine wpList_make_full _ rfl _ _ 93 rfl w.heap.size 98 i0 (.int .u64 0) 1 Tryz.underlying93 hi hz0 hz1 _ _ _ _ (xs.length + ys.length) rfl rfl (by simp) (by simp) (by rw [hz2]; omega) (by unfold maxLen; omega) (by simp) ?_; intro w1 hown1 hg1)
  have hb1 : Below w.heap.size w w1 := (Below.refl _ _).grown hg1 (Nat.le_refl _) (fun k e => by cases e)
  obtain ⟨N, hN⟩ : ∃ N, N = xs.length + ys.length := ⟨_, rfl⟩
  obtain ⟨o0, ho0⟩ : ∃ o0 : List Nat, o0 = List.replicate N 0 := ⟨_, rfl⟩
  have hl0 : o0.length = N := by rw [ho0]; simp
  rw [← hN] at hown1 ⊢
  have o1 : Owns w1 w.heap.size 98 .u64 (.slice (some ⟨w.heap.size, 0, none⟩) N N) o0 := by
    unfold Owns
    rw [hl0, ho0, ← madeCells_nums]
    exact hown1
  have HN := Lib.hid hN; have HO0 := Lib.hid ho0; have HL0 := Lib.hid hl0
  clear hown1 hg1 hN ho0 hl0
  go_loopw [7, 8, 19] (fun x cy iv wr => ∃ (i : Nat) (os : List Nat), i ≤ xs.length ∧ iv = .int .i64 i ∧ Owns wr w.heap.size 98 .u64 (.slice (some ⟨w.heap.size, 0, none⟩) N N) os ∧ os.length = N ∧ Bnd B9 os ∧ val B9 os = val B9 (xs.take i) * val B9 ys ∧ (∀ j, i + ys.length ≤ j → os.getD j 0 = 0) ∧ Below w.heap.size w wr)
    (fun _ _ i _ => xs.length - (intOf i).toNat)
  case atStart => exact ⟨0, o0, Nat.zero_le _, rfl, o1, HL0.out, by rw [HO0.out]; exact Bnd.replicate B9_pos _, by rw [HO0.out, val_replicate]; simp [val], fun j _ => by rw [HO0.out]; simp [List.getD_eq_getElem?_getD, List.getElem?_replicate]; split <;> rfl, hb1⟩
  case round =>
    obtain ⟨i, os, hi1, rfl, hown, hol, hob, hval, hzero, hbel⟩ := hrel
    have HV := Lib.hid hval; have HOL := Lib.hid hol; have HZ := Lib.hid hzero
    clear hval hol hzero o1
    by_cases hlt : i < xs.length
    · obtain ⟨b1, off1, rfl, hlt1, hcell1⟩ := h1.2 (by omega)
      have hcA := (hbel.cell (p := ⟨b1, off1 + i, none⟩) hlt1).trans (hcell1 i hlt)
      obtain ⟨x, hx⟩ : ∃ x, x = xs.getD i 0 := ⟨_, rfl⟩
      have hxb : x < 1000000000 := by rw [hx]; exact ha.getD B9_pos i
      rw [← hx] at hcA
      have HX := Lib.hid hx; clear hx hcell1
      obtain ⟨wo, hwo⟩ : ∃ wo : World, wo = wr := ⟨_, rfl⟩
      subst hwo
      go_wp2
      go_loopw [8, 26] (fun cy iv wr => ∃ (k cyn : Nat) (os' : List Nat), k ≤ ys.length ∧ iv = .int .i64 k ∧ cy = .int .u64 cyn ∧ cyn < 1000000000 ∧ Owns wr w.heap.size 98 .u64 (.slice (some ⟨w.heap.size, 0, none⟩) N N) os' ∧ os'.length = N ∧ Bnd B9 os' ∧
          val B9 os' + B9 ^ (i + k) * cyn = val B9 os + B9 ^ i * (x * val B9 (ys.take k)) ∧ (∀ j, i + k ≤ j → os'.getD j 0 = os.getD j 0) ∧ Below w.heap.size w wr)
        (fun _ i _ => ys.length - (intOf i).toNat)
      case atStart => exact ⟨0, 0, os, Nat.zero_le _, rfl, rfl, by omega, hown, HOL.out, hob, by rw [List.take_zero, val_nil, Nat.mul_zero, Nat.mul_zero, Nat.mul_zero], fun _ _ => rfl, hbel⟩
      case round =>
        obtain ⟨k, cyn, os', hk, rfl, rfl, hcy, hown2, hol2, hob2, hval2, hsame, hbel2⟩ := hrel
        have HV2 := Lib.hid hval2; have HOL2 := Lib.hid hol2; have HS2 := Lib.hid hsame
        clear hval2 hol2 hsame hown
        have hN2 : N = xs.length + ys.length := HN.out
        have HN3 := Lib.hid hN2
        have hNle : xs.length + ys.length ≤ N := by omega
        clear hN2
        by_cases hlt2 : k < ys.length
        · obtain ⟨b2, off2, rfl, hltb2, hcell2⟩ := h2.2 (by omega)
          have hcB := (hbel2.cell (p := ⟨b2, off2 + k, none⟩) hltb2).trans (hcell2 k hlt2)
          obtain ⟨y, hy⟩ : ∃ y, y = ys.getD k 0 := ⟨_, rfl⟩
          have hyb : y < 1000000000 := by rw [hy]; exact hb.getD B9_pos k
          rw [← hy] at hcB
          have HY := Lib.hid hy; clear hy hcell2
          have hcO := hown2.cell (i + k) (by have := HOL2.out; omega)
          have hfO := hown2.free (i + k)
          obtain ⟨o, ho⟩ : ∃ o, o = os'.getD (i + k) 0 := ⟨_, rfl⟩
          have hoB : o < 1000000000 := by rw [ho]; exact hob2.getD B9_pos _
          rw [← ho] at hcO
          have HO := Lib.hid ho; clear ho
          have hxy := mul_bound hxb hyb
          have hxy1 : (x : Int) * (y : Int) ≤ 999999998000000001 := cast_mul_le x y hxy
          have hxy0 : 0 ≤ (x : Int) * (y : Int) := cast_mul_nn x y
          have R := Lib.hid (times_in os os' ys i k cyn x hob2 (by have := HOL2.out; omega) hlt2 hxb (by rw [← HY.out]; exact hyb) hcy HV2.out)
          clear hxy
          go_wp2
          obtain ⟨r1, r2, r3⟩ := R.out
          simp only [← HO.out, ← HY.out] at r1 r2 r3
          have R1 := Lib.hid r1; have R3 := Lib.hid r3; clear r1 r3
          go_roundw
          case rel => exact ⟨k + 1, (cyn + (o + x * y)) / 1000000000, os'.set (i + k) ((cyn + (o + x * y)) % 1000000000), by omega, by go_num, by rw [cast_step_div], r2, hown2.put _ _ _ (cast_step_mod _ _ _ _) (by have := HOL2.out; omega), by rw [List.length_set]; exact HOL2.out, R1.out, R3.out,
            fun j hj => by rw [getD_set_ne _ _ _ _ (by omega)]; exact HS2.out j (by omega), hbel2.setCell (p := ⟨w.heap.size, i + k, none⟩) (Nat.le_refl _) _⟩
          case measure => simp [intOf]; omega
        · have hkk : k = ys.length := by omega
          have hfO := hown2.free (i + ys.length)
          have hcO := hown2.cell (i + ys.length) (by have := HOL2.out; omega)
          obtain ⟨o, ho⟩ : ∃ o, o = os'.getD (i + ys.length) 0 := ⟨_, rfl⟩
          rw [← ho] at hcO
          have HO := Lib.hid ho; clear ho
          subst hkk
          go_wp2
          go_roundw
          case rel =>
            refine ⟨i + 1, os'.set (i + ys.length) cyn, by omega, by go_num, hown2.put _ _ _ rfl (by have := HOL2.out; omega), by rw [List.length_set]; exact HOL2.out, hob2.set _ (by have := B9_eq; omega), ?_, fun j hj => ?_, hbel2.setCell (p := ⟨w.heap.size, i + ys.length, none⟩) (Nat.le_refl _) _⟩
            · have e1 := val_set (B := B9) os' (i + ys.length) cyn (by have := HOL2.out; omega)
              have e2 := HS2.out (i + ys.length) (Nat.le_refl _)
              rw [HZ.out _ (Nat.le_refl _)] at e2
              rw [e2, Nat.mul_zero, Nat.add_zero] at e1
              rw [e1, HV2.out, HV.out, List.take_length, val_take_succ _ _ _ hlt, ← HX.out]
              grind
            · rw [getD_set_ne _ _ _ _ (by omega), HS2.out j (by omega), HZ.out j (by omega)]
          case measure => simp [intOf]; omega
    · have hkk : i = xs.length := by omega
      subst hkk
      have hos : os.length ≤ 1000000 := by rw [HOL.out, HN.out]; omega
      obtain ⟨A, c, hs, hrd, hcc⟩ := hown.reads hos
      have HS := Lib.hid hs; clear hs
      have HNo := Lib.hid (show N = os.length from HOL.out.symm)
      rw [HNo.out] at hown ⊢
      have hown' := hown
      obtain ⟨h3, h4⟩ : A = some ⟨w.heap.size, 0, none⟩ ∧ c = os.length := by
        have := HS.out; rw [HNo.out] at this; cases this; exact ⟨rfl, rfl⟩
      subst h3; subst h4
      go_wp2_with (go_at_call 109; refine (trim_any _ _ _ _ hrd hcc).mono ?_; rintro e w' ⟨rfl, rfl⟩)
      go_ret
      refine ⟨_, trimN os, rfl, hown.trim, trimN_trimmed _, trimN_bnd hob, ?_, hbel⟩
      rw [trimN_val, HV.out, List.take_length]

/-- The product. -/
theorem times_any (a b : Nat) (A1 A2 : Option Addr) (l1 l2 c1 c2 : Nat) (w : World) (h1 : Num w A1 l1 c1 a) (h2 : Num w A2 l2 c2 b) (hs1 : l1 ≤ 100000) (hs2 : l2 ≤ 100000) :
    Calls Tryz.prog 64 #[.slice A1 l1 c1, .slice A2 l2 c2] w fun e w' => ∃ v, e = .returned v ∧ Owns w' w.heap.size 98 .u64 v (limbs B9 (a * b)) ∧ Below w.heap.size w w' := by
  obtain ⟨rfl, hc1, hr1⟩ := h1
  obtain ⟨rfl, hc2, hr2⟩ := h2
  refine (times_core _ _ _ _ _ _ w hr1 hr2 (bnd_limbs B9_two a) (bnd_limbs B9_two b) hs1 hs2).mono ?_
  rintro e w' ⟨v, zs, rfl, ho, ht, hb, hv, hbel⟩
  rw [val_limbs B9_two, val_limbs B9_two] at hv
  rw [← trimN_eq_limbs B9_two hb hv, ht]
  exact ⟨v, rfl, ho, hbel⟩
end Go.Proofs.Cr
namespace Go.Proofs.Cr
open Go.RowKit

set_option maxRecDepth 100000 in
set_option maxHeartbeats 1000000 in
theorem clone_any (xs : List Nat) (A : Option Addr) (c : Nat) (w : World) (h1 : Reads w .u64 A xs) (hs1 : xs.length ≤ 100000) :
    Calls Tryz.prog 124 #[.slice A xs.length c] w fun e w' => ∃ v, e = .returned v ∧ Owns w' w.heap.size 98 .u64 v xs ∧ Below w.heap.size w w' := by
  obtain ⟨i0, hi, hz0, hz1, hz2⟩ := info_parts info151
  have qT : ∀ (w : World) (a : Option Addr) (n c n' c' : Nat), (binOp .eql 93 (.slice a n c) (.slice none n' c')).run Tryz.prog w = .ok (.bool a.isNone) w := fun w a n c n' c' => Lib.run_eql_slice_nil w _ _ a n c n' c' Tryz.underlying93
  cases A with
  | none =>
    have hx : xs = [] := by
      rcases Nat.eq_zero_or_pos xs.length with h | h
      · exact List.eq_nil_of_length_eq_zero h
      · obtain ⟨b, off, e, _⟩ := h1.2 h; cases e
    subst hx
    go_enter Tryz.func124, Tryz.ntmps124
    go_wp2
    go_ret
    exact ⟨_, rfl, World.ownsRow_nil _ _ _ _, Below.refl _ _⟩
  | some ad =>
    have hcell : ∀ j u, (nums .u64 xs)[j]? = some u → w.cell? (ad.add j) = some u := by
      intro j u hj
      have hjl : j < xs.length := by
        have := (List.getElem?_eq_some_iff.1 hj).1
        rwa [nums_len] at this
      obtain ⟨b, off, e, hlt, hc⟩ := h1.2 (by omega)
      cases e
      rw [nums_get _ _ _ hjl] at hj
      cases hj
      rw [show (⟨b, off, none⟩ : Addr).add j = ⟨b, off + j, none⟩ from Addr.add_lit _ _ _]
      exact hc j hjl
    have hlt : 0 < xs.length → ad.block < w.heap.size := by
      intro h
      obtain ⟨b, off, e, hlt, hc⟩ := h1.2 h
      cases e; exact hlt
    go_enter Tryz.func124, Tryz.ntmps124
    go_wp2_with (at_builtin; refine wpList_append_own _ rfl _ _ 93 rfl w.heap.size 98 i0 (.int .u64 0) 1 8 Tryz.underlying93 hi hz0 hz1 hz2 rfl (by decide) (.slice (some ⟨w.heap.size, 0, none⟩) 0 0) 0 [] rfl ?c0 ad xs.length c (nums .u64 xs) rfl ?c1 ?c2 ?c3 ?c4 ?c5 ?c6 ?_)
    case c0 => exact ⟨rfl, .inr ⟨w.heap.size, 0, #[], rfl, Nat.le_refl _, heap_alloc_new w _, Nat.le_refl _, by unfold maxLen; omega, rfl, rfl⟩⟩
    case c1 => rw [nums_len, Nat.mul_one]
    case c2 =>
      intro j u hj
      have hp : 0 < xs.length := by
        have := (List.getElem?_eq_some_iff.1 hj).1
        rw [nums_len] at this; omega
      rw [← hcell j u hj]
      exact ((Below.refl _ w).alloc (Nat.le_refl _) _).cell (p := ad.add j) (by rw [show (ad.add j).block = ad.block from by unfold Addr.add; split <;> rfl]; exact hlt hp)
    case c3 => exact nums_one _ _
    case c4 => unfold maxLen; omega
    case c5 => omega
    case c6 => simp
    intro v1 w1 hown1 hg1 _
    go_wp2
    go_ret
    refine ⟨_, rfl, ?_, ((Below.refl _ w).alloc (Nat.le_refl _) _).grown hg1 (by simp) (fun k e => by cases e; exact Nat.le_refl _)⟩
    unfold Owns
    simpa using hown1
end Go.Proofs.Cr
/- slices.Backward over a number. -/
namespace Go.Proofs.Cr
open Go.RowKit Go.Shelf
attribute [local go_sem] Oper.semAt_some

/-- The blocks S lie as they lay. -/
def KeepS (S : Nat → Prop) (W W' : World) : Prop := ∀ b, S b → W'.heap[b]? = W.heap[b]?
theorem KeepS.refl (S : Nat → Prop) (W : World) : KeepS S W W := fun _ _ => rfl
theorem KeepS.trans {S : Nat → Prop} {A B C : World} (h : KeepS S A B) (k : KeepS S B C) : KeepS S A C := fun b hb => (k b hb).trans (h b hb)
theorem KeepS.of_below {S : Nat → Prop} {n : Nat} {A B : World} (h : Below n A B) (hs : ∀ b, S b → b < n) : KeepS S A B := fun b hb => h.block b (hs b hb)
theorem KeepS.cell {S : Nat → Prop} {A B : World} (h : KeepS S A B) {p : Addr} (hp : S p.block) : B.cell? p = A.cell? p := World.cell?_of_block (h p.block hp)
theorem KeepS.setCell {S : Nat → Prop} (W : World) {p : Addr} (v : Value) (hp : ¬ S p.block) : KeepS S W (W.setCell p v) := fun b hb => Below.heap_setCell W p v b (fun e => hp (e ▸ hb))
theorem KeepS.drew (S : Nat → Prop) (W : World) : KeepS S W W.drew := fun _ _ => rfl
theorem keepS_book {S : Nat → Prop} {n : Nat} (hs : ∀ b, S b → b < n) (W : World) (l : Nat) (o o' : Obj) (hl : n ≤ l) (_ : W.heap[l]? = some o) (_ : o.isCells = false) : KeepS S W (W.putObj l o') :=
  fun b hb => World.putObj_heap_other (by have := hs b hb; omega)

theorem stabI_owns {B : Nat} {C : Nat → Prop} {base e : Nat} {k : IntKind} {v : Value} {xs : List Nat} (hC : ∀ r, C r → v.ownBlock ≠ some r) : StabI B C (fun _ W => Owns W base e k v xs) := fun s W W' row hs hg hr => by
  refine hs.grown hg ?_
  cases hv : v.ownBlock with
  | none => exact .inr rfl
  | some g =>
    refine .inl fun e => ?_
    rcases hr g e.symm with h | ⟨_, o, ho, hn⟩
    · exact hC g h hv
    · rcases hs.2 with ⟨h1, _⟩ | ⟨g', cap, cur, h1, _, hh, _⟩
      · subst h1; simp [Value.ownBlock] at hv
      · subst h1
        simp [Value.ownBlock] at hv
        subst hv
        rw [hh] at ho
        cases ho
        cases hn

def sliceS (Bs : Nat) (A : Option Addr) (n : Nat) (b : Nat) : Prop := b = Bs ∨ (0 < n ∧ ∃ off, A = some ⟨b, off, none⟩)

set_option maxRecDepth 100000 in
set_option maxHeartbeats 2000000 in
theorem back1_any {F : Fence} (hW : Wide F) (n : Nat) (hn : 1 ≤ n) (l Bs c : Nat) (A : Option Addr) (xs : List Nat) (J Jx : Nat → World → Prop) (hlen : xs.length ≤ 100000)
    (hY : ∀ k W, k < xs.length → J k W → YieldAt F (n - 1) Tryz.prog l #[.int .i64 ((xs.length - 1 - k : Nat) : Int), .int .u64 (xs.getD (xs.length - 1 - k) 0 : Nat)] W fun e W' =>
      (e = .returned (.bool true) ∧ J (k + 1) W' ∧ KeepS (sliceS Bs A xs.length) W W') ∨ (e = .returned (.bool false) ∧ Jx (k + 1) W'))
    (W : World) (hBs : W.cell? ⟨Bs, 0, none⟩ = some (.slice A xs.length c)) (hr : Reads W .u64 A xs) (h0 : J 0 W) :
    CallsIn F n Tryz.prog 147 #[.func (.yield l) #[] #[], .pointer (some ⟨Bs, 0, none⟩)] W fun e W' => (∃ v, e = .returned v) ∧ (J xs.length W' ∨ ∃ k, k ≤ xs.length ∧ Jx k W') := by
  have hro := hW.ro
  refine callsIn_of_wp Tryz.func147 rfl (hW.fn _) ?_ hW.ro
  simp only [Tryz.ntmps147, List.size_toArray, List.length_cons, List.length_nil, Nat.reduceAdd, Nat.reduceSub, Array.replicate_succ, Array.replicate_zero, List.push_toArray, List.append_toArray, List.nil_append, List.cons_append]
  gi_wp2
  gi_loopw [3] (fun i wr => ∃ k : Nat, k ≤ xs.length ∧ i = .int .i64 ((xs.length : Int) - 1 - k) ∧ J k wr ∧ KeepS (sliceS Bs A xs.length) W wr)
    (fun i _ => (intOf i + 1).toNat)
  case atStart => exact ⟨0, Nat.zero_le _, by simp, h0, KeepS.refl _ _⟩
  case round =>
    obtain ⟨k, hk, rfl, hJ, hK⟩ := hrel
    by_cases hlt : k < xs.length
    · obtain ⟨b, off, rfl, hb, hc⟩ := hr.2 (by omega)
      have hcx := (hK.cell (p := ⟨b, off + (xs.length - 1 - k), none⟩) (.inr ⟨by omega, off, rfl⟩)).trans (hc _ (by omega))
      have hcs := (hK.cell (p := ⟨Bs, 0, none⟩) (.inl rfl)).trans hBs
      obtain ⟨j, hj⟩ : ∃ j, j = xs.length - 1 - k := ⟨_, rfl⟩
      obtain ⟨fn, tmps, assign, body, hy, hR⟩ := hY k wr hlt hJ
      rw [← hj] at hcx hy
      have hji : (xs.length : Int) - 1 - k = j := by omega
      rw [hji]
      have hjl : j < xs.length := by omega
      have HJ := Lib.hid hj; clear hj
      have HJI := Lib.hid hji; clear hji hc
      obtain ⟨x, hx⟩ : ∃ x, x = xs.getD j 0 := ⟨_, rfl⟩
      rw [← hx] at hcx hy
      clear hx
      gi_wp2
      refine hR.mono ?_
      rintro e W3 (⟨rfl, hJ3, hk3⟩ | ⟨rfl, hJx3⟩)
      · gi_wp2
        go_roundw
        case rel =>
          have hk1 : k + 1 ≤ xs.length := hlt
          have hj1 : (xs.length : Int) - 1 - ((k + 1 : Nat) : Int) = (j : Int) - 1 := by have := HJI.out; omega
          exact ⟨k + 1, hk1, by rw [hj1], hJ3, hK.trans hk3⟩
        case measure =>
          simp [intOf]
      · gi_wp2
        refine bodyPost_ret (results_none rfl _ _ _) rfl ?_
        exact ⟨⟨_, rfl⟩, .inr ⟨k + 1, by omega, hJx3⟩⟩
    · have hkk : k = xs.length := by omega
      subst hkk
      gi_wp2
      go_end0
      exact ⟨⟨_, rfl⟩, .inl hJ⟩
theorem back_any (A : Option Addr) (l c : Nat) (w : World) :
    Calls Tryz.prog 115 #[.slice A l c] w fun e w' => e = .returned (.func (.func 147) #[] #[.pointer (some ⟨w.heap.size, 0, none⟩)]) ∧ w.alloc (.cells #[.slice A l c] 93) = w' := by
  go_enter Tryz.func115, Tryz.ntmps115
  go_wp2
  go_ret
  exact ⟨rfl, rfl⟩
theorem back_seq {F : Fence} (hW : Wide F) (n : Nat) (hn : 1 ≤ n) (Bs c : Nat) (A : Option Addr) (xs : List Nat) (hlen : xs.length ≤ 100000) (w : World) (hBs : Bs < w.heap.size)
    (hc : w.cell? ⟨Bs, 0, none⟩ = some (.slice A xs.length c)) (hr : Reads w .u64 A xs) :
    SeqK F n Tryz.prog 147 #[.pointer (some ⟨Bs, 0, none⟩)] (fun k => #[.int .i64 ((xs.length - 1 - k : Nat) : Int), .int .u64 (xs.getD (xs.length - 1 - k) 0 : Nat)]) xs.length (fun _ => False) (KeepS (sliceS Bs A xs.length)) w :=
  fun l J Jx W hWW _ _ hY h0 =>
    back1_any hW n hn l Bs c A xs J Jx hlen hY W ((hWW.cell (p := ⟨Bs, 0, none⟩) hBs).trans hc) (hr.below hWW (Nat.le_refl _)) h0
end Go.Proofs.Cr
namespace Go.Proofs.Cr
open Go.RowKit

theorem minus_alg (p B v yv xv bw x y z nb : Nat) (h : v + yv = xv + p * bw) (hz : z + (bw + y) = x + B * nb) : (v + p * z) + (yv + p * y) = (xv + p * x) + p * B * nb := by
  have : p * (z + (bw + y)) = p * (x + B * nb) := by rw [hz]
  grind
/-- One digit of a difference: y is 0 behind the end of what is taken away. -/
theorem minus_round (xs ys os : List Nat) (i bw z nb : Nat) (hi : i < xs.length) (hl : os.length = xs.length) (ho : Bnd B9 os) (hz : z < B9)
    (hv : val B9 (os.take i) + val B9 (ys.take i) = val B9 (xs.take i) + B9 ^ i * bw) (hd : os.drop i = xs.drop i)
    (he : z + (bw + (if i < ys.length then ys.getD i 0 else 0)) = xs.getD i 0 + B9 * nb) :
    Bnd B9 (os.set i z) ∧ val B9 ((os.set i z).take (i + 1)) + val B9 (ys.take (i + 1)) = val B9 (xs.take (i + 1)) + B9 ^ (i + 1) * nb ∧ (os.set i z).drop (i + 1) = xs.drop (i + 1) := by
  refine ⟨ho.set _ hz, ?_, ?_⟩
  · rw [val_set_take _ _ _ _ (by omega), val_take_succ _ _ _ hi, Nat.pow_succ]
    by_cases hy : i < ys.length
    · rw [if_pos hy] at he
      rw [val_take_succ _ _ _ hy]
      exact minus_alg _ _ _ _ _ _ _ _ _ _ hv he
    · rw [if_neg hy] at he
      rw [List.take_of_length_le (by omega : ys.length ≤ i + 1), ← List.take_of_length_le (by omega : ys.length ≤ i)]
      have := minus_alg (B9 ^ i) B9 _ _ _ bw _ 0 z nb hv he
      rwa [Nat.mul_zero, Nat.add_zero] at this
  · rw [drop_set_lt _ _ _ _ (by omega)]
    have := congrArg (List.drop 1) hd
    rwa [List.drop_drop, List.drop_drop] at this
theorem getD_of_drop {xs os : List Nat} {i : Nat} (h : os.drop i = xs.drop i) : os.getD i 0 = xs.getD i 0 := by
  have := congrArg (fun l => l.getD 0 0) h
  simpa [List.getD_eq_getElem?_getD, List.getElem?_drop] using this
theorem minus_end (xs ys os : List Nat) (bw : Nat) (hl : os.length = xs.length) (ho : Bnd B9 os) (hy : ys.length ≤ xs.length) (hle : val B9 ys ≤ val B9 xs)
    (hv : val B9 (os.take xs.length) + val B9 (ys.take xs.length) = val B9 (xs.take xs.length) + B9 ^ xs.length * bw) : val B9 os = val B9 xs - val B9 ys := by
  rw [List.take_of_length_le (by omega), List.take_of_length_le hy, List.take_length] at hv
  have h1 := val_lt ho
  rw [hl] at h1
  have : bw = 0 := by
    apply Nat.eq_zero_of_not_pos
    intro hb
    have : B9 ^ xs.length * 1 ≤ B9 ^ xs.length * bw := Nat.mul_le_mul_left _ hb
    omega
  subst this
  omega

set_option maxRecDepth 100000 in
set_option maxHeartbeats 4000000 in
theorem minus_core (xs ys : List Nat) (A1 A2 : Option Addr) (c1 c2 : Nat) (w : World) (h1 : Reads w .u64 A1 xs) (h2 : Reads w .u64 A2 ys)
    (ha : Bnd B9 xs) (hb : Bnd B9 ys) (hs1 : xs.length ≤ 100000) (hy : ys.length ≤ xs.length) (hle : val B9 ys ≤ val B9 xs) :
    Calls Tryz.prog 91 #[.slice A1 xs.length c1, .slice A2 ys.length c2] w fun e w' => ∃ v zs, e = .returned v ∧ Owns w' w.heap.size 98 .u64 v zs ∧ Trimmed zs ∧ Bnd B9 zs ∧ val B9 zs = val B9 xs - val B9 ys ∧ Below w.heap.size w w' := by
  go_enter Tryz.func91, Tryz.ntmps91
  go_wp2_with (go_at_call 124; refine (clone_any _ _ _ _ h1 hs1).mono ?_; rintro e w1 ⟨v, rfl, o1, hb1⟩; obtain ⟨A, c, rfl⟩ := o1.slice)
  go_loopw [6, 7, 8, 13] (fun bw _ _ iv wr => ∃ (i bwn : Nat) (os : List Nat), i ≤ xs.length ∧ iv = .int .i64 i ∧ bw = .int .u64 bwn ∧ bwn ≤ 1 ∧ Owns wr w.heap.size 98 .u64 (.slice A xs.length c) os ∧ os.length = xs.length ∧ Bnd B9 os ∧
      val B9 (os.take i) + val B9 (ys.take i) = val B9 (xs.take i) + B9 ^ i * bwn ∧ os.drop i = xs.drop i ∧ Below w.heap.size w wr)
    (fun _ _ _ i _ => xs.length - (intOf i).toNat)
  case atStart => exact ⟨0, 0, xs, Nat.zero_le _, rfl, rfl, by omega, o1, rfl, ha, by rw [List.take_zero, List.take_zero, Nat.mul_zero]; rfl, rfl, hb1⟩
  case round =>
    obtain ⟨i, bw, os, hi, rfl, rfl, hbw, hown, hol, hob, hval, hdrop, hbel⟩ := hrel
    have HV := Lib.hid hval; have HOL := Lib.hid hol; have HD := Lib.hid hdrop
    clear hval hol hdrop o1
    by_cases hlt : i < xs.length
    · obtain ⟨g, c', hgc⟩ := hown.form (by rw [HOL.out]; omega)
      obtain ⟨h3, _, h4⟩ := Value.slice.inj hgc
      subst h3; subst h4; clear hgc
      have hgb := hown.base_le
      have hcO := hown.cell i (by have := HOL.out; omega)
      have hfO := hown.free i
      obtain ⟨x, hx⟩ : ∃ x, x = os.getD i 0 := ⟨_, rfl⟩
      have hxb : x < 1000000000 := by rw [hx]; exact hob.getD B9_pos i
      rw [← hx] at hcO
      have HX := Lib.hid (show xs.getD i 0 = x by rw [hx]; exact (getD_of_drop HD.out).symm); clear hx
      by_cases hlt2 : i < ys.length
      · obtain ⟨b2, off2, rfl, hltb2, hcell2⟩ := h2.2 (by omega)
        have hcB := (hbel.cell (p := ⟨b2, off2 + i, none⟩) hltb2).trans (hcell2 i hlt2)
        obtain ⟨y, hy0⟩ : ∃ y, y = ys.getD i 0 := ⟨_, rfl⟩
        have hyb : y < 1000000000 := by rw [hy0]; exact hb.getD B9_pos i
        rw [← hy0] at hcB
        have HY := Lib.hid hy0; clear hy0 hcell2
        by_cases hxy : x < bw + y
        · have R := Lib.hid (minus_round xs ys os i bw (x + 1000000000 - (bw + y)) 1 hlt HOL.out hob (by rw [B9_eq]; omega) HV.out HD.out (by rw [if_pos hlt2, ← HY.out, HX.out, B9_eq]; omega))
          go_wp2
          obtain ⟨r1, r2, r3⟩ := R.out
          have R2 := Lib.hid r2; have R3 := Lib.hid r3; clear r2 r3
          go_roundw
          case rel =>
            have o2 := (hown.put i (x + 1000000000) ((x : Int) + 1000000000) (by omega) (by have := HOL.out; omega)).put i (x + 1000000000 - (bw + y)) ((x : Int) + 1000000000 - (bw + y)) (by omega) (by rw [List.length_set]; have := HOL.out; omega)
            rw [List.set_set] at o2
            exact ⟨i + 1, 1, _, by omega, by go_num, rfl, by omega, o2, by rw [List.length_set]; exact HOL.out, r1, R2.out, R3.out, (hbel.setCell (p := ⟨g, i, none⟩) hgb _).setCell (p := ⟨g, i, none⟩) hgb _⟩
          case measure => simp [intOf]; omega
        · have R := Lib.hid (minus_round xs ys os i bw (x - (bw + y)) 0 hlt HOL.out hob (by rw [B9_eq]; omega) HV.out HD.out (by rw [if_pos hlt2, ← HY.out, HX.out, B9_eq]; omega))
          go_wp2
          obtain ⟨r1, r2, r3⟩ := R.out
          have R2 := Lib.hid r2; have R3 := Lib.hid r3; clear r2 r3
          go_roundw
          case rel =>
            have o2 := hown.put i (x - (bw + y)) ((x : Int) - (bw + y)) (by omega) (by have := HOL.out; omega)
            exact ⟨i + 1, 0, _, by omega, by go_num, rfl, by omega, o2, by rw [List.length_set]; exact HOL.out, r1, R2.out, R3.out, hbel.setCell (p := ⟨g, i, none⟩) hgb _⟩
          case measure => simp [intOf]; omega
      · by_cases hxy : x < bw
        · have R := Lib.hid (minus_round xs ys os i bw (x + 1000000000 - bw) 1 hlt HOL.out hob (by rw [B9_eq]; omega) HV.out HD.out (by rw [if_neg hlt2, HX.out, B9_eq]; omega))
          go_wp2
          obtain ⟨r1, r2, r3⟩ := R.out
          have R2 := Lib.hid r2; have R3 := Lib.hid r3; clear r2 r3
          go_roundw
          case rel =>
            have o2 := (hown.put i (x + 1000000000) ((x : Int) + 1000000000) (by omega) (by have := HOL.out; omega)).put i (x + 1000000000 - bw) ((x : Int) + 1000000000 - bw) (by omega) (by rw [List.length_set]; have := HOL.out; omega)
            rw [List.set_set] at o2
            exact ⟨i + 1, 1, _, by omega, by go_num, rfl, by omega, o2, by rw [List.length_set]; exact HOL.out, r1, R2.out, R3.out, (hbel.setCell (p := ⟨g, i, none⟩) hgb _).setCell (p := ⟨g, i, none⟩) hgb _⟩
          case measure => simp [intOf]; omega
        · have R := Lib.hid (minus_round xs ys os i bw (x - bw) 0 hlt HOL.out hob (by rw [B9_eq]; omega) HV.out HD.out (by rw [if_neg hlt2, HX.out, B9_eq]; omega))
          go_wp2
          obtain ⟨r1, r2, r3⟩ := R.out
          have R2 := Lib.hid r2; have R3 := Lib.hid r3; clear r2 r3
          go_roundw
          case rel =>
            have o2 := hown.put i (x - bw) ((x : Int) - bw) (by omega) (by have := HOL.out; omega)
            exact ⟨i + 1, 0, _, by omega, by go_num, rfl, by omega, o2, by rw [List.length_set]; exact HOL.out, r1, R2.out, R3.out, hbel.setCell (p := ⟨g, i, none⟩) hgb _⟩
          case measure => simp [intOf]; omega
    · have hkk : i = xs.length := by omega
      subst hkk
      have hos : os.length ≤ 1000000 := by rw [HOL.out]; omega
      have HL := Lib.hid (show xs.length = os.length from HOL.out.symm)
      have hVE := Lib.hid (minus_end xs ys os bw HOL.out hob hy hle HV.out)
      rw [HL.out] at hown ⊢
      obtain ⟨A', c', hs, hrd, hcc⟩ := hown.reads hos
      obtain ⟨h3, _, h4⟩ := Value.slice.inj hs
      subst h3; subst h4; clear hs
      go_wp2_with (go_at_call 109; refine (trim_any _ _ _ _ hrd hcc).mono ?_; rintro e w' ⟨rfl, rfl⟩)
      go_ret
      exact ⟨_, trimN os, rfl, hown.trim, trimN_trimmed _, trimN_bnd hob, by rw [trimN_val, hVE.out], hbel⟩
/-- The difference. -/
theorem minus_any (a b : Nat) (A1 A2 : Option Addr) (l1 l2 c1 c2 : Nat) (w : World) (h1 : Num w A1 l1 c1 a) (h2 : Num w A2 l2 c2 b) (hs1 : l1 ≤ 100000) (hle : b ≤ a) :
    Calls Tryz.prog 91 #[.slice A1 l1 c1, .slice A2 l2 c2] w fun e w' => ∃ v, e = .returned v ∧ Owns w' w.heap.size 98 .u64 v (limbs B9 (a - b)) ∧ Below w.heap.size w w' := by
  obtain ⟨rfl, hc1, hr1⟩ := h1
  obtain ⟨rfl, hc2, hr2⟩ := h2
  refine (minus_core _ _ _ _ _ _ w hr1 hr2 (bnd_limbs B9_two a) (bnd_limbs B9_two b) hs1 (limbs_length_mono B9_two hle) (by rw [val_limbs B9_two, val_limbs B9_two]; exact hle)).mono ?_
  rintro e w' ⟨v, zs, rfl, ho, ht, hb, hv, hbel⟩
  rw [val_limbs B9_two, val_limbs B9_two] at hv
  rw [← trimN_eq_limbs B9_two hb hv, ht]
  exact ⟨v, rfl, ho, hbel⟩
end Go.Proofs.Cr
namespace Go.Proofs.Cr
open Go.RowKit

theorem mid_len (rs zs : List Nat) (i j : Nat) (hz : zs.length = j) (h : i + j ≤ rs.length) : (rs.take i ++ zs ++ rs.drop (i + j)).length = rs.length := by
  simp; omega
theorem mid_get (rs zs : List Nat) (i j : Nat) (hz : zs.length = j) (h : i + j < rs.length) : (rs.take i ++ zs ++ rs.drop (i + j)).getD (i + j) 0 = rs.getD (i + j) 0 := by
  have hl : (rs.take i ++ zs).length = i + j := by simp; omega
  rw [List.getD_eq_getElem?_getD, List.getD_eq_getElem?_getD, List.getElem?_append_right (by omega), hl, Nat.sub_self, List.getElem?_drop, Nat.add_zero]
theorem mid_set (rs zs : List Nat) (i j z : Nat) (hz : zs.length = j) (h : i + j < rs.length) : (rs.take i ++ zs ++ rs.drop (i + j)).set (i + j) z = rs.take i ++ (zs ++ [z]) ++ rs.drop (i + (j + 1)) := by
  have hl : (rs.take i ++ zs).length = i + j := by simp; omega
  rw [List.set_append_right _ _ (by omega), hl, Nat.sub_self]
  rw [List.drop_eq_getElem_cons h]
  simp [Nat.add_assoc]
theorem part_get (rs : List Nat) (i j m : Nat) (h : j < m) : ((rs.drop i).take m).getD j 0 = rs.getD (i + j) 0 := by
  rw [List.getD_eq_getElem?_getD, List.getD_eq_getElem?_getD, List.getElem?_take, if_pos h, List.getElem?_drop]

theorem take_round (ps ys zs : List Nat) (j t cy bw x y z nb : Nat) (hj : j < ps.length) (hz : zs.length = j) (hzb : Bnd B9 zs) (hx : ps.getD j 0 = x) (hy : (if j < ys.length then ys.getD j 0 else 0) = y)
    (hyb : y < 1000000000) (ht : t < 1000000000) (hcy : cy < 1000000000) (hbw : bw ≤ 1)
    (hv : val B9 zs + t * val B9 (ys.take j) = val B9 (ps.take j) + B9 ^ j * (cy + bw))
    (hzz : z + (cy + bw + y * t) % 1000000000 = x + 1000000000 * nb) (hzb' : z < 1000000000) :
    (cy + bw + y * t) / 1000000000 < 1000000000 ∧ Bnd B9 (zs ++ [z]) ∧
      val B9 (zs ++ [z]) + t * val B9 (ys.take (j + 1)) = val B9 (ps.take (j + 1)) + B9 ^ (j + 1) * ((cy + bw + y * t) / 1000000000 + nb) := by
  have h2 := mul_bound hyb ht
  refine ⟨by omega, hzb.snoc hzb', ?_⟩
  rw [val_snoc, hz, val_take_succ _ _ _ hj, hx]
  have hzv : z = x + B9 * nb - (cy + bw + y * t) % 1000000000 := by rw [B9_eq]; omega
  have key := take_step B9 j (val B9 zs) t (val B9 (ys.take j)) (val B9 (ps.take j)) (cy + bw) x y _ _ _ nb hv rfl rfl rfl (by rw [B9_eq]; omega)
  rw [show (B9 : Nat) = 1000000000 from rfl] at key hzv ⊢
  rw [← hzv] at key
  rw [← key]
  congr 1
  by_cases hys : j < ys.length
  · rw [if_pos hys] at hy
    rw [val_take_succ _ _ _ hys, hy]
  · rw [if_neg hys] at hy
    have e : ys.take (j + 1) = ys.take j := by rw [List.take_of_length_le (by omega), List.take_of_length_le (by omega)]
    rw [e, ← hy]
    simp

theorem cast3 (cy bw y t : Nat) : (cy : Int) + (bw : Int) + (y : Int) * (t : Int) = ((cy + bw + y * t : Nat) : Int) := by
  have : ((y * t : Nat) : Int) = (y : Int) * t := Int.natCast_mul y t
  omega
theorem cast3m (cy bw y t : Nat) : ((cy : Int) + (bw : Int) + (y : Int) * (t : Int)) % 1000000000 = ((cy + bw + y * t) % 1000000000 : Nat) := by rw [cast3]; omega
theorem cast3d (cy bw y t : Nat) : ((cy : Int) + (bw : Int) + (y : Int) * (t : Int)) / 1000000000 = ((cy + bw + y * t) / 1000000000 : Nat) := by rw [cast3]; omega
theorem cast2m (cy bw : Nat) : ((cy : Int) + (bw : Int)) % 1000000000 = ((cy + bw) % 1000000000 : Nat) := by omega
theorem cast2d (cy bw : Nat) : ((cy : Int) + (bw : Int)) / 1000000000 = ((cy + bw) / 1000000000 : Nat) := by omega

def TakePost (w : World) (base g n c i : Nat) (rs ys : List Nat) (m t : Nat) (e : Ending) (w' : World) : Prop :=
  ∃ (zs : List Nat) (cb : Nat), e = .returned (.bool (decide (cb = 0))) ∧ zs.length = m ∧ Bnd B9 zs ∧ val B9 zs + t * val B9 ys = val B9 ((rs.drop i).take m) + B9 ^ m * cb ∧
    Owns w' base 98 .u64 (.slice (some ⟨g, 0, none⟩) n c) (rs.take i ++ zs ++ rs.drop (i + m)) ∧ w.grownBy w' (some g)

theorem grown_set {w w' : World} {g : Nat} (h : w.grownBy w' (some g)) (j : Nat) (v : Value) : w.grownBy (w'.setCell ⟨g, j, none⟩ v) (some g) :=
  ⟨h.os, h.tape, h.output, by simp [World.setCell]; exact h.size, fun k hk hne => by rw [Below.heap_setCell _ _ _ _ (fun e => hne (by rw [e]))]; exact h.block k hk hne⟩
theorem grown_cell {w w' : World} {row : Option Nat} (h : w.grownBy w' row) {p : Addr} (hp : p.block < w.heap.size) (hne : some p.block ≠ row) : w'.cell? p = w.cell? p := World.cell?_of_block (h.block _ hp hne)

set_option maxRecDepth 100000 in
set_option maxHeartbeats 4000000 in
theorem take_any (rs ys : List Nat) (A2 : Option Addr) (base g n c pc c2 i m t : Nat) (w : World) (ho : Owns w base 98 .u64 (.slice (some ⟨g, 0, none⟩) n c) rs) (h2 : Reads w .u64 A2 ys)
    (hne : ∀ b off, A2 = some ⟨b, off, none⟩ → 0 < ys.length → b ≠ g) (him : i + m ≤ rs.length) (hm : m ≤ 1000000) (ha : Bnd B9 rs) (hb : Bnd B9 ys) (hym : ys.length ≤ m) (ht : t < 1000000000) :
    Calls Tryz.prog 141 #[.slice (some ⟨g, i, none⟩) m pc, .slice A2 ys.length c2, .int .u64 t] w (TakePost w base g n c i rs ys m t) := by
  have hpl : ((rs.drop i).take m).length = m := by simp; omega
  obtain ⟨ps, hps⟩ : ∃ ps, ps = (rs.drop i).take m := ⟨_, rfl⟩
  rw [← hps] at hpl
  have HPS := Lib.hid hps; have HPL := Lib.hid hpl; clear hps hpl
  go_enter Tryz.func141, Tryz.ntmps141
  go_wp2
  go_loopw [7, 8, 9, 10, 13] (fun cyv bwv _ _ iv wr => ∃ (j cy bw : Nat) (zs : List Nat), j ≤ m ∧ iv = .int .i64 j ∧ cyv = .int .u64 cy ∧ bwv = .int .u64 bw ∧ cy < 1000000000 ∧ bw ≤ 1 ∧ Owns wr base 98 .u64 (.slice (some ⟨g, 0, none⟩) n c) (rs.take i ++ zs ++ rs.drop (i + j)) ∧ zs.length = j ∧ Bnd B9 zs ∧
      val B9 zs + t * val B9 (ys.take j) = val B9 (ps.take j) + B9 ^ j * (cy + bw) ∧ w.grownBy wr (some g))
    (fun _ _ _ _ i _ => m - (intOf i).toNat)
  case atStart => exact ⟨0, 0, 0, [], Nat.zero_le _, rfl, rfl, rfl, by omega, by omega, by rw [List.append_nil, Nat.add_zero, List.take_append_drop]; exact ho, rfl, Bnd.nil _, by rw [List.take_zero, List.take_zero]; simp [val], World.grownBy.refl _ _⟩
  case round =>
    obtain ⟨j, cy, bw, zs, hj, rfl, rfl, rfl, hcy, hbw, hown, hzl, hzb, hval, hg⟩ := hrel
    have HV := Lib.hid hval; have HZL := Lib.hid hzl; have HO := Lib.hid ho
    clear hval hzl
    by_cases hlt : j < m
    · have hgl := mid_len rs zs i j HZL.out (by omega)
      obtain ⟨L, hL⟩ : ∃ L, L = rs.take i ++ zs ++ rs.drop (i + j) := ⟨_, rfl⟩
      have HG := Lib.hid (mid_get rs zs i j HZL.out (by omega))
      have HS := Lib.hid (fun z => mid_set rs zs i j z HZL.out (by omega))
      rw [← hL] at hown hgl
      have hcO := hown.cell (i + j) (by omega)
      have hfO := hown.free (i + j)
      obtain ⟨x, hx⟩ : ∃ x, x = L.getD (i + j) 0 := ⟨_, rfl⟩
      rw [← hx] at hcO
      have hx2 : rs.getD (i + j) 0 = x := by rw [hx, hL, HG.out]
      have hxb : x < 1000000000 := by rw [← hx2]; exact ha.getD B9_pos _
      have HX := Lib.hid (show ps.getD j 0 = x by rw [HPS.out, part_get _ _ _ _ hlt, hx2])
      have HLen := Lib.hid hgl
      have HL := Lib.hid hL
      clear hx hx2 hL hgl ho
      by_cases hlt2 : j < ys.length
      · obtain ⟨b2, off2, rfl, hltb2, hcell2⟩ := h2.2 (by omega)
        have hbg : b2 ≠ g := hne b2 off2 rfl (by omega)
        have hcB := (grown_cell hg (p := ⟨b2, off2 + j, none⟩) hltb2 (by simpa using hbg)).trans (hcell2 j hlt2)
        obtain ⟨y, hy0⟩ : ∃ y, y = ys.getD j 0 := ⟨_, rfl⟩
        have hyb : y < 1000000000 := by rw [hy0]; exact hb.getD B9_pos j
        rw [← hy0] at hcB
        have HY := Lib.hid (show (if j < ys.length then ys.getD j 0 else 0) = y by rw [if_pos hlt2, hy0]); clear hy0 hcell2
        have hyt := mul_bound hyb ht
        have hyt1 : (y : Int) * (t : Int) ≤ 999999998000000001 := cast_mul_le y t hyt
        have hyt0 : 0 ≤ (y : Int) * (t : Int) := cast_mul_nn y t
        clear hyt
        obtain ⟨ls, hls⟩ : ∃ ls, ls = (cy + bw + y * t) % 1000000000 := ⟨_, rfl⟩
        have hlsb : ls < 1000000000 := by rw [hls]; exact Nat.mod_lt _ (by decide)
        have HLS := Lib.hid (show ((cy : Int) + bw + (y : Int) * t) % 1000000000 = (ls : Int) by rw [cast3m, hls])
        have HLN := Lib.hid hls; clear hls
        by_cases hxy : x < ls
        · have R := Lib.hid (take_round ps ys zs j t cy bw x y (x + 1000000000 - ls) 1 (by rw [HPL.out]; exact hlt) HZL.out hzb HX.out HY.out hyb ht hcy hbw HV.out (by rw [← HLN.out]; omega) (by omega))
          have hxyI : (x : Int) < ((cy : Int) + bw + (y : Int) * t) % 1000000000 := by rw [HLS.out]; omega
          go_wp2
          obtain ⟨r1, r2, r3⟩ := R.out
          have R1 := Lib.hid r1; have R2 := Lib.hid r2; have R3 := Lib.hid r3; clear r1 r2 r3
          go_roundw
          case rel =>
            have o2 := (hown.put (i + j) (x + 1000000000) ((x : Int) + 1000000000) (by omega) (by have := HLen.out; omega)).put (i + j) (x + 1000000000 - ls) ((x : Int) + 1000000000 - ((cy : Int) + bw + (y : Int) * t) % 1000000000) (by rw [HLS.out]; omega) (by rw [List.length_set]; have := HLen.out; omega)
            rw [List.set_set, HL.out, HS.out] at o2
            exact ⟨j + 1, (cy + bw + y * t) / 1000000000, 1, zs ++ [x + 1000000000 - ls], by omega, by go_num, by rw [cast3d], rfl, R1.out, by omega, o2, by rw [List.length_append, HZL.out]; rfl, R2.out, R3.out, grown_set (grown_set hg _ _) _ _⟩
          case measure => simp [intOf]; omega
        · have R := Lib.hid (take_round ps ys zs j t cy bw x y (x - ls) 0 (by rw [HPL.out]; exact hlt) HZL.out hzb HX.out HY.out hyb ht hcy hbw HV.out (by rw [← HLN.out]; omega) (by omega))
          have hxyI : ¬ (x : Int) < ((cy : Int) + bw + (y : Int) * t) % 1000000000 := by rw [HLS.out]; omega
          go_wp2
          obtain ⟨r1, r2, r3⟩ := R.out
          have R1 := Lib.hid r1; have R2 := Lib.hid r2; have R3 := Lib.hid r3; clear r1 r2 r3
          go_roundw
          case rel =>
            have o2 := hown.put (i + j) (x - ls) ((x : Int) - ((cy : Int) + bw + (y : Int) * t) % 1000000000) (by rw [HLS.out]; omega) (by have := HLen.out; omega)
            rw [HL.out, HS.out] at o2
            exact ⟨j + 1, (cy + bw + y * t) / 1000000000, 0, zs ++ [x - ls], by omega, by go_num, by rw [cast3d], rfl, R1.out, by omega, o2, by rw [List.length_append, HZL.out]; rfl, R2.out, R3.out, grown_set hg _ _⟩
          case measure => simp [intOf]; omega
      · obtain ⟨ls, hls⟩ : ∃ ls, ls = (cy + bw) % 1000000000 := ⟨_, rfl⟩
        have hlsb : ls < 1000000000 := by rw [hls]; exact Nat.mod_lt _ (by decide)
        have HLS := Lib.hid (show ((cy : Int) + bw) % 1000000000 = (ls : Int) by rw [cast2m, hls])
        have HLN := Lib.hid hls; clear hls
        by_cases hxy : x < ls
        · have R := Lib.hid (take_round ps ys zs j t cy bw x 0 (x + 1000000000 - ls) 1 (by rw [HPL.out]; exact hlt) HZL.out hzb HX.out (if_neg hlt2) (by omega) ht hcy hbw HV.out (by rw [Nat.zero_mul]; have h := HLN.out; omega) (by omega))
          have hxyI : (x : Int) < ((cy : Int) + bw) % 1000000000 := by rw [HLS.out]; omega
          go_wp2
          obtain ⟨r1, r2, r3⟩ := R.out
          rw [Nat.zero_mul, Nat.add_zero] at r1 r3
          have R1 := Lib.hid r1; have R2 := Lib.hid r2; have R3 := Lib.hid r3; clear r1 r2 r3
          go_roundw
          case rel =>
            have o2 := (hown.put (i + j) (x + 1000000000) ((x : Int) + 1000000000) (by omega) (by have := HLen.out; omega)).put (i + j) (x + 1000000000 - ls) ((x : Int) + 1000000000 - ((cy : Int) + bw) % 1000000000) (by rw [HLS.out]; omega) (by rw [List.length_set]; have := HLen.out; omega)
            rw [List.set_set, HL.out, HS.out] at o2
            exact ⟨j + 1, (cy + bw) / 1000000000, 1, zs ++ [x + 1000000000 - ls], by omega, by go_num, by rw [cast2d], rfl, R1.out, by omega, o2, by rw [List.length_append, HZL.out]; rfl, R2.out, R3.out, grown_set (grown_set hg _ _) _ _⟩
          case measure => simp [intOf]; omega
        · have R := Lib.hid (take_round ps ys zs j t cy bw x 0 (x - ls) 0 (by rw [HPL.out]; exact hlt) HZL.out hzb HX.out (if_neg hlt2) (by omega) ht hcy hbw HV.out (by rw [Nat.zero_mul]; have h := HLN.out; omega) (by omega))
          have hxyI : ¬ (x : Int) < ((cy : Int) + bw) % 1000000000 := by rw [HLS.out]; omega
          go_wp2
          obtain ⟨r1, r2, r3⟩ := R.out
          rw [Nat.zero_mul, Nat.add_zero] at r1 r3
          have R1 := Lib.hid r1; have R2 := Lib.hid r2; have R3 := Lib.hid r3; clear r1 r2 r3
          go_roundw
          case rel =>
            have o2 := hown.put (i + j) (x - ls) ((x : Int) - ((cy : Int) + bw) % 1000000000) (by rw [HLS.out]; omega) (by have := HLen.out; omega)
            rw [HL.out, HS.out] at o2
            exact ⟨j + 1, (cy + bw) / 1000000000, 0, zs ++ [x - ls], by omega, by go_num, by rw [cast2d], rfl, R1.out, by omega, o2, by rw [List.length_append, HZL.out]; rfl, R2.out, R3.out, grown_set hg _ _⟩
          case measure => simp [intOf]; omega
    · have hkk : j = m := by omega
      subst hkk
      have HE := Lib.hid (show val B9 zs + t * val B9 ys = val B9 ps + B9 ^ j * (cy + bw) by
        have := HV.out
        rwa [List.take_of_length_le hym, List.take_of_length_le (by rw [HPL.out]; omega)] at this)
      by_cases hb0 : bw = 0
      · have hb1 : ((bw : Int) == 0) = true := by simp; omega
        by_cases hc0 : cy = 0
        · have hc1 : ((cy : Int) == 0) = true := by simp; omega
          go_wp2
          go_ret
          exact ⟨zs, cy + bw, by simp [hb0, hc0], HZL.out, hzb, by rw [HE.out, HPS.out], hown, hg⟩
        · have hc1 : ((cy : Int) == 0) = false := by simp; omega
          go_wp2
          go_ret
          exact ⟨zs, cy + bw, by simp [hc0], HZL.out, hzb, by rw [HE.out, HPS.out], hown, hg⟩
      · have hb1 : ((bw : Int) == 0) = false := by simp; omega
        go_wp2
        go_ret
        exact ⟨zs, cy + bw, by simp [hb0], HZL.out, hzb, by rw [HE.out, HPS.out], hown, hg⟩
end Go.Proofs.Cr
namespace Go.Proofs.Cr
open Go.RowKit

theorem give_round (ps ys zs : List Nat) (j cy x y : Nat) (hj : j < ps.length) (hz : zs.length = j) (hzb : Bnd B9 zs) (hx : ps.getD j 0 = x) (hy : (if j < ys.length then ys.getD j 0 else 0) = y)
    (hxb : x < 1000000000) (hyb : y < 1000000000) (hcy : cy ≤ 1) (hv : val B9 zs + B9 ^ j * cy = val B9 (ps.take j) + val B9 (ys.take j)) :
    (cy + x + y) / 1000000000 ≤ 1 ∧ Bnd B9 (zs ++ [(cy + x + y) % 1000000000]) ∧
      val B9 (zs ++ [(cy + x + y) % 1000000000]) + B9 ^ (j + 1) * ((cy + x + y) / 1000000000) = val B9 (ps.take (j + 1)) + val B9 (ys.take (j + 1)) := by
  refine ⟨by omega, hzb.snoc (Nat.mod_lt _ (by decide)), ?_⟩
  rw [val_snoc, hz, val_take_succ _ _ _ hj, hx]
  by_cases hys : j < ys.length
  · rw [if_pos hys] at hy
    rw [val_take_succ _ _ _ hys, hy]
    exact plus_step B9 j _ _ _ cy _ _ _ _ hv (by rw [B9_eq]; omega)
  · rw [if_neg hys] at hy
    have e : ys.take (j + 1) = ys.take j := by rw [List.take_of_length_le (by omega), List.take_of_length_le (by omega)]
    have := plus_step B9 j _ _ _ cy ((cy + x + y) % 1000000000) ((cy + x + y) / 1000000000) x 0 hv (by rw [B9_eq]; omega)
    rw [e]
    simpa using this

def GivePost (w : World) (base g n c i : Nat) (rs ys : List Nat) (m : Nat) (e : Ending) (w' : World) : Prop :=
  ∃ (zs : List Nat) (cb : Nat), e = .returned (.tuple #[]) ∧ zs.length = m ∧ Bnd B9 zs ∧ val B9 zs + B9 ^ m * cb = val B9 ((rs.drop i).take m) + val B9 ys ∧
    Owns w' base 98 .u64 (.slice (some ⟨g, 0, none⟩) n c) (rs.take i ++ zs ++ rs.drop (i + m)) ∧ w.grownBy w' (some g)

set_option maxRecDepth 100000 in
set_option maxHeartbeats 4000000 in
theorem give_any (rs ys : List Nat) (A2 : Option Addr) (base g n c pc c2 i m : Nat) (w : World) (ho : Owns w base 98 .u64 (.slice (some ⟨g, 0, none⟩) n c) rs) (h2 : Reads w .u64 A2 ys)
    (hne : ∀ b off, A2 = some ⟨b, off, none⟩ → 0 < ys.length → b ≠ g) (him : i + m ≤ rs.length) (hm : m ≤ 1000000) (ha : Bnd B9 rs) (hb : Bnd B9 ys) (hym : ys.length ≤ m) :
    Calls Tryz.prog 142 #[.slice (some ⟨g, i, none⟩) m pc, .slice A2 ys.length c2] w (GivePost w base g n c i rs ys m) := by
  have hpl : ((rs.drop i).take m).length = m := by simp; omega
  obtain ⟨ps, hps⟩ : ∃ ps, ps = (rs.drop i).take m := ⟨_, rfl⟩
  rw [← hps] at hpl
  have HPS := Lib.hid hps; have HPL := Lib.hid hpl; clear hps hpl
  go_enter Tryz.func142, Tryz.ntmps142
  go_wp2
  go_loopw [4, 5, 8] (fun cyv _ iv wr => ∃ (j cy : Nat) (zs : List Nat), j ≤ m ∧ iv = .int .i64 j ∧ cyv = .int .u64 cy ∧ cy ≤ 1 ∧ Owns wr base 98 .u64 (.slice (some ⟨g, 0, none⟩) n c) (rs.take i ++ zs ++ rs.drop (i + j)) ∧ zs.length = j ∧ Bnd B9 zs ∧
      val B9 zs + B9 ^ j * cy = val B9 (ps.take j) + val B9 (ys.take j) ∧ w.grownBy wr (some g))
    (fun _ _ i _ => m - (intOf i).toNat)
  case atStart => exact ⟨0, 0, [], Nat.zero_le _, rfl, rfl, by omega, by rw [List.append_nil, Nat.add_zero, List.take_append_drop]; exact ho, rfl, Bnd.nil _, by rw [List.take_zero, List.take_zero]; simp [val], World.grownBy.refl _ _⟩
  case round =>
    obtain ⟨j, cy, zs, hj, rfl, rfl, hcy, hown, hzl, hzb, hval, hg⟩ := hrel
    have HV := Lib.hid hval; have HZL := Lib.hid hzl; have HO := Lib.hid ho
    clear hval hzl
    by_cases hlt : j < m
    · have hgl := mid_len rs zs i j HZL.out (by omega)
      obtain ⟨L, hL⟩ : ∃ L, L = rs.take i ++ zs ++ rs.drop (i + j) := ⟨_, rfl⟩
      have HG := Lib.hid (mid_get rs zs i j HZL.out (by omega))
      have HS := Lib.hid (fun z => mid_set rs zs i j z HZL.out (by omega))
      rw [← hL] at hown hgl
      have hcO := hown.cell (i + j) (by omega)
      have hfO := hown.free (i + j)
      obtain ⟨x, hx⟩ : ∃ x, x = L.getD (i + j) 0 := ⟨_, rfl⟩
      rw [← hx] at hcO
      have hx2 : rs.getD (i + j) 0 = x := by rw [hx, hL, HG.out]
      have hxb : x < 1000000000 := by rw [← hx2]; exact ha.getD B9_pos _
      have HX := Lib.hid (show ps.getD j 0 = x by rw [HPS.out, part_get _ _ _ _ hlt, hx2])
      have HLen := Lib.hid hgl
      have HL := Lib.hid hL
      clear hx hx2 hL hgl ho
      by_cases hlt2 : j < ys.length
      · obtain ⟨b2, off2, rfl, hltb2, hcell2⟩ := h2.2 (by omega)
        have hbg : b2 ≠ g := hne b2 off2 rfl (by omega)
        have hcB := (grown_cell hg (p := ⟨b2, off2 + j, none⟩) hltb2 (by simpa using hbg)).trans (hcell2 j hlt2)
        obtain ⟨y, hy0⟩ : ∃ y, y = ys.getD j 0 := ⟨_, rfl⟩
        have hyb : y < 1000000000 := by rw [hy0]; exact hb.getD B9_pos j
        rw [← hy0] at hcB
        have HY := Lib.hid (show (if j < ys.length then ys.getD j 0 else 0) = y by rw [if_pos hlt2, hy0]); clear hy0 hcell2
        have R := Lib.hid (give_round ps ys zs j cy x y (by rw [HPL.out]; exact hlt) HZL.out hzb HX.out HY.out hxb hyb hcy HV.out)
        go_wp2
        obtain ⟨r1, r2, r3⟩ := R.out
        have R1 := Lib.hid r1; have R2 := Lib.hid r2; have R3 := Lib.hid r3; clear r1 r2 r3
        go_roundw
        case rel =>
          have o2 := hown.put (i + j) ((cy + x + y) % 1000000000) (((cy : Int) + x + y) % 1000000000) (by omega) (by have := HLen.out; omega)
          rw [HL.out, HS.out] at o2
          exact ⟨j + 1, (cy + x + y) / 1000000000, zs ++ [(cy + x + y) % 1000000000], by omega, by go_num, by go_num, R1.out, o2, by rw [List.length_append, HZL.out]; rfl, R2.out, R3.out, grown_set hg _ _⟩
        case measure => simp [intOf]; omega
      · have R := Lib.hid (give_round ps ys zs j cy x 0 (by rw [HPL.out]; exact hlt) HZL.out hzb HX.out (if_neg hlt2) hxb (by omega) hcy HV.out)
        go_wp2
        obtain ⟨r1, r2, r3⟩ := R.out
        simp only [Nat.add_zero] at r1 r2 r3
        have R1 := Lib.hid r1; have R2 := Lib.hid r2; have R3 := Lib.hid r3; clear r1 r2 r3
        go_roundw
        case rel =>
          have o2 := hown.put (i + j) ((cy + x) % 1000000000) (((cy : Int) + x) % 1000000000) (by omega) (by have := HLen.out; omega)
          rw [HL.out, HS.out] at o2
          exact ⟨j + 1, (cy + x) / 1000000000, zs ++ [(cy + x) % 1000000000], by omega, by go_num, by go_num, R1.out, o2, by rw [List.length_append, HZL.out]; rfl, R2.out, R3.out, grown_set hg _ _⟩
        case measure => simp [intOf]; omega
    · have hkk : j = m := by omega
      subst hkk
      go_wp2
      go_end0
      refine ⟨zs, cy, rfl, HZL.out, hzb, ?_, hown, hg⟩
      have := HV.out
      rwa [List.take_of_length_le hym, List.take_of_length_le (by rw [HPL.out]; omega), HPS.out] at this
end Go.Proofs.Cr
namespace Go.Proofs.Cr
open Go.RowKit Go.Shelf
attribute [local go_sem] Oper.semAt_some

theorem drop_step {xs ys : List Nat} {j : Nat} (hx : j < xs.length) (hy : j < ys.length) (h : xs.drop (j + 1) = ys.drop (j + 1)) (e : xs.getD j 0 = ys.getD j 0) : xs.drop j = ys.drop j := by
  rw [List.drop_eq_getElem_cons hx, List.drop_eq_getElem_cons hy, h]
  simp [List.getD_eq_getElem?_getD, hx, hy] at e
  rw [e]

set_option maxRecDepth 100000 in
set_option maxHeartbeats 2000000 in
theorem cmp_eq {F : Fence} (hW : Wide F) (n : Nat) (hn : 3 ≤ n) (xs ys : List Nat) (A1 A2 : Option Addr) (c1 c2 : Nat) (w : World) (h1 : Reads w .u64 A1 xs) (h2 : Reads w .u64 A2 ys)
    (ha : Bnd B9 xs) (hb : Bnd B9 ys) (hs1 : xs.length ≤ 100000) (hl : xs.length = ys.length) :
    CallsIn F n Tryz.prog 73 #[.slice A1 xs.length c1, .slice A2 ys.length c2] w fun e w' => ∃ r : Int, e = .returned (.int .i64 r) ∧ -1 ≤ r ∧ r ≤ 1 ∧ (r < 0 ↔ val B9 xs < val B9 ys) ∧ (0 < r ↔ val B9 ys < val B9 xs) ∧ Below w.heap.size w w' := by
  have hro := hW.ro
  have h0 : 1 ≤ n := by omega
  have hf := hW.fn 115
  refine callsIn_of_wp_marks Tryz.func73 rfl (hW.fn _) ?_ hW.ro
  simp only [Tryz.ntmps73, List.size_toArray, List.length_cons, List.length_nil, Nat.reduceAdd, Nat.reduceSub, Array.replicate_succ, Array.replicate_zero, List.push_toArray, List.append_toArray, List.nil_append, List.cons_append]
  have hne : ((xs.length : Int) != ys.length) = false := by simp [hl]
  have HL := Lib.hid hl; clear hl
  gi_wp2_with (gi_at_call 115; refine (hW.tr (back_any _ _ _ _)).mono ?_; rintro e w' ⟨rfl, rfl⟩)
  have bM := VarIs.new w (.slice A2 ys.length c2) 93
  have bR := VarIs.new (w.alloc (.cells #[.slice A2 ys.length c2] 93)) (.int .i64 0) 3
  have bN := VarIs.new ((w.alloc (.cells #[.slice A2 ys.length c2] 93)).alloc (.cells #[.int .i64 0] 3)) (.slice A1 xs.length c1) 93
  simp only [World.size_alloc] at bR bN
  have hB0 : Below w.heap.size w (((w.alloc (.cells #[.slice A2 ys.length c2] 93)).alloc (.cells #[.int .i64 0] 3)).alloc (.cells #[.slice A1 xs.length c1] 93)) := (((Below.refl _ w).alloc (Nat.le_refl _) _).alloc (by simp) _).alloc (by simp; omega) _
  refine wpIn_range hW h0 (gf := 147) (lb := #[.pointer (some ⟨w.heap.size + 1 + 1, 0, none⟩)]) rfl (enters_of Tryz.func147 (by kernel_rfl) rfl)
    (back_seq hW (n - 1) (by omega) (w.heap.size + 1 + 1) c1 A1 xs hs1 _ (by simp) bN.1 (h1.below hB0 (Nat.le_refl _))) (fun _ h => h.elim) (fun h k => h.trans k) ?hKb (Below.refl _ _) (fun _ => rfl)
    (fun k W => (xs.drop (xs.length - k) = ys.drop (xs.length - k)) ∧ VarIs W w.heap.size (.slice A2 ys.length c2) ∧ VarIs W (w.heap.size + 1) (.int .i64 0) ∧ Below w.heap.size w W)
    (fun c k W => ∃ r : Int, ((c = .ret ∧ -1 ≤ r ∧ r ≤ 1 ∧ (r < 0 ↔ val B9 xs < val B9 ys) ∧ (0 < r ↔ val B9 ys < val B9 xs)) ∧ VarIs W (w.heap.size + 1) (.int .i64 r)) ∧ Below w.heap.size w W)
    ((stabI_pure _).and ((stabI_var (fun h => h)).and ((stabI_var (fun h => h)).and (stabI_below (by simp; omega) (Nat.le_refl _) (fun _ h => h.elim)))))
    (fun c => stabI_ex fun r => ((stabI_pure _).and (stabI_var (fun h => h))).and (stabI_below (by simp; omega) (Nat.le_refl _) (fun _ h => h.elim)))
    ⟨by simp [List.drop_of_length_le, HL.out], (bM.alloc _).alloc _, bR.alloc _, hB0⟩
    ?round ?done ?stop
  case hKb =>
    intro W l o o' hl ho hc
    refine keepS_book (n := w.heap.size + 3) ?_ W l o o' (by simp at hl; omega) ho hc
    rintro b (rfl | ⟨hp, off, rfl⟩)
    · omega
    · obtain ⟨b', off', e, hlt, _⟩ := h1.2 hp
      cases e; omega
  case round =>
    rintro l k W hk ⟨hd, vM, vR, hB⟩
    obtain ⟨j, hj⟩ : ∃ j, j = xs.length - 1 - k := ⟨_, rfl⟩
    have hjx : j < xs.length := by omega
    have hjy : j < ys.length := by have := HL.out; omega
    have HJ := Lib.hid (show xs.length - k = j + 1 by omega)
    have HJ2 := Lib.hid (show xs.length - (k + 1) = j by omega)
    rw [HJ.out] at hd
    have HD := Lib.hid hd
    rw [← hj]
    clear hj hd
    obtain ⟨b2, off2, hA2, hltb2, hcell2⟩ := h2.2 (by omega)
    obtain ⟨x, hx⟩ : ∃ x, x = xs.getD j 0 := ⟨_, rfl⟩
    obtain ⟨y, hy⟩ : ∃ y, y = ys.getD j 0 := ⟨_, rfl⟩
    have hcy := hcell2 j hjy
    rw [← hy] at hcy
    rw [← hx]
    have HX := Lib.hid hx; have HY := Lib.hid hy; clear hx hy hcell2
    gi_wp2
    refine ⟨KeepsFrom.refl _ _, KeepS.refl _ _, ⟨by rw [HJ.out]; exact HD.out, vM, vR, hB⟩, ?_⟩
    rintro W2 ⟨_, vM2, vR2, hB2⟩ _ _
    subst hA2
    have hcM := vM2.1
    have hcY := (hB2.cell (p := ⟨b2, off2 + j, none⟩) hltb2).trans hcy
    have hcR := vR2.1
    have hfR := vR2.2
    by_cases hxy : x = y
    · have hb1 : ((x : Int) != y) = false := by simp [hxy]
      subst hxy
      gi_wp2
      exact ⟨KeepsFrom.refl _ _, KeepS.refl _ _, by rw [HJ2.out]; exact drop_step hjx hjy HD.out (by rw [← HX.out, ← HY.out]), vM2, vR2, hB2⟩
    · have hb1 : ((x : Int) != y) = true := by simp; omega
      rcases Nat.lt_or_gt_of_ne hxy with hlt | hgt
      · have R := Lib.hid (val_lt_of_top B9_pos ha HL.out j hjx HD.out (by rw [← HX.out, ← HY.out]; exact hlt))
        gi_wp2
        refine ⟨(KeepsOthers.setCell _ _ _).from _, -1, ⟨⟨rfl, by omega, by omega, ⟨fun _ => R.out, fun _ => by omega⟩, ⟨fun h => by omega, fun h => by have := R.out; omega⟩⟩, vR2.set _⟩, hB2.setCell (p := ⟨w.heap.size + 1, 0, none⟩) (by simp) _⟩
      · have R := Lib.hid (val_lt_of_top B9_pos hb HL.out.symm j hjy HD.out.symm (by rw [← HX.out, ← HY.out]; exact hgt))
        gi_wp2
        refine ⟨(KeepsOthers.setCell _ _ _).from _, 1, ⟨⟨rfl, by omega, by omega, ⟨fun h => by omega, fun h => by have := R.out; omega⟩, ⟨fun _ => R.out, fun _ => by omega⟩⟩, vR2.set _⟩, hB2.setCell (p := ⟨w.heap.size + 1, 0, none⟩) (by simp) _⟩
  case done =>
    rintro D W hD ⟨hd, vM, vR, hB⟩ hK
    have hE := Lib.hid (show xs = ys by
      have h := hd
      rw [Nat.sub_self, List.drop_zero, List.drop_zero] at h
      exact h)
    clear hd
    have hcR := vR.1
    have hfR := vR.2
    gi_wp2
    have v2 := vR.set (.int .i64 0)
    have hK' := (KeepsOthers.setCell W ⟨w.heap.size + 1, 0, none⟩ (.int .i64 0)).same D _ hK rfl
    refine ⟨by simp, .inl ⟨_, _, rfl, run_takeDeferred hK', ?_⟩⟩
    have v3 := v2.of_block (W' := (W.setCell ⟨w.heap.size + 1, 0, none⟩ (.int .i64 0)).putObj D (.deferred none)) (World.putObj_heap_other (by simp at hD; omega))
    refine ⟨.int .i64 0, by simp [results, Tryz.f73, go_sem, v3.1], 0, rfl, by omega, by omega, ?_, ?_, (hB.setCell (p := ⟨w.heap.size + 1, 0, none⟩) (by simp) _).trans (belowK_b (w := w) (Nat.le_refl _) _ D _ _ (by simp at hD; omega) hK' rfl rfl)⟩
    · rw [hE.out]; simp
    · rw [hE.out]; simp
  case stop =>
    rintro D c k W hD hk ⟨r, ⟨⟨rfl, hr1, hr2, hr3, hr4⟩, vR⟩, hB⟩ hK
    gi_wp2
    refine ⟨by simp, .inl ⟨_, _, rfl, run_takeDeferred hK, ?_⟩⟩
    have v3 := vR.of_block (W' := W.putObj D (.deferred none)) (World.putObj_heap_other (by simp at hD; omega))
    exact ⟨.int .i64 r, by simp [results, Tryz.f73, go_sem, v3.1], r, rfl, hr1, hr2, hr3, hr4, hB.trans (belowK_b (w := w) (Nat.le_refl _) _ D _ _ (by simp at hD; omega) hK rfl rfl)⟩

set_option maxRecDepth 100000 in
set_option maxHeartbeats 1000000 in
theorem cmp_ne (l1 l2 : Nat) (A1 A2 : Option Addr) (c1 c2 : Nat) (w : World) (hs1 : l1 ≤ 100000) (hs2 : l2 ≤ 100000) (hl : l1 ≠ l2) :
    Calls Tryz.prog 73 #[.slice A1 l1 c1, .slice A2 l2 c2] w fun e w' => e = .returned (.int .i64 ((l1 : Int) - l2)) ∧ Below w.heap.size w w' := by
  have hne : ((l1 : Int) != l2) = true := by simp; omega
  go_enter Tryz.func73, Tryz.ntmps73
  go_wp2
  refine bodyPost_ret (v := .int .i64 ((l1 : Int) - l2)) ?_ rfl ⟨rfl, ?_⟩
  · skip
    simp [results, Tryz.f73, go_sem]
  exact ((Below.refl _ w).alloc (Nat.le_refl _) _).alloc (by simp) _

/-- The order of two numbers. -/
theorem cmp_any (a b : Nat) (A1 A2 : Option Addr) (l1 l2 c1 c2 : Nat) (w : World) (h1 : Num w A1 l1 c1 a) (h2 : Num w A2 l2 c2 b) (hs1 : l1 ≤ 100000) (hs2 : l2 ≤ 100000) :
    Calls Tryz.prog 73 #[.slice A1 l1 c1, .slice A2 l2 c2] w fun e w' => ∃ r : Int, e = .returned (.int .i64 r) ∧ -1000000 ≤ r ∧ r ≤ 1000000 ∧ (r < 0 ↔ a < b) ∧ (0 < r ↔ b < a) ∧ Below w.heap.size w w' := by
  obtain ⟨rfl, hc1, hr1⟩ := h1
  obtain ⟨rfl, hc2, hr2⟩ := h2
  by_cases hl : (limbs B9 a).length = (limbs B9 b).length
  · refine (callsIn_wide (n := 3)).1 ((cmp_eq wide_wide 3 (Nat.le_refl _) _ _ A1 A2 c1 c2 w hr1 hr2 (bnd_limbs B9_two a) (bnd_limbs B9_two b) hs1 hl).mono ?_)
    rintro e w' ⟨r, rfl, h1, h2, h3, h4, h5⟩
    rw [val_limbs B9_two, val_limbs B9_two] at h3 h4
    exact ⟨r, rfl, by omega, by omega, h3, h4, h5⟩
  · refine (cmp_ne _ _ A1 A2 c1 c2 w hs1 hs2 hl).mono ?_
    rintro e w' ⟨rfl, hb⟩
    refine ⟨_, rfl, by omega, by omega, ?_, ?_, hb⟩
    · rcases Nat.lt_or_gt_of_ne hl with h | h
      · have := lt_of_length_lt B9_two h
        constructor <;> intro <;> omega
      · have := lt_of_length_lt B9_two h
        constructor <;> intro <;> omega
    · rcases Nat.lt_or_gt_of_ne hl with h | h
      · have := lt_of_length_lt B9_two h
        constructor <;> intro <;> omega
      · have := lt_of_length_lt B9_two h
        constructor <;> intro <;> omega
end Go.Proofs.Cr
