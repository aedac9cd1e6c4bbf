/- Contracts of functions that the laws reach, and plain lemmas. Part 15. -/
import Derived.Test.YtolofiiolinnoaaGreatDoorC14
set_option linter.all false
namespace Go.Proofs.Cr
open Go.RowKit Go.Shelf
attribute [local go_sem] Oper.semAt_some index73_0 index73_1 index73_2

theorem prod_wraps (s o : Sg) (hs : okS s = true) (ho : okS o = true) : ∃ x y p : Int, IntKind.i64.wrap (s.sea - o.sea) = x ∧ IntKind.i64.wrap (s.wi - o.wi) = y ∧ IntKind.i64.wrap (x * y) = p ∧ clashS s o = (decide (0 < p) || decide (s.sea = o.sea)) := by
  simp only [okS, inB, Bool.and_eq_true, decide_eq_true_eq] at hs ho
  obtain ⟨_, ⟨hs1, hs2⟩, hs3, hs4⟩ := hs
  obtain ⟨_, ⟨ho1, ho2⟩, ho3, ho4⟩ := ho
  have hb : ∀ x y : Int, -9 ≤ x → x ≤ 9 → -100000 ≤ y → y ≤ 100000 → -900000 ≤ x * y ∧ x * y ≤ 900000 := by
    intro x y h1 h2 h3 h4
    have : x = -9 ∨ x = -8 ∨ x = -7 ∨ x = -6 ∨ x = -5 ∨ x = -4 ∨ x = -3 ∨ x = -2 ∨ x = -1 ∨ x = 0 ∨ x = 1 ∨ x = 2 ∨ x = 3 ∨ x = 4 ∨ x = 5 ∨ x = 6 ∨ x = 7 ∨ x = 8 ∨ x = 9 := by omega
    rcases this with rfl | rfl | rfl | rfl | rfl | rfl | rfl | rfl | rfl | rfl | rfl | rfl | rfl | rfl | rfl | rfl | rfl | rfl | rfl <;> omega
  have h3 := hb (s.sea - o.sea) (s.wi - o.wi) (by omega) (by omega) (by omega) (by omega)
  refine ⟨s.sea - o.sea, s.wi - o.wi, (s.sea - o.sea) * (s.wi - o.wi), ?_, ?_, ?_, rfl⟩
  · rw [IntKind.wrap_i64]; omega
  · rw [IntKind.wrap_i64]; omega
  · rw [IntKind.wrap_i64]; omega
/-- A row joins its group. -/
theorem group_step {w wl Wa : World} {n k bs : Nat} {L : List Sg} {v : Value} {s : Sg} (hk : k < L.length) (hs : s = L.getD k .z) (hb : MapG.back Tryz.prog 73 30 80 wl (n + 1) n (grpL L k) (key3 s) v) (hr : RowS wl (n + 1) 30 v (grpL L k (key3 s)))
    (hW : Below wl.heap.size wl Wa) (hB : Blk Wa bs (scs s) 30) (hw : Below n w Wa) (hn : n + 1 ≤ wl.heap.size) (hl : (grpL L k (key3 s)).length ≤ 1000) :
    ∃ v' w1 w2, (Builtin.append_ #[22, 22] 22 #[v, .slice (some ⟨bs, 0, none⟩) 1 1]).run Tryz.prog Wa = .ok v' w1 ∧ (Instr.mapUpdate 80 (.map (some n)) (kv (key3 s)) v').run Tryz.prog w1 = .ok () w2 ∧ MapG Tryz.prog 73 30 w2 (n + 1) n (grpL L (k + 1)) ∧ Below n w w2 ∧ Wa.grownBy w1 v.ownBlock := by
  obtain ⟨i0, hi, hzz⟩ := Option.map_eq_some_iff.1 info30
  simp only [Prod.mk.injEq] at hzz
  obtain ⟨hz0, hz1, hz2⟩ := hzz
  have hra : RowS Wa (n + 1) 30 v (grpL L k (key3 s)) := hr.kept (grown_of_below hW none) (by cases v.ownBlock <;> simp)
  have hcell : ∀ j u, (sgL s)[j]? = some u → Wa.cell? ((⟨bs, 0, none⟩ : Addr).add j) = some u := by
    intro j u hu
    have : (scs s)[j]? = some u := by simpa [scs, sgL] using hu
    by_cases h0 : j = 0
    · subst h0; exact (hB.cell 0).trans this
    · have := (hB.cell j).trans this
      simpa [Addr.add, h0] using this
  have hsz := hW.size
  obtain ⟨v', w1, hrun, hown, hg, _, hat⟩ := run_append_own_at (P := Tryz.prog) Wa (n + 1) 22 22 30 i0 (.agg z5) 5 40 Tryz.underlying22 hi hz0 hz1 hz2 rfl (by decide) v (grpL L k (key3 s)).length ((grpL L k (key3 s)).flatMap sgL) hra ⟨bs, 0, none⟩ 1 1 (sgL s) rfl hcell
    (by intro u hu; simp only [sgL, List.mem_cons, List.mem_nil_iff, or_false] at hu; rcases hu with rfl | rfl | rfl | rfl | rfl <;> rfl) (by unfold maxLen; omega) (by omega) (by omega)
  have hown' : RowS w1 (n + 1) 30 v' (grpL L k (key3 s) ++ [s]) := by
    unfold RowS
    rw [List.flatMap_append, List.length_append]
    simpa using hown
  obtain ⟨w2, hmu, hM2, hg2⟩ := hb w1 v' _ ((grown_of_below hW _).trans hg) hown' (by simp) (by
    rcases hat with h | h
    · exact .inl h
    · exact .inr ⟨_, h, hsz⟩)
  refine ⟨v', w1, w2, hrun, hmu, ?_, ?_, hg⟩
  · have : (fun κ' => if κ' = key3 s then grpL L k (key3 s) ++ [s] else grpL L k κ') = grpL L (k + 1) := by
      funext κ'
      by_cases h : κ' = key3 s
      · rw [if_pos h, h]
        have := grp_same L hk
        rw [← hs] at this
        exact this.symm
      · rw [if_neg h]
        exact (grp_other L hk (by rw [← hs]; exact h)).symm
    rw [this] at hM2
    exact hM2
  · have h1 : Below n w w1 := hw.grown hg (by omega) (fun j hj => by have := (World.ownsRow.lt hra j hj).1; omega)
    exact h1.grown hg2 (by have := hg.size; omega) (fun j hj => by cases hj; exact Nat.le_refl _)
/-- The parts of a kind are in their range, up to the m-th. -/
def okTo (s : Sg) : Nat → Prop
  | 0 => True
  | 1 => inB s.se 0 63 = true
  | 2 => inB s.se 0 63 = true ∧ inB s.ob 0 63 = true
  | _ => inB s.se 0 63 = true ∧ inB s.ob 0 63 = true ∧ inB s.li 0 63 = true
set_option maxRecDepth 100000 in
set_option maxHeartbeats 4000000 in
/-- 'detect.CheckTable'. -/
theorem CheckTable_any (A : Option Addr) (c : Nat) (L : List Sg) (w : World) (hr : RdS w A L) :
    Calls Tryz.prog 17 #[.slice A L.length c] w fun e w' => ((e = .returned (.int .i64 0) ∧ TableP L) ∨ (e = .returned (.int .i64 2) ∧ ¬ TableP L)) ∧ Below w.heap.size w w' := by
  obtain ⟨N, hN⟩ : ∃ N, N = L.length := ⟨_, rfl⟩
  have hr2 := hr.2
  have hl9 := hr.1
  rw [← hN] at hl9 hr2 ⊢
  have HN := Lib.hid hN
  have HR := Lib.hid hr2
  clear hr hr2 hN
  have hmm := @run_makeMap Tryz.prog
  by_cases h256 : 256 < N
  · have hc : (256 : Int) < (N : Int) := by omega
    go_enter Tryz.func17, Tryz.ntmps17
    go_wp2_with fail
    go_ret
    exact ⟨.inr ⟨rfl, fun hT => by have := hT.1; have := HN.out; omega⟩, Below.refl _ _⟩
  · have hc : ¬ (256 : Int) < (N : Int) := by omega
    have hM0 := Lib.hid (MapG.made Tryz.prog 73 30 w)
    have hB0 := Lib.hid (show Below w.heap.size w (w.alloc (.map #[] 0)) from below_alloc w _)
    have H256 := Lib.hid h256
    clear h256
    go_enter Tryz.func17, Tryz.ntmps17
    go_wp2_with fail
    go_loopw [16] (fun i wr => ∃ k : Nat, k ≤ N ∧ i = .int .i64 (k : Int) ∧ MapG Tryz.prog 73 30 wr (w.heap.size + 1) w.heap.size (grpL L k) ∧ Below w.heap.size w wr ∧ Hid (∀ j, j < k → FitAt L j))
      (fun i _ => (N - intOf i).toNat)
    case atStart => exact ⟨0, Nat.zero_le _, rfl, hM0.out, hB0.out, Lib.hid (fun j hj => by omega)⟩
    case round =>
      obtain ⟨k, hk, rfl, hM, hB, hF⟩ := hrel
      have HB := Lib.hid hB
      by_cases hlt : k < N
      · obtain ⟨b, off, rfl, hb, hcs⟩ := HR.out (by omega)
        have hcx := ((hcs k hlt).below HB.out hb).cells
        obtain ⟨s, hs⟩ : ∃ s, s = L.getD k .z := ⟨_, rfl⟩
        rw [← hs] at hcx
        have HS := Lib.hid hs
        have hG := Blk.new wr (scs s) 30
        have TK := Lib.hid (fun W => kindOf_any s W)
        have HB1 := Lib.hid (HB.out.alloc hB.size (.cells (scs s) 30))
        have HF := hF
        obtain ⟨B5, hB5⟩ : ∃ B5, B5 = wr.heap.size := ⟨_, rfl⟩
        have HG := Lib.hid (hB5 ▸ hG)
        have HMP := Lib.hid (show MapU Tryz.prog 73 30 wr (w.heap.size + 1) w.heap.size (grpL L k) B5 by rw [hB5]; exact hM.up)
        have hkl : (k : Int) < N := by omega
        have hk0 : ¬ (k : Int) < 0 := by omega
        obtain ⟨⟨⟨h0, h1⟩, h2, h3⟩, h4⟩ := hcx
        obtain ⟨⟨⟨⟨z0, z1⟩, z2, z3⟩, z4⟩, ⟨⟨f0, f1⟩, f2, f3⟩, f4⟩ := hG.sg
        have HM1 := Lib.hid (HMP.out.kept (World.grownBy_alloc wr (.cells (scs s) 30) none))
        clear hs hM hB hF hcs hmm hc
        simp only [sv, scs, kv, key3] at *
        go_wp2_with fail
        refine (TK.out _).mono ?_
        rintro e w2 ⟨rfl, hb2⟩
        have HM2 := Lib.hid (HM1.out.kept (grown_of_below hb2 none))
        have HB2 := Lib.hid (HB1.out.trans (hb2.mono HB1.out.size))
        have hG2 := HG.out.pass hb2
        rw [← hB5] at *
        have W1 := Lib.hid (fun n lo hi W => within_any n lo hi W)
        clear h0 h1 h2 h3 h4 z0 z1 z2 z3 z4 f0 f1 f2 f3 f4 hb2 hG hb
        go_wp2_with fail
        go_loop [22] (fun v => ∃ m : Nat, m ≤ 3 ∧ v = .int .i64 (m : Int) ∧ Hid (okTo s m)) (fun v => 3 - (intOf v).toNat)
        case atStart => exact ⟨0, by omega, rfl, Lib.hid trivial⟩
        case round =>
          obtain ⟨m, hm3, rfl, hok⟩ := hrel
          by_cases hm : m < 3
          · have hm' : m = 0 ∨ m = 1 ∨ m = 2 := by omega
            rcases hm' with rfl | rfl | rfl
            · have hd := Lib.hid (within_any s.se 0 63)
              obtain ⟨d, ed⟩ : ∃ d, d = inB s.se 0 63 := ⟨_, rfl⟩
              have HD := Lib.hid ed
              unfold inB at ed
              rw [← ed] at hd
              clear ed
              cases d with
              | false =>
                go_wp2_with (go_at_call 49; refine (hd.out _).mono ?_; rintro e w4 ⟨rfl, rfl⟩)
                go_ret
                exact ⟨.inr ⟨rfl, fun hT => by
                  have h := (hT.2 k (by have := HN.out; omega)).1
                  rw [← HS.out] at h
                  simp [okS, okK, key3, ← HD.out] at h⟩, HB2.out⟩
              | true =>
                go_wp2_with (go_at_call 49; refine (hd.out _).mono ?_; rintro e w4 ⟨rfl, rfl⟩)
                go_round
                case rel => exact ⟨1, by omega, rfl, Lib.hid (by exact HD.out.symm)⟩
                case measure => simp [intOf]
            · have hd := Lib.hid (within_any s.ob 0 63)
              obtain ⟨d, ed⟩ : ∃ d, d = inB s.ob 0 63 := ⟨_, rfl⟩
              have HD := Lib.hid ed
              unfold inB at ed
              rw [← ed] at hd
              clear ed
              cases d with
              | false =>
                go_wp2_with (go_at_call 49; refine (hd.out _).mono ?_; rintro e w4 ⟨rfl, rfl⟩)
                go_ret
                exact ⟨.inr ⟨rfl, fun hT => by
                  have h := (hT.2 k (by have := HN.out; omega)).1
                  rw [← HS.out] at h
                  simp [okS, okK, key3, ← HD.out] at h⟩, HB2.out⟩
              | true =>
                go_wp2_with (go_at_call 49; refine (hd.out _).mono ?_; rintro e w4 ⟨rfl, rfl⟩)
                go_round
                case rel => exact ⟨2, by omega, rfl, Lib.hid (by exact ⟨hok.out, HD.out.symm⟩)⟩
                case measure => simp [intOf]
            · have hd := Lib.hid (within_any s.li 0 63)
              obtain ⟨d, ed⟩ : ∃ d, d = inB s.li 0 63 := ⟨_, rfl⟩
              have HD := Lib.hid ed
              unfold inB at ed
              rw [← ed] at hd
              clear ed
              cases d with
              | false =>
                go_wp2_with (go_at_call 49; refine (hd.out _).mono ?_; rintro e w4 ⟨rfl, rfl⟩)
                go_ret
                exact ⟨.inr ⟨rfl, fun hT => by
                  have h := (hT.2 k (by have := HN.out; omega)).1
                  rw [← HS.out] at h
                  simp [okS, okK, key3, ← HD.out] at h⟩, HB2.out⟩
              | true =>
                go_wp2_with (go_at_call 49; refine (hd.out _).mono ?_; rintro e w4 ⟨rfl, rfl⟩)
                go_round
                case rel => exact ⟨3, by omega, rfl, Lib.hid (by exact ⟨hok.out.1, hok.out.2, HD.out.symm⟩)⟩
                case measure => simp [intOf]
          · have hm' : m = 3 := by omega
            subst hm'
            obtain ⟨⟨⟨⟨z0, z1⟩, z2, z3⟩, z4⟩, ⟨⟨f0, f1⟩, f2, f3⟩, f4⟩ := Blk.sg (s := s) hG2
            have bad : ∀ h : okS s = false, ¬ TableP L := fun h hT => by
              have h2 := (hT.2 k (by have := HN.out; omega)).1
              rw [← HS.out, h] at h2
              cases h2
            have HBAD := Lib.hid bad
            clear bad
            obtain ⟨d1, e1⟩ : ∃ d, d = inB s.sea 0 9 := ⟨_, rfl⟩
            obtain ⟨d2, e2⟩ : ∃ d, d = inB s.wi 0 100000 := ⟨_, rfl⟩
            have HD1 := Lib.hid e1
            have HD2 := Lib.hid e2
            unfold inB at e1 e2
            have TA1 := Lib.hid (fun W => within_any s.sea 0 9 W)
            have TB1 := Lib.hid (fun W => within_any s.wi 0 100000 W)
            rw [← e1] at TA1
            rw [← e2] at TB1
            clear e1 e2
            cases d1 with
            | false =>
              go_wp2_with fail
              refine (TA1.out _).mono ?_
              rintro e w4 ⟨rfl, rfl⟩
              go_wp2_with fail
              go_ret
              exact ⟨.inr ⟨rfl, HBAD.out (by simp [okS, ← HD1.out])⟩, HB2.out⟩
            | true =>
              go_wp2_with fail
              refine (TA1.out _).mono ?_
              rintro e w4 ⟨rfl, rfl⟩
              go_wp2_with fail
              cases d2 with
              | false =>
                go_wp2_with fail
                refine (TB1.out _).mono ?_
                rintro e w4 ⟨rfl, rfl⟩
                go_wp2_with fail
                go_ret
                exact ⟨.inr ⟨rfl, HBAD.out (by simp [okS, ← HD2.out])⟩, HB2.out⟩
              | true =>
                go_wp2_with fail
                refine (TB1.out _).mono ?_
                rintro e w4 ⟨rfl, rfl⟩
                go_wp2_with fail
                refine (TK.out _).mono ?_
                rintro e w5 ⟨rfl, hb5⟩
                have HM5 := Lib.hid (HM2.out.kept (grown_of_below hb5 none))
                have HB5 := Lib.hid (HB2.out.trans (hb5.mono HB2.out.size))
                have hG5 := hG2.pass hb5
                have HOK := Lib.hid (show okS s = true by simp only [okS, okK, key3, ← HD1.out, ← HD2.out, hok.out.1, hok.out.2.1, hok.out.2.2]; rfl)
                have hOKK : okK (s.se, s.ob, s.li) = true := by simp only [okK, hok.out.1, hok.out.2.1, hok.out.2.2]; rfl
                obtain ⟨kl, hkey⟩ := kind_key (s.se, s.ob, s.li) hOKK
                have HKEY := Lib.hid hkey
                obtain ⟨v, hrun, hrow, _, _⟩ := HM5.out.at kind_keyed Tryz.underlying80 (zero22 _) hkey
                have hln := grp_len L k (s.se, s.ob, s.li)
                obtain ⟨A2, c2, rfl, hc2, hrd⟩ := hrow.reads (by omega)
                have HGO : Hid (∀ x ∈ grpL L k (s.se, s.ob, s.li), okS x = true) := Lib.hid (fun x hx => by
                  obtain ⟨j, hj, rfl, _⟩ := (grp_mem L (by have := HN.out; omega)).1 hx
                  exact (HF.out j hj).1)
                have HFIT : Hid (FitAt L k ↔ ∀ x ∈ grpL L k (s.se, s.ob, s.li), clashS s x = false) := Lib.hid (by
                  have := fit_grp L (k := k) (by have := HN.out; omega) (by rw [← HS.out]; exact HOK.out)
                  rw [← HS.out] at this
                  exact this)
                obtain ⟨GL, hGL⟩ : ∃ GL, GL = grpL L k (s.se, s.ob, s.li) := ⟨_, rfl⟩
                rw [← hGL] at hrun hrd HGO HFIT hln hc2
                have HGL := Lib.hid hGL
                obtain ⟨M, hM⟩ : ∃ M, M = GL.length := ⟨_, rfl⟩
                rw [← hM] at hrun hc2 hln
                have HLM := Lib.hid hM
                have HRD := Lib.hid hrd
                simp only [kv] at hrun
                clear hb5 hG2 hkey hOKK hrow hrd hGL hM hc2 z0 z1 z2 z3 z4 f0 f1 f2 f3 f4
                obtain ⟨⟨⟨⟨z0, z1⟩, z2, z3⟩, z4⟩, _⟩ := Blk.sg (s := s) hG5
                go_wp2_with fail
                go_loopw [44] (fun i wr2 => ∃ m : Nat, m ≤ M ∧ i = .int .i64 (m : Int) ∧ Below w5.heap.size w5 wr2 ∧ Hid (∀ r, r < m → clashS s (GL.getD r .z) = false))
                  (fun i _ => (M - intOf i).toNat)
                case atStart => exact ⟨0, Nat.zero_le _, rfl, Below.refl _ _, Lib.hid (fun r hr => by omega)⟩
                case round =>
                  obtain ⟨m, hm, rfl, hB6, hC⟩ := hrel
                  have HB6 := Lib.hid hB6
                  have HB7 := Lib.hid (HB5.out.trans (hB6.mono HB5.out.size))
                  by_cases hmM : m < M
                  · obtain ⟨b2, off2, rfl, hb2, hcs2⟩ := HRD.out.2 (by have := HLM.out; omega)
                    have hcx := ((hcs2 m (by have := HLM.out; omega)).below hB6 hb2).cells
                    have hob : okS (GL.getD m .z) = true := HGO.out _ (getD_mem (by have := HLM.out; omega))
                    obtain ⟨o, ho⟩ : ∃ o, o = GL.getD m .z := ⟨_, rfl⟩
                    rw [← ho] at hcx hob
                    have HO := Lib.hid ho
                    have HK2 := Lib.hid (HB6.out.alloc hB6.size (.cells (scs o) 30))
                    have hGo := Blk.new wr (scs o) 30
                    have hGs := (hG5.pass hB6).alloc (.cells (scs o) 30)
                    obtain ⟨x, y, p, e1, e2, e3, hcl⟩ := prod_wraps s o HOK.out hob
                    have HCL := Lib.hid hcl
                    have hkl2 : (m : Int) < M := by omega
                    have hk02 : ¬ (m : Int) < 0 := by omega
                    obtain ⟨⟨⟨h0, h1⟩, h2, h3⟩, h4⟩ := hcx
                    obtain ⟨⟨⟨⟨y0, y1⟩, y2, y3⟩, y4⟩, ⟨⟨g0, g1⟩, g2, g3⟩, g4⟩ := hGo.sg
                    clear z0 z1 z2 z3 z4
                    obtain ⟨⟨⟨⟨z0, z1⟩, z2, z3⟩, z4⟩, _⟩ := Blk.sg (s := s) hGs
                    simp only [scs] at y0 y1 y2 y3 y4 g0 g1 g2 g3 g4 z0 z1 z2 z3 z4
                    clear hB6 hcs2 hob ho hcl hGo hGs hrun
                    by_cases hp : 0 < p
                    · have HP := Lib.hid hp
                      go_wp2_with fail
                      go_ret
                      exact ⟨.inr ⟨rfl, fun hT => by
                        have h := HFIT.out.1 (hT.2 k (by have := HN.out; omega)) o (by rw [HO.out]; exact getD_mem (by have := HLM.out; omega))
                        rw [HCL.out, decide_eq_true HP.out] at h
                        simp at h⟩, HB7.out.alloc (Nat.le_trans HB5.out.size HB6.out.size) _⟩
                    · have HP := Lib.hid hp
                      by_cases hq : (s.sea == o.sea) = true
                      · have HQ := Lib.hid hq
                        go_wp2_with fail
                        go_ret
                        exact ⟨.inr ⟨rfl, fun hT => by
                          have h := HFIT.out.1 (hT.2 k (by have := HN.out; omega)) o (by rw [HO.out]; exact getD_mem (by have := HLM.out; omega))
                          rw [HCL.out, decide_eq_true (by simpa using HQ.out : s.sea = o.sea)] at h
                          simp at h⟩, HB7.out.alloc (Nat.le_trans HB5.out.size HB6.out.size) _⟩
                      · have hq : (s.sea == o.sea) = false := by simpa using hq
                        have HQ := Lib.hid hq
                        go_wp2_with fail
                        go_roundw
                        case rel =>
                          have hm1 : m + 1 ≤ M := hmM
                          refine ⟨m + 1, hm1, by simp, HK2.out, Lib.hid (fun r hr => ?_)⟩
                          rcases Nat.lt_or_eq_of_le (Nat.le_of_lt_succ hr) with h | h
                          · exact hC.out r h
                          · rw [h, ← HO.out, HCL.out, decide_eq_false HP.out, decide_eq_false (by simpa using HQ.out : ¬ s.sea = o.sea)]
                            rfl
                        case measure =>
                          simp [intOf]
                          omega
                  · have hmM2 : m = M := by omega
                    subst hmM2
                    have HFK : Hid (FitAt L k) := Lib.hid (HFIT.out.2 (fun x hx => by
                      obtain ⟨r, hr, rfl⟩ := mem_at hx
                      exact hC.out r (by rw [HLM.out]; exact hr)))
                    have HM := Lib.hid (HM5.out.kept (grown_of_below hB6 none))
                    have HK := Lib.hid ((Kept.of (Nat.le_refl _) HB7.out.size HB7.out).drew)
                    have hGs := hG5.pass hB6
                    have HLL := Lib.hid (show (grpL L k (key3 s)).length ≤ 1000 by have := grp_len L k (key3 s); have := H256.out; omega)
                    have hfnR : ∀ f, Fence.wide.fn f := fun _ => trivial
                    have hmx : Tryz.prog.follows .mixedOrders = true := by kernel_rfl
                    have HM := Lib.hid (show MapU Tryz.prog 73 30 wr.drew (w.heap.size + 1) w.heap.size (grpL L k) B5 from HM.out.kept (grown_of_below (Below.refl _ wr).drew none))
                    clear hB6 hG5 z0 z1 z2 z3 z4 hrun
                    go_wp2_with fail
                    refine wp_region_J (fun W => (((W.cell? ⟨B5, 0, none⟩ = some (.int .i64 s.se) ∧ W.cell? ⟨B5, 1, none⟩ = some (.int .i64 s.ob)) ∧ (W.cell? ⟨B5, 2, none⟩ = some (.int .i64 s.li) ∧ W.cell? ⟨B5, 3, none⟩ = some (.int .i64 s.sea))) ∧ W.cell? ⟨B5, 4, none⟩ = some (.int .i64 s.wi))) [10] hmx ?hCells0 (fun hCells => ?_)
                    case hCells0 => exact hGs.sg.1
                    clear hGs
                    generalize wr.drew = W0 at *
                    refine takeB hfnR (by kernel_rfl) 0 (v := ?_) rfl (by kernel_rfl) (fun _ _ _ h => h) (by kernel_rfl) hCells (Or.inl ⟨by rfl, ?_⟩) ?_
                    rotate_left 1
                    · intro w hSw; (try dsimp only at hSw); go_simp; (try with_reducible rfl)
                    try simp only [Act.put, List.setIfInBounds_toArray, List.set_cons_zero, List.set_cons_succ]
                    refine takeB hfnR (by kernel_rfl) 1 (v := ?_) rfl (by kernel_rfl) (fun _ _ _ h => h) (by kernel_rfl) hCells (Or.inl ⟨by rfl, ?_⟩) ?_
                    rotate_left 1
                    · intro w hSw; (try dsimp only at hSw); go_simp; (try with_reducible rfl)
                    try simp only [Act.put, List.setIfInBounds_toArray, List.set_cons_zero, List.set_cons_succ]
                    refine takeB hfnR (by kernel_rfl) 3 (v := ?_) rfl (by kernel_rfl) (fun _ _ _ h => h) (by kernel_rfl) hCells (Or.inl ⟨by rfl, ?_⟩) ?_
                    rotate_left 1
                    · intro w hSw; (try dsimp only at hSw); go_simp; (try with_reducible rfl)
                    try simp only [Act.put, List.setIfInBounds_toArray, List.set_cons_zero, List.set_cons_succ]
                    refine takeB hfnR (by kernel_rfl) 4 (v := ?_) rfl (by kernel_rfl) (fun _ _ _ h => h) (by kernel_rfl) hCells (Or.inl ⟨by rfl, ?_⟩) ?_
                    rotate_left 1
                    · intro w hSw; (try dsimp only at hSw); go_simp; (try with_reducible rfl)
                    try simp only [Act.put, List.setIfInBounds_toArray, List.set_cons_zero, List.set_cons_succ]
                    refine takeB hfnR (by kernel_rfl) 7 (v := ?_) rfl (by kernel_rfl) (fun _ _ _ h => h) (by kernel_rfl) hCells (Or.inl ⟨by rfl, ?_⟩) ?_
                    rotate_left 1
                    · intro w hSw; (try dsimp only at hSw); go_simp; (try with_reducible rfl)
                    try simp only [Act.put, List.setIfInBounds_toArray, List.set_cons_zero, List.set_cons_succ]
                    refine wpAnyJ_ready (rs := [2, 8]) (by kernel_rfl) (by simp) (consJ 2 rfl (fun K hK => ?_) (consJ 8 rfl (fun K hK => ?_) AllJ.nil))
                    ·
                      go_simp
                      refine ⟨rfl, ?_⟩
                      refine (callsIn_wide.2 (TK.out _)).mono ?_
                      rintro e vw1 ⟨rfl, hv⟩
                      refine hK.out _ _ (holdJ ?_ (fun hCells => ?_))
                      · clear hK; (try dsimp only); exact ⟨⟨⟨pc hv hCells.1.1.1, pc hv hCells.1.1.2⟩, ⟨pc hv hCells.1.2.1, pc hv hCells.1.2.2⟩⟩, pc hv hCells.2⟩
                      clear hK K
                      have HM := Lib.hid (HM.out.kept (grown_of_below hv none))
                      have HK := Lib.hid (HK.out.pass hv)
                      clear hv
                      try simp only [Act.put, List.setIfInBounds_toArray, List.set_cons_zero, List.set_cons_succ]
                      refine wpAnyJ_ready (rs := [5, 8]) (by kernel_rfl) (by simp) (consJ 5 rfl (fun K hK => ?_) (consJ 8 rfl (fun K hK => ?_) AllJ.nil))
                      ·
                        go_simp
                        refine ⟨rfl, ?_⟩
                        refine (callsIn_wide.2 (TK.out _)).mono ?_
                        rintro e vw2 ⟨rfl, hv⟩
                        refine hK.out _ _ (holdJ ?_ (fun hCells => ?_))
                        · clear hK; (try dsimp only); exact ⟨⟨⟨pc hv hCells.1.1.1, pc hv hCells.1.1.2⟩, ⟨pc hv hCells.1.2.1, pc hv hCells.1.2.2⟩⟩, pc hv hCells.2⟩
                        clear hK K
                        have HM := Lib.hid (HM.out.kept (grown_of_below hv none))
                        have HK := Lib.hid (HK.out.pass hv)
                        clear hv
                        try simp only [Act.put, List.setIfInBounds_toArray, List.set_cons_zero, List.set_cons_succ]
                        refine wpAnyJ_ready (rs := [6, 8]) (by kernel_rfl) (by simp) (consJ 6 rfl (fun K hK => ?_) (consJ 8 rfl (fun K hK => ?_) AllJ.nil))
                        ·
                          obtain ⟨v2, hrun, hrow, hback, hvb⟩ := HM.out.at kind_keyed Tryz.underlying80 (zero22 _) HKEY.out
                          have HVB := Lib.hid hvb
                          have HBK := Lib.hid hback
                          have HROW := Lib.hid hrow
                          have HWW := Lib.hid (Below.refl (vw2.heap.size) vw2)
                          have HSL := Lib.hid (show w.heap.size + 1 ≤ vw2.heap.size from HM.out.lt)
                          clear hback hrow hvb
                          simp only [kv] at hrun
                          go_simp
                          refine hK.out _ _ (holdJ ?_ (fun hCells => ?_))
                          · clear hK; (try dsimp only); exact hCells
                          clear hK K
                          try simp only [Act.put, List.setIfInBounds_toArray, List.set_cons_zero, List.set_cons_succ]
                          refine oneJ 8 (by kernel_rfl) rfl (fun K hK => ?_)
                          go_simp
                          refine hK.out _ _ (holdJ ?_ (fun hCells => ?_))
                          · clear hK; (try dsimp only); exact ⟨⟨⟨pc (below_alloc _ _) hCells.1.1.1, pc (below_alloc _ _) hCells.1.1.2⟩, ⟨pc (below_alloc _ _) hCells.1.2.1, pc (below_alloc _ _) hCells.1.2.2⟩⟩, pc (below_alloc _ _) hCells.2⟩
                          clear hK K
                          have HM := Lib.hid (HM.out.kept (World.grownBy_alloc vw2 (.cells #[.int .i64 s.se, .int .i64 s.ob, .int .i64 s.li, .int .i64 s.sea, .int .i64 s.wi] 30) none))
                          have HK := Lib.hid (HK.out.alloc (.cells #[.int .i64 s.se, .int .i64 s.ob, .int .i64 s.li, .int .i64 s.sea, .int .i64 s.wi] 30))
                          have HBS := Lib.hid (show Blk (vw2.alloc (.cells #[.int .i64 s.se, .int .i64 s.ob, .int .i64 s.li, .int .i64 s.sea, .int .i64 s.wi] 30)) vw2.heap.size (scs s) 30 from Blk.new vw2 (scs s) 30)
                          have HWW := Lib.hid (HWW.out.trans (below_alloc vw2 (.cells #[.int .i64 s.se, .int .i64 s.ob, .int .i64 s.li, .int .i64 s.sea, .int .i64 s.wi] 30)))
                          clear hrun
                          generalize vw2.heap.size = bs at HBS ⊢
                          generalize vw2.alloc (.cells #[.int .i64 s.se, .int .i64 s.ob, .int .i64 s.li, .int .i64 s.sea, .int .i64 s.wi] 30) = va4 at HM HK HBS HWW hCells ⊢
                          have hrun := trivial
                          try simp only [Act.put, List.setIfInBounds_toArray, List.set_cons_zero, List.set_cons_succ]
                          obtain ⟨v3, w8, w9, hra, hmu, hM9, hB9, hgr⟩ := group_step (w := w) (s := s) (by have := HN.out; omega) HS.out HBK.out HROW.out HWW.out HBS.out HK.out.2.2 HSL.out HLL.out
                          have HE := Lib.hid (And.intro hM9 hB9)
                          clear hM9 hB9 hrun
                          simp only [kv, key3] at hmu
                          refine oneJ 9 (by kernel_rfl) rfl (fun K hK => ?_)
                          refine app_op _ _ 22 rfl rfl rfl rfl hra ?_
                          refine hK.out _ _ (holdJ ?_ (fun hCells => ?_))
                          · clear hK; (try dsimp only); exact ⟨⟨⟨World.grownBy.cell hgr hCells.1.1.1 (fun e => by have := HVB.out _ e.symm; simp at this), World.grownBy.cell hgr hCells.1.1.2 (fun e => by have := HVB.out _ e.symm; simp at this)⟩, ⟨World.grownBy.cell hgr hCells.1.2.1 (fun e => by have := HVB.out _ e.symm; simp at this), World.grownBy.cell hgr hCells.1.2.2 (fun e => by have := HVB.out _ e.symm; simp at this)⟩⟩, World.grownBy.cell hgr hCells.2 (fun e => by have := HVB.out _ e.symm; simp at this)⟩
                          clear hK K hra hgr
                          try simp only [Act.put, List.setIfInBounds_toArray, List.set_cons_zero, List.set_cons_succ]
                          refine oneJ 10 (by kernel_rfl) rfl (fun K hK => ?_)
                          go_simp
                          refine hK.out _ _ (lastJ (by rfl) ?_)
                          clear hK K hmu
                          try simp only [Act.put, List.setIfInBounds_toArray, List.set_cons_zero, List.set_cons_succ]
                          refine wpAnyJ_done (by kernel_rfl) (NoPan.normal ?_) _
                          go_wp2_with fail
                          go_roundw
                          case rel =>
                            have hk1 : k + 1 ≤ N := hlt
                            refine ⟨k + 1, hk1, by simp, HE.out.1, HE.out.2, Lib.hid (fun j hj => ?_)⟩
                            rcases Nat.lt_or_eq_of_le (Nat.le_of_lt_succ hj) with h | h
                            · exact HF.out j h
                            · rw [h]; exact HFK.out
                          case measure =>
                            simp [intOf]
                            omega
                        ·
                          go_simp
                          refine hK.out _ _ (holdJ ?_ (fun hCells => ?_))
                          · clear hK; (try dsimp only); exact ⟨⟨⟨pc (below_alloc _ _) hCells.1.1.1, pc (below_alloc _ _) hCells.1.1.2⟩, ⟨pc (below_alloc _ _) hCells.1.2.1, pc (below_alloc _ _) hCells.1.2.2⟩⟩, pc (below_alloc _ _) hCells.2⟩
                          clear hK K
                          have HM := Lib.hid (HM.out.kept (World.grownBy_alloc vw2 (.cells #[.int .i64 s.se, .int .i64 s.ob, .int .i64 s.li, .int .i64 s.sea, .int .i64 s.wi] 30) none))
                          have HK := Lib.hid (HK.out.alloc (.cells #[.int .i64 s.se, .int .i64 s.ob, .int .i64 s.li, .int .i64 s.sea, .int .i64 s.wi] 30))
                          have HBS := Lib.hid (show Blk (vw2.alloc (.cells #[.int .i64 s.se, .int .i64 s.ob, .int .i64 s.li, .int .i64 s.sea, .int .i64 s.wi] 30)) vw2.heap.size (scs s) 30 from Blk.new vw2 (scs s) 30)
                          generalize vw2.heap.size = bs at HBS ⊢
                          generalize vw2.alloc (.cells #[.int .i64 s.se, .int .i64 s.ob, .int .i64 s.li, .int .i64 s.sea, .int .i64 s.wi] 30) = va5 at HM HK HBS hCells ⊢
                          try simp only [Act.put, List.setIfInBounds_toArray, List.set_cons_zero, List.set_cons_succ]
                          refine oneJ 6 (by kernel_rfl) rfl (fun K hK => ?_)
                          obtain ⟨v2, hrun, hrow, hback, hvb⟩ := HM.out.at kind_keyed Tryz.underlying80 (zero22 _) HKEY.out
                          have HVB := Lib.hid hvb
                          have HBK := Lib.hid hback
                          have HROW := Lib.hid hrow
                          have HWW := Lib.hid (Below.refl (va5.heap.size) va5)
                          have HSL := Lib.hid (show w.heap.size + 1 ≤ va5.heap.size from HM.out.lt)
                          clear hback hrow hvb
                          simp only [kv] at hrun
                          go_simp
                          refine hK.out _ _ (holdJ ?_ (fun hCells => ?_))
                          · clear hK; (try dsimp only); exact hCells
                          clear hK K
                          try simp only [Act.put, List.setIfInBounds_toArray, List.set_cons_zero, List.set_cons_succ]
                          obtain ⟨v3, w8, w9, hra, hmu, hM9, hB9, hgr⟩ := group_step (w := w) (s := s) (by have := HN.out; omega) HS.out HBK.out HROW.out HWW.out HBS.out HK.out.2.2 HSL.out HLL.out
                          have HE := Lib.hid (And.intro hM9 hB9)
                          clear hM9 hB9 hrun
                          simp only [kv, key3] at hmu
                          refine oneJ 9 (by kernel_rfl) rfl (fun K hK => ?_)
                          refine app_op _ _ 22 rfl rfl rfl rfl hra ?_
                          refine hK.out _ _ (holdJ ?_ (fun hCells => ?_))
                          · clear hK; (try dsimp only); exact ⟨⟨⟨World.grownBy.cell hgr hCells.1.1.1 (fun e => by have := HVB.out _ e.symm; simp at this), World.grownBy.cell hgr hCells.1.1.2 (fun e => by have := HVB.out _ e.symm; simp at this)⟩, ⟨World.grownBy.cell hgr hCells.1.2.1 (fun e => by have := HVB.out _ e.symm; simp at this), World.grownBy.cell hgr hCells.1.2.2 (fun e => by have := HVB.out _ e.symm; simp at this)⟩⟩, World.grownBy.cell hgr hCells.2 (fun e => by have := HVB.out _ e.symm; simp at this)⟩
                          clear hK K hra hgr
                          try simp only [Act.put, List.setIfInBounds_toArray, List.set_cons_zero, List.set_cons_succ]
                          refine oneJ 10 (by kernel_rfl) rfl (fun K hK => ?_)
                          go_simp
                          refine hK.out _ _ (lastJ (by rfl) ?_)
                          clear hK K hmu
                          try simp only [Act.put, List.setIfInBounds_toArray, List.set_cons_zero, List.set_cons_succ]
                          refine wpAnyJ_done (by kernel_rfl) (NoPan.normal ?_) _
                          go_wp2_with fail
                          go_roundw
                          case rel =>
                            have hk1 : k + 1 ≤ N := hlt
                            refine ⟨k + 1, hk1, by simp, HE.out.1, HE.out.2, Lib.hid (fun j hj => ?_)⟩
                            rcases Nat.lt_or_eq_of_le (Nat.le_of_lt_succ hj) with h | h
                            · exact HF.out j h
                            · rw [h]; exact HFK.out
                          case measure =>
                            simp [intOf]
                            omega
                      ·
                        go_simp
                        refine hK.out _ _ (holdJ ?_ (fun hCells => ?_))
                        · clear hK; (try dsimp only); exact ⟨⟨⟨pc (below_alloc _ _) hCells.1.1.1, pc (below_alloc _ _) hCells.1.1.2⟩, ⟨pc (below_alloc _ _) hCells.1.2.1, pc (below_alloc _ _) hCells.1.2.2⟩⟩, pc (below_alloc _ _) hCells.2⟩
                        clear hK K
                        have HM := Lib.hid (HM.out.kept (World.grownBy_alloc vw1 (.cells #[.int .i64 s.se, .int .i64 s.ob, .int .i64 s.li, .int .i64 s.sea, .int .i64 s.wi] 30) none))
                        have HK := Lib.hid (HK.out.alloc (.cells #[.int .i64 s.se, .int .i64 s.ob, .int .i64 s.li, .int .i64 s.sea, .int .i64 s.wi] 30))
                        have HBS := Lib.hid (show Blk (vw1.alloc (.cells #[.int .i64 s.se, .int .i64 s.ob, .int .i64 s.li, .int .i64 s.sea, .int .i64 s.wi] 30)) vw1.heap.size (scs s) 30 from Blk.new vw1 (scs s) 30)
                        generalize vw1.heap.size = bs at HBS ⊢
                        generalize vw1.alloc (.cells #[.int .i64 s.se, .int .i64 s.ob, .int .i64 s.li, .int .i64 s.sea, .int .i64 s.wi] 30) = va7 at HM HK HBS hCells ⊢
                        try simp only [Act.put, List.setIfInBounds_toArray, List.set_cons_zero, List.set_cons_succ]
                        refine oneJ 5 (by kernel_rfl) rfl (fun K hK => ?_)
                        go_simp
                        refine ⟨rfl, ?_⟩
                        refine (callsIn_wide.2 (TK.out _)).mono ?_
                        rintro e vw8 ⟨rfl, hv⟩
                        refine hK.out _ _ (holdJ ?_ (fun hCells => ?_))
                        · clear hK; (try dsimp only); exact ⟨⟨⟨pc hv hCells.1.1.1, pc hv hCells.1.1.2⟩, ⟨pc hv hCells.1.2.1, pc hv hCells.1.2.2⟩⟩, pc hv hCells.2⟩
                        clear hK K
                        have HM := Lib.hid (HM.out.kept (grown_of_below hv none))
                        have HK := Lib.hid (HK.out.pass hv)
                        have HBS := Lib.hid (HBS.out.pass hv)
                        clear hv
                        try simp only [Act.put, List.setIfInBounds_toArray, List.set_cons_zero, List.set_cons_succ]
                        refine oneJ 6 (by kernel_rfl) rfl (fun K hK => ?_)
                        obtain ⟨v2, hrun, hrow, hback, hvb⟩ := HM.out.at kind_keyed Tryz.underlying80 (zero22 _) HKEY.out
                        have HVB := Lib.hid hvb
                        have HBK := Lib.hid hback
                        have HROW := Lib.hid hrow
                        have HWW := Lib.hid (Below.refl (vw8.heap.size) vw8)
                        have HSL := Lib.hid (show w.heap.size + 1 ≤ vw8.heap.size from HM.out.lt)
                        clear hback hrow hvb
                        simp only [kv] at hrun
                        go_simp
                        refine hK.out _ _ (holdJ ?_ (fun hCells => ?_))
                        · clear hK; (try dsimp only); exact hCells
                        clear hK K
                        try simp only [Act.put, List.setIfInBounds_toArray, List.set_cons_zero, List.set_cons_succ]
                        obtain ⟨v3, w8, w9, hra, hmu, hM9, hB9, hgr⟩ := group_step (w := w) (s := s) (by have := HN.out; omega) HS.out HBK.out HROW.out HWW.out HBS.out HK.out.2.2 HSL.out HLL.out
                        have HE := Lib.hid (And.intro hM9 hB9)
                        clear hM9 hB9 hrun
                        simp only [kv, key3] at hmu
                        refine oneJ 9 (by kernel_rfl) rfl (fun K hK => ?_)
                        refine app_op _ _ 22 rfl rfl rfl rfl hra ?_
                        refine hK.out _ _ (holdJ ?_ (fun hCells => ?_))
                        · clear hK; (try dsimp only); exact ⟨⟨⟨World.grownBy.cell hgr hCells.1.1.1 (fun e => by have := HVB.out _ e.symm; simp at this), World.grownBy.cell hgr hCells.1.1.2 (fun e => by have := HVB.out _ e.symm; simp at this)⟩, ⟨World.grownBy.cell hgr hCells.1.2.1 (fun e => by have := HVB.out _ e.symm; simp at this), World.grownBy.cell hgr hCells.1.2.2 (fun e => by have := HVB.out _ e.symm; simp at this)⟩⟩, World.grownBy.cell hgr hCells.2 (fun e => by have := HVB.out _ e.symm; simp at this)⟩
                        clear hK K hra hgr
                        try simp only [Act.put, List.setIfInBounds_toArray, List.set_cons_zero, List.set_cons_succ]
                        refine oneJ 10 (by kernel_rfl) rfl (fun K hK => ?_)
                        go_simp
                        refine hK.out _ _ (lastJ (by rfl) ?_)
                        clear hK K hmu
                        try simp only [Act.put, List.setIfInBounds_toArray, List.set_cons_zero, List.set_cons_succ]
                        refine wpAnyJ_done (by kernel_rfl) (NoPan.normal ?_) _
                        go_wp2_with fail
                        go_roundw
                        case rel =>
                          have hk1 : k + 1 ≤ N := hlt
                          refine ⟨k + 1, hk1, by simp, HE.out.1, HE.out.2, Lib.hid (fun j hj => ?_)⟩
                          rcases Nat.lt_or_eq_of_le (Nat.le_of_lt_succ hj) with h | h
                          · exact HF.out j h
                          · rw [h]; exact HFK.out
                        case measure =>
                          simp [intOf]
                          omega
                    ·
                      go_simp
                      refine hK.out _ _ (holdJ ?_ (fun hCells => ?_))
                      · clear hK; (try dsimp only); exact ⟨⟨⟨pc (below_alloc _ _) hCells.1.1.1, pc (below_alloc _ _) hCells.1.1.2⟩, ⟨pc (below_alloc _ _) hCells.1.2.1, pc (below_alloc _ _) hCells.1.2.2⟩⟩, pc (below_alloc _ _) hCells.2⟩
                      clear hK K
                      have HM := Lib.hid (HM.out.kept (World.grownBy_alloc W0 (.cells #[.int .i64 s.se, .int .i64 s.ob, .int .i64 s.li, .int .i64 s.sea, .int .i64 s.wi] 30) none))
                      have HK := Lib.hid (HK.out.alloc (.cells #[.int .i64 s.se, .int .i64 s.ob, .int .i64 s.li, .int .i64 s.sea, .int .i64 s.wi] 30))
                      have HBS := Lib.hid (show Blk (W0.alloc (.cells #[.int .i64 s.se, .int .i64 s.ob, .int .i64 s.li, .int .i64 s.sea, .int .i64 s.wi] 30)) W0.heap.size (scs s) 30 from Blk.new W0 (scs s) 30)
                      generalize W0.heap.size = bs at HBS ⊢
                      generalize W0.alloc (.cells #[.int .i64 s.se, .int .i64 s.ob, .int .i64 s.li, .int .i64 s.sea, .int .i64 s.wi] 30) = va10 at HM HK HBS hCells ⊢
                      try simp only [Act.put, List.setIfInBounds_toArray, List.set_cons_zero, List.set_cons_succ]
                      refine oneJ 2 (by kernel_rfl) rfl (fun K hK => ?_)
                      go_simp
                      refine ⟨rfl, ?_⟩
                      refine (callsIn_wide.2 (TK.out _)).mono ?_
                      rintro e vw11 ⟨rfl, hv⟩
                      refine hK.out _ _ (holdJ ?_ (fun hCells => ?_))
                      · clear hK; (try dsimp only); exact ⟨⟨⟨pc hv hCells.1.1.1, pc hv hCells.1.1.2⟩, ⟨pc hv hCells.1.2.1, pc hv hCells.1.2.2⟩⟩, pc hv hCells.2⟩
                      clear hK K
                      have HM := Lib.hid (HM.out.kept (grown_of_below hv none))
                      have HK := Lib.hid (HK.out.pass hv)
                      have HBS := Lib.hid (HBS.out.pass hv)
                      clear hv
                      try simp only [Act.put, List.setIfInBounds_toArray, List.set_cons_zero, List.set_cons_succ]
                      refine oneJ 5 (by kernel_rfl) rfl (fun K hK => ?_)
                      go_simp
                      refine ⟨rfl, ?_⟩
                      refine (callsIn_wide.2 (TK.out _)).mono ?_
                      rintro e vw12 ⟨rfl, hv⟩
                      refine hK.out _ _ (holdJ ?_ (fun hCells => ?_))
                      · clear hK; (try dsimp only); exact ⟨⟨⟨pc hv hCells.1.1.1, pc hv hCells.1.1.2⟩, ⟨pc hv hCells.1.2.1, pc hv hCells.1.2.2⟩⟩, pc hv hCells.2⟩
                      clear hK K
                      have HM := Lib.hid (HM.out.kept (grown_of_below hv none))
                      have HK := Lib.hid (HK.out.pass hv)
                      have HBS := Lib.hid (HBS.out.pass hv)
                      clear hv
                      try simp only [Act.put, List.setIfInBounds_toArray, List.set_cons_zero, List.set_cons_succ]
                      refine oneJ 6 (by kernel_rfl) rfl (fun K hK => ?_)
                      obtain ⟨v2, hrun, hrow, hback, hvb⟩ := HM.out.at kind_keyed Tryz.underlying80 (zero22 _) HKEY.out
                      have HVB := Lib.hid hvb
                      have HBK := Lib.hid hback
                      have HROW := Lib.hid hrow
                      have HWW := Lib.hid (Below.refl (vw12.heap.size) vw12)
                      have HSL := Lib.hid (show w.heap.size + 1 ≤ vw12.heap.size from HM.out.lt)
                      clear hback hrow hvb
                      simp only [kv] at hrun
                      go_simp
                      refine hK.out _ _ (holdJ ?_ (fun hCells => ?_))
                      · clear hK; (try dsimp only); exact hCells
                      clear hK K
                      try simp only [Act.put, List.setIfInBounds_toArray, List.set_cons_zero, List.set_cons_succ]
                      obtain ⟨v3, w8, w9, hra, hmu, hM9, hB9, hgr⟩ := group_step (w := w) (s := s) (by have := HN.out; omega) HS.out HBK.out HROW.out HWW.out HBS.out HK.out.2.2 HSL.out HLL.out
                      have HE := Lib.hid (And.intro hM9 hB9)
                      clear hM9 hB9 hrun
                      simp only [kv, key3] at hmu
                      refine oneJ 9 (by kernel_rfl) rfl (fun K hK => ?_)
                      refine app_op _ _ 22 rfl rfl rfl rfl hra ?_
                      refine hK.out _ _ (holdJ ?_ (fun hCells => ?_))
                      · clear hK; (try dsimp only); exact ⟨⟨⟨World.grownBy.cell hgr hCells.1.1.1 (fun e => by have := HVB.out _ e.symm; simp at this), World.grownBy.cell hgr hCells.1.1.2 (fun e => by have := HVB.out _ e.symm; simp at this)⟩, ⟨World.grownBy.cell hgr hCells.1.2.1 (fun e => by have := HVB.out _ e.symm; simp at this), World.grownBy.cell hgr hCells.1.2.2 (fun e => by have := HVB.out _ e.symm; simp at this)⟩⟩, World.grownBy.cell hgr hCells.2 (fun e => by have := HVB.out _ e.symm; simp at this)⟩
                      clear hK K hra hgr
                      try simp only [Act.put, List.setIfInBounds_toArray, List.set_cons_zero, List.set_cons_succ]
                      refine oneJ 10 (by kernel_rfl) rfl (fun K hK => ?_)
                      go_simp
                      refine hK.out _ _ (lastJ (by rfl) ?_)
                      clear hK K hmu
                      try simp only [Act.put, List.setIfInBounds_toArray, List.set_cons_zero, List.set_cons_succ]
                      refine wpAnyJ_done (by kernel_rfl) (NoPan.normal ?_) _
                      go_wp2_with fail
                      go_roundw
                      case rel =>
                        have hk1 : k + 1 ≤ N := hlt
                        refine ⟨k + 1, hk1, by simp, HE.out.1, HE.out.2, Lib.hid (fun j hj => ?_)⟩
                        rcases Nat.lt_or_eq_of_le (Nat.le_of_lt_succ hj) with h | h
                        · exact HF.out j h
                        · rw [h]; exact HFK.out
                      case measure =>
                        simp [intOf]
                        omega
      · have hkk : k = N := by omega
        subst hkk
        clear hB hM
        go_wp2_with fail
        go_ret
        exact ⟨.inl ⟨rfl, by have := H256.out; have := HN.out; omega, fun j hj => hF.out j (by have := HN.out; omega)⟩, HB.out⟩
end Go.Proofs.Cr
namespace Go.Proofs.Cr
open Go.RowKit Go.Shelf
attribute [local go_sem] Oper.semAt_some

set_option maxRecDepth 100000 in
set_option maxHeartbeats 4000000 in
/-- 'detect.Width'. -/
theorem Width_any (A : Option Addr) (c : Nat) (L : List Sg) (se ob li sea : Int) (w : World) (hr : RdS w A L) :
    Calls Tryz.prog 15 #[.slice A L.length c, .int .i64 se, .int .i64 ob, .int .i64 li, .int .i64 sea] w fun e w' => (∃ p : Int × Int, e = .returned (.tuple #[.int .i64 p.1, .int .i64 p.2]) ∧ WidthR L (se, ob, li) sea p) ∧ Below w.heap.size w w' := by
  have hA := Blk.new w #[.int .i64 sea] 3
  have hW1 := below_alloc w (.cells #[.int .i64 sea] 3)
  have TC := Lib.hid (CheckTable_any A c L _ (hr.below hW1 (Nat.le_refl _)))
  have HW1 := Lib.hid hW1
  have HR := Lib.hid hr
  obtain ⟨N, hN⟩ : ∃ N, N = L.length := ⟨_, rfl⟩
  rw [← hN] at TC ⊢
  have HN := Lib.hid hN
  clear hr hW1 hN
  have hmf : ∀ (fn : Fn) (first cap : Array Value) (w : World), (Instr.makeFunc fn first cap).run Tryz.prog w = .ok (.func fn first cap) w := fun _ _ _ _ => rfl
  go_enter Tryz.func15, Tryz.ntmps15
  go_wp2_with fail
  refine TC.out.mono ?_
  rintro e w2 ⟨⟨rfl, hT⟩ | ⟨rfl, hT⟩, hb2⟩
  · have HT := Lib.hid hT
    have HB2 := Lib.hid (HW1.out.trans (hb2.mono HW1.out.size))
    have hA2 := (hA.pass hb2).alloc (.cells #[.int .i64 se, .int .i64 ob, .int .i64 li] 73)
    have hK2 := Blk.new w2 #[.int .i64 se, .int .i64 ob, .int .i64 li] 73
    have HB3 := Lib.hid (HB2.out.alloc HB2.out.size (.cells #[.int .i64 se, .int .i64 ob, .int .i64 li] 73))
    have hok : ∀ x ∈ L, 0 ≤ x.sea ∧ x.sea ≤ 9 := by
      intro x hx
      obtain ⟨j, hj, rfl⟩ := mem_at hx
      have := (hT.2 j hj).1
      simp only [okS, okK, inB, Bool.and_eq_true, decide_eq_true_eq] at this
      exact this.2.1
    have TL := Lib.hid (least_any 45 #[.pointer (some ⟨w2.heap.size, 0, none⟩), .pointer (some ⟨w.heap.size, 0, none⟩)] (candS (se, ob, li) sea) A c L _ (HR.out.below HB3.out (Nat.le_refl _)) (fun _ _ => rfl)
      (fun s W hW => wanted_any s se ob li sea w2.heap.size w.heap.size W (hK2.pass hW) (hA2.pass hW)) hok (by have := hT.1; omega))
    rw [← HN.out] at TL
    clear hT hb2 hA hA2 hK2 hok
    go_wp2_with fail
    refine TL.out.mono ?_
    rintro e w3 ⟨⟨h1, rfl⟩ | ⟨s, h1, h2, h3, rfl⟩, hb3⟩
    · have HB4 := Lib.hid (HB3.out.trans (hb3.mono HB3.out.size))
      have H1 := Lib.hid h1
      clear h1 hb3
      simp only [sv, Sg.z]
      go_wp2_with fail
      go_ret2
      exact ⟨⟨(0, 7), rfl, .inr ⟨HT.out, .inl ⟨H1.out, rfl⟩⟩⟩, HB4.out.alloc HB4.out.size _⟩
    · have HB4 := Lib.hid (HB3.out.trans (hb3.mono HB3.out.size))
      have H1 := Lib.hid (And.intro h1 (And.intro h2 h3))
      clear h1 h2 h3 hb3
      simp only [sv]
      go_wp2_with fail
      go_ret2
      exact ⟨⟨(s.wi, 0), rfl, .inr ⟨HT.out, .inr ⟨s, H1.out.1, H1.out.2.1, H1.out.2.2, rfl⟩⟩⟩, HB4.out.alloc HB4.out.size _⟩
  · have HT := Lib.hid hT
    have HB2 := Lib.hid (HW1.out.trans (hb2.mono HW1.out.size))
    clear hT hb2 hA
    go_wp2_with fail
    go_ret2
    exact ⟨⟨(0, 2), rfl, .inl ⟨HT.out, rfl⟩⟩, HB2.out⟩
end Go.Proofs.Cr
namespace Go.Proofs.Cr
open Go.RowKit Go.Shelf
attribute [local go_sem] Oper.semAt_some

theorem info56 : (Tryz.prog.info? 56).map (fun i => (i.zero, i.size, i.bytes)) = some (some (.agg #[.string ⟨#[]⟩, .string ⟨#[]⟩, .string ⟨#[]⟩, .string ⟨#[]⟩]), 4, 64) := by kernel_rfl
/-- The cells of a bend. -/
def bdL (x : Bd) : List Value := [.string x.cn, .string x.cd, .string x.hn, .string x.hd]
/-- A slice of the call's own that holds bends. -/
def RowB (w : World) (B : Nat) (v : Value) (L : List Bd) : Prop := w.ownsRow B 56 4 v L.length (L.flatMap bdL)
theorem bdL_at (L : List Bd) (j : Nat) (h : j < L.length) (i : Nat) (hi : i < 4) : (L.flatMap bdL)[j * 4 + i]? = (bdL (L.getD j .zero))[i]? := by
  induction L generalizing j with
  | nil => simp at h
  | cons s L ih =>
    cases j with
    | zero =>
      simp only [List.flatMap_cons, Nat.zero_mul, Nat.zero_add, List.getD_cons_zero]
      rw [List.getElem?_append_left (by simp [bdL]; omega)]
    | succ j =>
      simp only [List.flatMap_cons, List.getD_cons_succ]
      have e : (j + 1) * 4 + i = 4 + (j * 4 + i) := by omega
      have e5 : (bdL s).length = 4 := rfl
      rw [e, List.getElem?_append_right (by rw [e5]; omega), e5, Nat.add_sub_cancel_left]
      exact ih j (by simpa using h)
theorem add_at (g n : Nat) : (⟨g, 0, none⟩ : Addr).add n = ⟨g, 0 + n, none⟩ := by
  by_cases h0 : n = 0
  · rw [h0]; rfl
  · simp [Addr.add, h0]
theorem RowB.reads {w : World} {B : Nat} {v : Value} {L : List Bd} (h : RowB w B v L) (hl : L.length ≤ 1000000000) : ∃ A c, v = .slice A L.length c ∧ L.length ≤ c ∧ RdB w A L := by
  have hc := fun g hg => World.ownsRow.cells h (g := g) hg
  rcases h.2 with ⟨rfl, h2⟩ | ⟨g, cap, cur, rfl, h2, h3, h4, h5, h6, h7⟩
  · exact ⟨none, 0, by rw [h2], by omega, hl, fun hp => by omega⟩
  · refine ⟨_, cap, rfl, h4, hl, fun _ => ⟨g, 0, rfl, (Array.getElem?_eq_some_iff.1 h3).1, fun j hj => ?_⟩⟩
    have key : ∀ i u, i < 4 → (bdL (L.getD j .zero))[i]? = some u → w.cell? ⟨g, 0 + j * 4 + i, none⟩ = some u := by
      intro i u hi hu
      have := hc g rfl (j * 4 + i) u (by rw [bdL_at L j hj i hi]; exact hu)
      rw [Nat.add_assoc, ← add_at]
      exact this
    exact ⟨⟨key 0 _ (by decide) rfl, key 1 _ (by decide) rfl⟩, key 2 _ (by decide) rfl, key 3 _ (by decide) rfl⟩
section
variable {ops : Array Oper} {rest : List Oper} {o : Oper} {a : Act} {Q : Exit → Act → World → Prop}
/-- 'append(v, x)', x a bend: behind 'at_builtin'. -/
theorem app_bd {w0 W : World} {base : Nat} {v : Value} {L : List Bd} (y : Bd) {sl x : Operand} (hgd : o.guard = none)
    (ho : o.op = .call { callee := .builtin .append, args := #[sl, x], argTypes := #[34, 34] }) (hs : a.eval sl = v) (hx : a.eval x = .slice (some ⟨W.heap.size, 0, none⟩) 1 1) (HO : RowB W base v L) (HB : Below base w0 W) (hbase : base ≤ W.heap.size) (hl : L.length ≤ 1000000)
    (h : ∀ v1 w1, RowB w1 base v1 (L ++ [y]) → Below base w0 w1 → wpList Tryz.prog ops Q rest (a.put o.dst v1) w1) :
    wpList Tryz.prog ops Q (o :: rest) a (W.alloc (.cells #[.string y.cn, .string y.cd, .string y.hn, .string y.hd] 56)) := by
  obtain ⟨i0, hi, hzz⟩ := Option.map_eq_some_iff.1 info56
  simp only [Prod.mk.injEq] at hzz
  obtain ⟨hz0, hz1, hz2⟩ := hzz
  have hB := Blk.new W #[.string y.cn, .string y.cd, .string y.hn, .string y.hd] 56
  refine wpList_append_own_at (W.alloc (.cells #[.string y.cn, .string y.cd, .string y.hn, .string y.hd] 56)) hgd sl x 34 ho base 56 i0 _ 4 64 Tryz.underlying34 hi hz0 hz1 hz2 rfl (by decide) v L.length (L.flatMap bdL) hs (World.ownsRow.alloc HO _) ⟨W.heap.size, 0, none⟩ 1 1 (bdL y) hx rfl
    (fun j u hu => by rw [add_at, Nat.zero_add]; exact (hB.cell j).trans (by simpa [bdL] using hu)) (by intro u hu; simp only [bdL, List.mem_cons, List.mem_nil_iff, or_false] at hu; rcases hu with rfl | rfl | rfl | rfl <;> rfl) (by unfold maxLen; omega) (by omega) (by simp; omega) ?_
  intro v1 w1 hown hg _ _
  refine h v1 w1 ?_ ?_
  · unfold RowB
    rw [List.flatMap_append, List.length_append]
    simpa using hown
  · refine (HB.alloc hbase _).grown hg (by simp; omega) ?_
    intro j hj
    exact (World.ownsRow.lt HO j hj).1
end
end Go.Proofs.Cr
namespace Go.Proofs.Cr
open Go.RowKit Go.Shelf
attribute [local go_sem] Oper.semAt_some

set_option maxRecDepth 100000 in
set_option maxHeartbeats 4000000 in
/-- 'detect.Halving'. -/
theorem Halving_any (n : Int) (w : World) (hT : TabW w) (hZ : ZO w) :
    Calls Tryz.prog 20 #[.int .i64 n] w fun e w' => ((e = .returned (.tuple #[.slice none 0 0, .int .i64 2]) ∧ ¬ (1 ≤ n ∧ n ≤ 40)) ∨ ∃ (m : Nat) (A : Option Addr) (c : Nat), n = m ∧ 1 ≤ m ∧ m ≤ 40 ∧ e = .returned (.tuple #[.slice A (m + 1 : Nat) c, .int .i64 0]) ∧ m + 1 ≤ c ∧ RdB w' A (halvL m)) ∧ Below w.heap.size w w' := by
  have TW := Lib.hid (fun W => within_any n 1 40 W)
  have HT := Lib.hid hT
  obtain ⟨⟨z0, z1⟩, _⟩ := hZ
  obtain ⟨d, e1⟩ : ∃ d, d = (decide (1 ≤ n) && decide (n ≤ 40)) := ⟨_, rfl⟩
  rw [← e1] at TW
  have HD := Lib.hid e1
  clear hT e1
  cases d with
  | false =>
    go_enter Tryz.func20, Tryz.ntmps20
    go_wp2_with fail
    refine (TW.out _).mono ?_
    rintro e w2 ⟨rfl, rfl⟩
    go_wp2_with fail
    go_ret2
    exact ⟨.inl ⟨rfl, fun h => by have := HD.out; simp [h.1, h.2] at this⟩, Below.refl _ _⟩
  | true =>
    obtain ⟨m, hm, hm1, hm40⟩ : ∃ m : Nat, n = m ∧ 1 ≤ m ∧ m ≤ 40 := by
      have := HD.out
      simp only [Bool.true_eq, Bool.and_eq_true, decide_eq_true_eq] at this
      exact ⟨n.toNat, by omega, by omega, by omega⟩
    subst hm
    have HW0 := Lib.hid (below_alloc w (.cells #[.string ⟨#[48]⟩, .string ⟨#[49]⟩, .string ⟨#[48]⟩, .string ⟨#[49]⟩] 56))
    have HR0 : Hid (RowB (w.alloc (.cells #[.string ⟨#[48]⟩, .string ⟨#[49]⟩, .string ⟨#[48]⟩, .string ⟨#[49]⟩] 56)) w.heap.size (.slice (some ⟨w.heap.size, 0, none⟩) 1 1) (halvL 0)) := Lib.hid (by
      have h := World.ownsRow_lit (base := w.heap.size) (e := 56) (size := 4) w #[.string ⟨#[48]⟩, .string ⟨#[49]⟩, .string ⟨#[48]⟩, .string ⟨#[49]⟩] 1 (Nat.le_refl _) (by unfold maxLen; omega) rfl
      have e0 : halvL 0 = [zeroBd] := by kernel_rfl
      unfold RowB
      rw [e0]
      exact h)
    go_enter Tryz.func20, Tryz.ntmps20
    go_wp2_with fail
    refine (TW.out _).mono ?_
    rintro e w2 ⟨rfl, rfl⟩
    go_wp2_with fail
    go_loopw [4, 5] (fun v i wr => ∃ k : Nat, k ≤ m ∧ i = .int .i64 ((k + 1 : Nat) : Int) ∧ RowB wr w2.heap.size v (halvL k) ∧ Below w2.heap.size w2 wr)
      (fun _ i _ => (m + 1 - intOf i).toNat)
    case atStart => exact ⟨0, Nat.zero_le _, rfl, HR0.out, HW0.out⟩
    case round =>
      obtain ⟨k, hk, rfl, hO, hB⟩ := hrel
      have HB := Lib.hid hB
      have HO := Lib.hid hO
      clear hB hO
      have hfnR : ∀ f, Fence.wide.fn f := fun _ => trivial
      have hm : Tryz.prog.follows .mixedOrders = true := by kernel_rfl
      by_cases hlt : k < m
      · have hkl : ((k + 1 : Nat) : Int) ≤ (m : Int) := by omega
        obtain ⟨K1, hK1⟩ : ∃ K1, K1 = k + 1 := ⟨_, rfl⟩
        rw [← hK1] at hkl ⊢
        have HK1 := Lib.hid hK1
        clear hK1
        obtain ⟨P, hP⟩ : ∃ P, P = 2 ^ K1 := ⟨_, rfl⟩
        have hP1 : 1 ≤ P := by rw [hP]; exact Nat.pow_pos (by decide)
        have hP2 : P ≤ 1099511627776 := by
          have : P ≤ 2 ^ 40 := by rw [hP]; exact Nat.pow_le_pow_right (by decide) (by omega)
          have e40 : 2 ^ 40 = 1099511627776 := by decide
          omega
        obtain ⟨R, hR⟩ : ∃ R, R = P - 1 := ⟨_, rfl⟩
        have w1 : IntKind.i64.wrap ((2 : Int) ^ K1) = (P : Int) := by
          have e : ((2 : Int) ^ K1) = ((P : Nat) : Int) := by rw [hP]; simp
          rw [e]; exact i64_id P (by omega)
        have w2' : IntKind.i64.wrap ((P : Int) - 1) = (R : Int) := by
          have e : ((P : Int) - 1) = ((R : Nat) : Int) := by rw [hR]; omega
          rw [e]; exact i64_id R (by omega)
        have TR := Lib.hid (fun W h => itoa_any R (by omega) W h)
        have TP := Lib.hid (fun W h => itoa_any P (by omega) W h)
        have TK := Lib.hid (fun W h => itoa_any K1 (by have := HK1.out; omega) W h)
        have HPR := Lib.hid (And.intro hP hR)
        have HT2 := Lib.hid (HT.out.below HB.out (Nat.le_refl _))
        have HK := Lib.hid ((Kept.of (Nat.le_refl _) HB.out.size HB.out).drew)
        have HRO := Lib.hid (show RowB wr.drew w2.heap.size _ (halvL k) from HO.out)
        clear hP hR hP1 hP2
        go_wp2_with fail
        refine wp_region_J (fun _ => True) [] hm ?hCells0 (fun hCells => ?_)
        case hCells0 => exact trivial
        generalize wr.drew = W0 at *
        refine takeB hfnR (by kernel_rfl) 0 (v := ?_) rfl (by kernel_rfl) (fun _ _ _ h => h) (by kernel_rfl) hCells (Or.inl ⟨by rfl, ?_⟩) ?_
        rotate_left 1
        · intro w hSw; (try dsimp only at hSw); go_simp; (try with_reducible rfl)
        try simp only [Act.put, List.setIfInBounds_toArray, List.set_cons_zero, List.set_cons_succ]
        refine takeB hfnR (by kernel_rfl) 1 (v := ?_) rfl (by kernel_rfl) (fun _ _ _ h => h) (by kernel_rfl) hCells (Or.inl ⟨by rfl, ?_⟩) ?_
        rotate_left 1
        · intro w hSw; (try dsimp only at hSw); go_simp; (try with_reducible rfl)
        try simp only [Act.put, List.setIfInBounds_toArray, List.set_cons_zero, List.set_cons_succ]
        refine takeB hfnR (by kernel_rfl) 2 (v := ?_) rfl (by kernel_rfl) (fun _ _ _ h => h) (by kernel_rfl) hCells (Or.inl ⟨by rfl, ?_⟩) ?_
        rotate_left 1
        · intro w hSw; (try dsimp only at hSw); go_simp; (try with_reducible rfl)
        try simp only [Act.put, List.setIfInBounds_toArray, List.set_cons_zero, List.set_cons_succ]
        refine takeB hfnR (by kernel_rfl) 4 (v := ?_) rfl (by kernel_rfl) (fun _ _ _ h => h) (by kernel_rfl) hCells (Or.inl ⟨by rfl, ?_⟩) ?_
        rotate_left 1
        · intro w hSw; (try dsimp only at hSw); go_simp; (try with_reducible rfl)
        try simp only [Act.put, List.setIfInBounds_toArray, List.set_cons_zero, List.set_cons_succ]
        refine takeB hfnR (by kernel_rfl) 5 (v := ?_) rfl (by kernel_rfl) (fun _ _ _ h => h) (by kernel_rfl) hCells (Or.inl ⟨by rfl, ?_⟩) ?_
        rotate_left 1
        · intro w hSw; (try dsimp only at hSw); go_simp; (try with_reducible rfl)
        try simp only [Act.put, List.setIfInBounds_toArray, List.set_cons_zero, List.set_cons_succ]
        refine oneJ 3 (by kernel_rfl) rfl (fun K hK => ?_)
        go_simp
        refine ⟨rfl, ?_⟩
        (refine (callsIn_wide.2 (TR.out _ (HT.out.below HK.out.2.2 (Nat.le_refl _)))).mono ?_; rintro e w3 ⟨rfl, hv3⟩)
        refine hK.out _ _ (holdJ ?_ (fun hCells => ?_))
        · clear hK; (try dsimp only); (all_goals trivial)
        clear hK K
        try simp only [Act.put, List.setIfInBounds_toArray, List.set_cons_zero, List.set_cons_succ]
        have HK := Lib.hid (HK.out.pass hv3)
        have HRO := Lib.hid (World.ownsRow.kept HRO.out (grown_of_below hv3 none) (by cases Value.ownBlock _ <;> simp))
        clear hv3
        refine oneJ 6 (by kernel_rfl) rfl (fun K hK => ?_)
        go_simp
        refine ⟨rfl, ?_⟩
        (refine (callsIn_wide.2 (TP.out _ (HT.out.below HK.out.2.2 (Nat.le_refl _)))).mono ?_; rintro e w4 ⟨rfl, hv4⟩)
        refine hK.out _ _ (holdJ ?_ (fun hCells => ?_))
        · clear hK; (try dsimp only); (all_goals trivial)
        clear hK K
        try simp only [Act.put, List.setIfInBounds_toArray, List.set_cons_zero, List.set_cons_succ]
        have HK := Lib.hid (HK.out.pass hv4)
        have HRO := Lib.hid (World.ownsRow.kept HRO.out (grown_of_below hv4 none) (by cases Value.ownBlock _ <;> simp))
        clear hv4
        refine takeB hfnR (by kernel_rfl) 7 (v := ?_) rfl (by kernel_rfl) (fun _ _ _ h => h) (by kernel_rfl) hCells (Or.inl ⟨by rfl, ?_⟩) ?_
        rotate_left 1
        · intro w hSw; (try dsimp only at hSw); go_simp; (try with_reducible rfl)
        try simp only [Act.put, List.setIfInBounds_toArray, List.set_cons_zero, List.set_cons_succ]
        refine takeB hfnR (by kernel_rfl) 8 (v := ?_) rfl (by kernel_rfl) (fun _ _ _ h => h) (by kernel_rfl) hCells (Or.inl ⟨by rfl, ?_⟩) ?_
        rotate_left 1
        · intro w hSw; (try dsimp only at hSw); go_simp; (try with_reducible rfl)
        try simp only [Act.put, List.setIfInBounds_toArray, List.set_cons_zero, List.set_cons_succ]
        refine wpAnyJ_done (by kernel_rfl) (NoPan.normal ?_) _
        go_wp2_with fail
        refine (TK.out _ (HT.out.below HK.out.2.2 (Nat.le_refl _))).mono ?_
        rintro e w5 ⟨rfl, hv5⟩
        have HK := Lib.hid (HK.out.pass hv5)
        have HRO := Lib.hid (show RowB w5 w2.heap.size _ (halvL k) from World.ownsRow.kept HRO.out (grown_of_below hv5 none) (by cases Value.ownBlock _ <;> simp))
        clear hv5
        go_wp2_with (at_builtin; refine app_bd ⟨numB K1, ⟨#[49]⟩, numB R, numB P⟩ rfl rfl rfl rfl HRO.out HK.out.2.2 HK.out.2.1 (by rw [halvL_len]; omega) ?_)
        intro v1 w6 hown hbel
        have HE := Lib.hid (And.intro hown hbel)
        clear hown hbel
        go_wp2_with fail
        have hk1 := HK1.out
        refine ⟨⟨k + 1, hlt, ?_, ?_, HE.out.2⟩, ?_⟩
        · rw [hk1]; simp
        · have h := HE.out.1
          rw [HPR.out.2, HPR.out.1, hk1] at h
          rw [halvL_succ]
          exact h
        · simp only [intOf]
          omega
      · have hkk : k = m := by omega
        subst hkk
        obtain ⟨A, c, rfl, hc, hrd⟩ := HO.out.reads (by rw [halvL_len]; omega)
        rw [halvL_len] at hc ⊢
        have HRD := Lib.hid hrd
        clear hrd
        go_wp2_with fail
        go_ret2
        exact ⟨.inr ⟨k, A, c, rfl, hm1, hm40, rfl, hc, HRD.out⟩, HB.out⟩
end Go.Proofs.Cr
