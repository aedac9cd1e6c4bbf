/- The law DetectConcave of the package cressetlaw06: whatever curve and coverages are given, the call returns true, and its arguments read as before. Conditions: those that its card prints (the listed package-level variables read as the program's text lays them). -/
import Derived.Test.YtolofiiolinnoaaGreatDoorC16
import Derived.Test.YtolofiiolinnoaaGreatDoorC20
set_option linter.all false
namespace Go.Proofs.YtolofiiolinnoaaGreatDoor
open Go.ChangeShapes Go.WideShapes Go.ChangeAt Go.RowKit Go.Proofs.Cr

set_option maxRecDepth 100000 in
set_option maxHeartbeats 1000000 in
theorem concave_contract (H : Type) (enc : TypeId × Value → H) (W : World) (base : Nat) (args : Array Value) (ds gs : List (DataW H)) (before : List MemPlace)
    (hval : ∀ (j : Nat) t v, Tryz.f10.params[j]? = some t → args[j]? = some v → Value.okWide Tryz.prog W .any base t v)
    (hW : DataW.Whole enc Tryz.prog Tryz.f10.params.toList Rows.detectConcaveSpec.vars false W args.toList ds gs before) (hL : laidMetH Tryz.prog Rows.detectConcaveRow.laid W) :
    Calls Tryz.prog 10 args W fun e W' => ∃ v, e = .returned v ∧ Rows.detectConcaveSpec.post enc Tryz.prog Tryz.f10 false true false false W args v W' := by
  have hW' := hW
  obtain ⟨p, q, hA0, hV, rfl, hfz, hnd⟩ := hW
  have hA : DataW.TrodAll enc Tryz.prog W 0 (fun _ => true) true Tryz.f10.params.toList args.toList ds p := hA0
  rw [Tryz.params10] at hA hval
  obtain ⟨rfl, rfl⟩ := trodVars_none hV
  obtain ⟨v0, vs0, d0, ds0, p0, q0, hargs, rfl, rfl, h0, r0⟩ := trodAll_cons hA
  obtain ⟨v1, vs1, d1, ds1, p1, q1, rfl, rfl, rfl, h1, r1⟩ := trodAll_cons r0
  obtain ⟨v2, vs2, d2, ds2, p2, q2, rfl, rfl, rfl, h2, r2⟩ := trodAll_cons r1
  obtain ⟨rfl, rfl, rfl⟩ := trodAll_nil r2
  obtain rfl : args = #[v0, v1, v2] := by cases args; simp_all
  obtain ⟨A0_0, l0_0, k0_0, rfl⟩ := okWide_slice Tryz.underlying34 (hval 0 34 v0 rfl rfl)
  obtain ⟨fuel0, hf0⟩ := h0
  obtain ⟨A, n, c, L, hcs0, hnc0, hLn0, hrd0⟩ := open_curve hf0
  obtain ⟨rfl, rfl, rfl⟩ : A0_0 = A ∧ l0_0 = n ∧ k0_0 = c := by simpa [Value.cells] using hcs0
  subst hLn0
  clear hcs0 hf0
  obtain ⟨cs1, rfl, _⟩ := okWide_struct Tryz.underlying46 (hval 1 46 v1 rfl rfl)
  obtain ⟨fuel1, hf1⟩ := h1
  obtain ⟨a1, a2, rfl⟩ := open_part hf1
  clear hf1
  obtain ⟨cs2, rfl, _⟩ := okWide_struct Tryz.underlying46 (hval 2 46 v2 rfl rfl)
  obtain ⟨fuel2, hf2⟩ := h2
  obtain ⟨b1, b2, rfl⟩ := open_part hf2
  clear hf2
  obtain ⟨hT, hZ⟩ := of_laid hL
  refine (Concave_walk A0_0 k0_0 L a1 a2 b1 b2 W (fun h => hrd0 (by omega)) hnc0 hT hZ).mono ?_
  rintro e W' ⟨rfl, hbW⟩
  exact ⟨_, rfl, law_post hW' rfl rfl rfl (by kernel_rfl) hbW⟩
set_option maxRecDepth 100000 in
theorem concave_lifted (os : Os) (started : os.Started) (H : Type) (enc : TypeId × Value → H) :
    ReturnsInHanded {} Tryz.checked os 10 .any (fun w args => (Rows.detectConcaveSpec.pre enc Tryz.prog Tryz.f10 Rows.detectConcaveRow.domain false w args ∧ laidMetH Tryz.prog Rows.detectConcaveRow.laid w) ∧ sizedMet enc Tryz.prog Tryz.f10 (OpenSpec.ofChange Rows.detectConcaveSpec) false w args)
      (Rows.detectConcaveSpec.post enc Tryz.prog Tryz.f10 false true false false) := by
  refine returnsInHanded_of_change_and (C := Tryz.checked) (X := fun w _ => laidMetH Tryz.prog Rows.detectConcaveRow.laid w) (fun _ _ _ hh h => h.of_heap hh) own started (by kernel_rfl) Tryz.func10
    (ChangeSpec.witness_shaped (enc := enc) (C := Tryz.checked) (os := os) (X := fun w _ => laidMetH Tryz.prog Rows.detectConcaveRow.laid w) false (World.laidAll Tryz.prog os Rows.detectConcaveRow.laid) #[.slice none 0 0, .agg #[.string ⟨#[]⟩, .string ⟨#[]⟩], .agg #[.string ⟨#[]⟩, .string ⟨#[]⟩]] 8 (World.laidAll_os _ _ _)
      (World.shaped_of_ZipB (by kernel_rfl) (by kernel_rfl)) (by kernel_rfl) (by kernel_rfl) (by kernel_rfl)
      (by rw [MakeChecks.laidMetH_plain _ _ _ (by kernel_rfl)]; exact laidMet_laidAll _ (by kernel_rfl) (by kernel_rfl))) ?_
  intro W base args ds gs before hval hW _ _ hL _
  exact concave_contract H enc W base args ds gs before hval hW hL
theorem concave_said : Rows.DetectConcaveSaid :=
  OpenClaim.holds_of_wide 10 Tryz.f10 rfl rfl rfl rfl rfl rfl rfl ⟨rfl, rfl, rfl, rfl, rfl⟩ rfl rfl rfl rfl rfl (by kernel_rfl) Tryz.func10 (by kernel_rfl)
    (of_decide_eq_true (by kernel_rfl)) (by unfold Func.isWrapper; first | (rw [if_pos (by decide +kernel)]; kernel_rfl) | (rw [if_neg (by decide +kernel)]; exact ⟨rfl, rfl⟩))
    (fun os started H enc _ => concave_lifted os started H enc)
theorem concave_plain (f : FuncId) (fn : Func) (hf : Tryz.pinned.checked.prog.funcNamed "cresset/cressetlaw06.DetectConcave" = some f) (hfn : Tryz.pinned.checked.prog.funcs[f]? = some fn) :
    true = Tryz.pinned.checked.prog.looks [] ∧ ∀ (j : Nat) t, fn.params[j]? = some t → Tryz.pinned.checked.prog.wantsStandIn t = false := by
  obtain rfl : f = 10 := Option.some.inj ((show Tryz.prog.funcNamed "cresset/cressetlaw06.DetectConcave" = some 10 by kernel_rfl).symm.trans hf) |>.symm
  obtain rfl : fn = Tryz.f10 := (Option.some.inj (Tryz.func10.symm.trans hfn)).symm
  refine ⟨by kernel_rfl, fun j t ht => ?_⟩
  rw [Tryz.params10] at ht
  have hm : t ∈ [34, 46, 46] := by simpa using Array.mem_of_getElem? ht
  have hall : ([34, 46, 46].all fun u => !Tryz.prog.wantsStandIn u) = true := by kernel_rfl
  exact (show Tryz.prog.wantsStandIn t = false by simpa using List.all_eq_true.1 hall t hm)
/-- The card of DetectConcave. -/
theorem detectConcave_holds : Rows.DetectConcaveCardSaid :=
  Claim7.holds_tied_plain_at .later [] _ _ _ _ concave_said (fun _ h => by cases h) (by kernel_rfl) (fun _ h => by cases h) detectConcave_row_tie rfl ⟨rfl, rfl⟩ (by kernel_rfl) rfl concave_plain (by kernel_rfl)
end Go.Proofs.YtolofiiolinnoaaGreatDoor
