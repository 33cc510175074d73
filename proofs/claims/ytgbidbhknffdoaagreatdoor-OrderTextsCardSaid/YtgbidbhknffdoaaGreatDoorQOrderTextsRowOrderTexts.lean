/- The statement OrderTexts of the law OrderTexts: proved: for every input the law's code returns true, and the input reads as it did. The row lists library variables; the card ties them to the program's text. -/
import Derived.Test.YtgbidbhknffdoaaGreatDoorQGot
import Derived.Test.YtgbidbhknffdoaaGreatDoorQOrderTextsPuOrderTexts
import Derived.Test.YtgbidbhknffdoaaGreatDoorTie
import Derived.Test.YtgbidbhknffdoaaGreatDoorCards
import Derived.WalkKit
import Derived.ProofKit
import Derived.OpenShut
import Derived.ShutString
import Derived.ChangeOld
import Derived.Below
import Derived.SizedLaws
namespace Go.Proofs.YtgbidbhknffdoaaGreatDoor.orderTexts
open Go Go.ChangeShapes Go.WideShapes Go.ChangeAt Go.RowKit Go.Proofs.YtgbidbhknffdoaaGreatDoor.P Go.Proofs.YtgbidbhknffdoaaGreatDoorW.PrintWords
set_option linter.unusedVariables false
theorem own : ownKnob Tryz.prog.godebug = none := by kernel_rfl
theorem laidOut : laidOutB Tryz.prog = true := by kernel_rfl
set_option maxRecDepth 100000 in
set_option maxHeartbeats 4000000 in
theorem lifted (os : Os) (started : os.Started) (H : Type) (enc : TypeId × Value → H) :
    ReturnsInHanded {} Tryz.checked os 6 .any (fun w args => (Rows.orderTextsSpec.pre enc Tryz.prog Tryz.f6 Rows.orderTextsRow.domain false w args ∧ laidMetH Tryz.prog laid0 w) ∧ sizedMet enc Tryz.prog Tryz.f6 (OpenSpec.ofChange Rows.orderTextsSpec) false w args) (Rows.orderTextsSpec.post enc Tryz.prog Tryz.f6 false true false false) := by
  refine lifted_laid (C := Tryz.checked) own started (by kernel_rfl) Tryz.func6 laid0_plain #[.string ByteArray.empty, .slice none 0 0] 8 (World.shaped_of_ZipB (by kernel_rfl) (by kernel_rfl)) (by kernel_rfl) (by kernel_rfl) (by kernel_rfl) (by kernel_rfl) (by kernel_rfl) ?_
  intro W base args ds gs before hval0 hW hsz0 hLd hSh
  have hsz : (DataW.weightsEach Tryz.prog (Tryz.f6.params.toList ++ Rows.orderTextsSpec.plain.varTypes Tryz.prog) (ds ++ gs)).all (· ≤ reachBytes) = true := hsz0
  have hval : ∀ (j : Nat) t v, Tryz.f6.params[j]? = some t → args[j]? = some v → Value.okWide Tryz.prog W .any base t v := hval0
  have hW' := hW
  obtain ⟨p, q, hA0, hV, rfl, hfz, hnd⟩ := hW
  have hA : DataW.TrodAll enc Tryz.prog W 0 (fun _ => true) true Tryz.f6.params.toList args.toList ds p := hA0
  rw [Tryz.params6] at hA hval hsz
  obtain ⟨v0, vs0, d0, ds0, p0, q0, hargs, rfl, rfl, h0, r0⟩ := trodAll_cons hA
  obtain ⟨v1, vs1, d1, ds1, p1, q1, rfl, rfl, rfl, h1, r1⟩ := trodAll_cons r0
  obtain ⟨rfl, rfl, rfl⟩ := trodAll_nil r1
  obtain rfl : args = #[v0, v1] := by cases args; simp_all
  obtain ⟨rfl, rfl⟩ := trodVars_none hV
  have k0 := h0
  have lt0 : ∀ x ∈ p0, x.block < W.heap.size := by obtain ⟨m, hm⟩ := k0; exact DataW.trod_lt m _ _ _ hm
  obtain ⟨x0, hK0, hx0⟩ := op9.arg hsz (j := 0) rfl rfl h0
  obtain rfl := arg_string Tryz.underlying9 (hval 0 9 v0 rfl rfl) hK0
  have k1 := h1
  have lt1 : ∀ x ∈ p1, x.block < W.heap.size := by obtain ⟨m, hm⟩ := k1; exact DataW.trod_lt m _ _ _ hm
  obtain ⟨x1, hK1, hx1⟩ := op23.arg hsz (j := 1) rfl rfl h1
  obtain ⟨A1, c1, rfl, hl1, hr1⟩ := arg_slice Tryz.underlying23 (hval 1 23 v1 rfl rfl) hK1
  clear hA0 hval0 hsz0 hsz
  obtain ⟨k, hk⟩ := Pure.OrderTexts x0 x1 hx0 hx1
  refine Calls.mono (show Calls Tryz.prog 6 #[.string x0, .slice A1 x1.length c1] W _ from P.garmentlaw35_OrderTexts.calls k x0 A1 c1 x1 true W hr1 hl1 hk ⟨got0 hLd hSh⟩) fun e W' ⟨he, bel0⟩ => ?_
  subst he
  have bel : Below W.heap.size W W' := bel0
  exact ⟨_, rfl, _, _, _, [], _, [], hW', trodAll_mk1 (shut_bool Tryz.underlying4 _), (trodAll_cons_mk (Below.trod laidOut (by kernel_rfl) (of_decide_eq_true (by kernel_rfl)) k0 bel lt0) (trodAll_cons_mk (Below.trod laidOut (by kernel_rfl) (of_decide_eq_true (by kernel_rfl)) k1 bel lt1) trodAll_mk0)), rfl, bel.frame _, fun h => by cases h⟩
theorem over : Rows.orderTextsRow.holds Tryz.pinned (OpenSpec.ofChange Rows.orderTextsSpec) :=
  OpenClaim.holds_of_wide 6 Tryz.f6 rfl rfl rfl rfl rfl rfl rfl ⟨rfl, rfl, rfl, rfl, rfl⟩ rfl rfl rfl rfl rfl (by kernel_rfl) Tryz.func6 (by kernel_rfl)
    (of_decide_eq_true (by kernel_rfl)) (by unfold Func.isWrapper; first | (rw [if_pos (by decide +kernel)]; kernel_rfl) | (rw [if_neg (by decide +kernel)]; exact ⟨rfl, rfl⟩))
    (fun os started H enc _ => lifted os started H enc)
theorem row_proved : Rows.OrderTextsSaid := over
set_option maxRecDepth 100000 in
theorem card : Rows.OrderTextsCardSaid :=
  Claim7.holds_tied_plain_at .later [] [.data, .data, .data, .data, .sentinel, .sentinel, .pinned] true (true, "7fa1c9cf0c73b12b865892f548e924c42f01b108ff29252e78bd7ad81902ebd4") true over (fun _ h => by cases h) (by kernel_rfl) (fun _ h => by cases h) orderTexts_row_tie rfl ⟨rfl, rfl⟩ (by kernel_rfl) rfl
    (fun f fn hf hfn => by
      obtain rfl : f = 6 := Option.some.inj ((show Tryz.prog.funcNamed "garment/garmentlaw35.OrderTexts" = some 6 by kernel_rfl).symm.trans hf) |>.symm
      obtain rfl : fn = Tryz.f6 := (Option.some.inj (Tryz.func6.symm.trans hfn)).symm
      exact ⟨by kernel_rfl, fun j t ht => by
        rw [Tryz.params6] at ht
        have hm : t ∈ [9, 23] := by simpa using Array.mem_of_getElem? ht
        have hall : ([9, 23].all fun u => !Tryz.prog.wantsStandIn u) = true := by kernel_rfl
        exact (show Tryz.prog.wantsStandIn t = false by simpa using List.all_eq_true.1 hall t hm)⟩)
    (by kernel_rfl)
end Go.Proofs.YtgbidbhknffdoaaGreatDoor.orderTexts
namespace Go.Proofs.YtgbidbhknffdoaaGreatDoor
/-- The card of OrderTexts, under a short name, for the claim. -/
theorem orderTexts_card_holds : Rows.OrderTextsCardSaid := orderTexts.card
#print axioms orderTexts_card_holds
end Go.Proofs.YtgbidbhknffdoaaGreatDoor
