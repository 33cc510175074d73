/- The statement InterchangePrints of the law InterchangePrints: proved: for every input the law's code returns true, and the input reads as it did. The row lists library variables; the card ties them to the program's text. -/
import Derived.Test.YtghnjnegcdbgnaaDoorQGot
import Derived.Test.YtghnjnegcdbgnaaDoorQInterchangePrintsPuInterchangePrints
import Derived.Test.YtghnjnegcdbgnaaDoorTie
import Derived.Test.YtghnjnegcdbgnaaDoorCards
import Derived.WalkKit
import Derived.ProofKit
import Derived.OpenShut
import Derived.ShutString
import Derived.ChangeOld
import Derived.Below
import Derived.SizedLaws
namespace Go.Proofs.YtghnjnegcdbgnaaDoor.interchangePrints
open Go Go.ChangeShapes Go.WideShapes Go.ChangeAt Go.RowKit Go.Proofs.YtghnjnegcdbgnaaDoor.P Go.Proofs.YtghnjnegcdbgnaaDoorW.PrintWords
set_option linter.unusedVariables false
theorem own : ownKnob Tryd.prog.godebug = none := by kernel_rfl
theorem laidOut : laidOutB Tryd.prog = true := by kernel_rfl
set_option maxRecDepth 100000 in
set_option maxHeartbeats 4000000 in
theorem lifted (os : Os) (started : os.Started) (H : Type) (enc : TypeId × Value → H) :
  ReturnsInHanded {} Tryd.checked os 3 .any (fun w args => (Rows.interchangePrintsSpec.pre enc Tryd.prog Tryd.f3 Rows.interchangePrintsRow.domain false w args ∧ laidMetH Tryd.prog laid0 w) ∧ sizedMet enc Tryd.prog Tryd.f3 (OpenSpec.ofChange Rows.interchangePrintsSpec) false w args) (Rows.interchangePrintsSpec.post enc Tryd.prog Tryd.f3 false true false false) := by
 refine lifted_laid (C := Tryd.checked) own started (by kernel_rfl) Tryd.func3 laid0_plain #[.agg #[.int .i64 0, .int .i64 0, .int .i64 0, .int .i64 0, .slice none 0 0, .slice none 0 0]] 8 (World.shaped_of_ZipB (by kernel_rfl) (by kernel_rfl)) (by kernel_rfl) (by kernel_rfl) (by kernel_rfl) (by kernel_rfl) (by kernel_rfl) ?_
 intro W base args ds gs before hval0 hW hsz0 hLd hSh
 have hsz : (DataW.weightsEach Tryd.prog (Tryd.f3.params.toList ++ Rows.interchangePrintsSpec.plain.varTypes Tryd.prog) (ds ++ gs)).all (· ≤ reachBytes) = true := hsz0
 have hval : ∀ (j : Nat) t v, Tryd.f3.params[j]? = some t → args[j]? = some v → Value.okWide Tryd.prog W .any base t v := hval0
 have hW' := hW
 obtain ⟨p, q, hA0, hV, rfl, hfz, hnd⟩ := hW
 have hA : DataW.TrodAll enc Tryd.prog W 0 (fun _ => true) true Tryd.f3.params.toList args.toList ds p := hA0
 rw [Tryd.params3] at hA hval hsz
 obtain ⟨v0, vs0, d0, ds0, p0, q0, hargs, rfl, rfl, h0, r0⟩ := trodAll_cons hA
 obtain ⟨rfl, rfl, rfl⟩ := trodAll_nil r0
 obtain rfl : args = #[v0] := by cases args; simp_all
 obtain ⟨rfl, rfl⟩ := trodVars_none hV
 have k0 := h0
 have lt0 : ∀ x ∈ p0, x.block < W.heap.size := by obtain ⟨m, hm⟩ := k0; exact DataW.trod_lt m _ _ _ hm
 obtain ⟨x0, hK0, hx0⟩ := op27.arg hsz (j := 0) rfl rfl h0
 obtain ⟨cs0, rfl, hS0⟩ := arg_agg Tryd.underlying27 (hval 0 27 v0 rfl rfl) hK0
 obtain ⟨ca0_1, cb0_1, rfl, hA0_1, hB0_1⟩ := hS0
 obtain rfl : _ = [Value.int .i64 x0.f0] := hA0_1
 obtain ⟨ca0_2, cb0_2, rfl, hA0_2, hB0_2⟩ := hB0_1
 obtain rfl : _ = [Value.int .i64 x0.f1] := hA0_2
 obtain ⟨ca0_3, cb0_3, rfl, hA0_3, hB0_3⟩ := hB0_2
 obtain ⟨ca0_4, cb0_4, rfl, hA0_4, hB0_4⟩ := hA0_3
 obtain rfl : _ = [Value.int .i64 x0.f2.f0] := hA0_4
 obtain rfl : _ = [Value.int .i64 x0.f2.f1] := hB0_4
 obtain ⟨ca0_6, cb0_6, rfl, hA0_6, hB0_6⟩ := hB0_3
 obtain ⟨A0_6, c0_6, rfl, hl0_6, hr0_6⟩ := hA0_6
 obtain ⟨A0_7, c0_7, rfl, hl0_7, hr0_7⟩ := hB0_6
 clear hA0 hval0 hsz0 hsz
 obtain ⟨k, hk⟩ := Pure.InterchangePrints x0 hx0
 refine Calls.mono (show Calls Tryd.prog 3 #[.agg #[.int .i64 x0.f0, .int .i64 x0.f1, .int .i64 x0.f2.f0, .int .i64 x0.f2.f1, .slice A0_6 x0.f3.length c0_6, .slice A0_7 x0.f4.length c0_7]] W _ from P.garmentlaw34_InterchangePrints.calls k x0.f0 x0.f1 x0.f2.f0 x0.f2.f1 A0_6 c0_6 x0.f3 A0_7 c0_7 x0.f4 true W hr0_6 hl0_6 hr0_7 hl0_7 hk ⟨got0 hLd hSh⟩) fun e W' ⟨he, bel0⟩ => ?_
 subst he
 have bel : Below W.heap.size W W' := bel0
 exact ⟨_, rfl, _, _, _, [], _, [], hW', trodAll_mk1 (shut_bool Tryd.underlying4 _), (trodAll_cons_mk (Below.trod laidOut (by kernel_rfl) (of_decide_eq_true (by kernel_rfl)) k0 bel lt0) trodAll_mk0), rfl, bel.frame _, fun h => by cases h⟩
theorem over : Rows.interchangePrintsRow.holds Tryd.pinned (OpenSpec.ofChange Rows.interchangePrintsSpec) :=
 OpenClaim.holds_of_wide 3 Tryd.f3 rfl rfl rfl rfl rfl rfl rfl ⟨rfl, rfl, rfl, rfl, rfl⟩ rfl rfl rfl rfl rfl (by kernel_rfl) Tryd.func3 (by kernel_rfl)
  (of_decide_eq_true (by kernel_rfl)) (by unfold Func.isWrapper; first | (rw [if_pos (by decide +kernel)]; kernel_rfl) | (rw [if_neg (by decide +kernel)]; exact ⟨rfl, rfl⟩))
  (fun os started H enc _ => lifted os started H enc)
theorem row_proved : Rows.InterchangePrintsSaid := over
set_option maxRecDepth 100000 in
theorem card : Rows.InterchangePrintsCardSaid :=
 Claim7.holds_tied_plain_at .later [] [.data, .data, .data, .data, .sentinel, .sentinel, .pinned] true (true, "81deed9c1d57bf89c24dfe3ca922cca7a4a0a4b74e2a3aaacf814b235987e955") true over (fun _ h => by cases h) (by kernel_rfl) (fun _ h => by cases h) interchangePrints_row_tie rfl ⟨rfl, rfl⟩ (by kernel_rfl) rfl
  (fun f fn hf hfn => by
   obtain rfl : f = 3 := Option.some.inj ((show Tryd.prog.funcNamed "garment/garmentlaw34.InterchangePrints" = some 3 by kernel_rfl).symm.trans hf) |>.symm
   obtain rfl : fn = Tryd.f3 := (Option.some.inj (Tryd.func3.symm.trans hfn)).symm
   exact ⟨by kernel_rfl, fun j t ht => by
    rw [Tryd.params3] at ht
    have hm : t ∈ [27] := by simpa using Array.mem_of_getElem? ht
    have hall : ([27].all fun u => !Tryd.prog.wantsStandIn u) = true := by kernel_rfl
    exact (show Tryd.prog.wantsStandIn t = false by simpa using List.all_eq_true.1 hall t hm)⟩)
  (by kernel_rfl)
end Go.Proofs.YtghnjnegcdbgnaaDoor.interchangePrints
namespace Go.Proofs.YtghnjnegcdbgnaaDoor
theorem interchangePrints_card_holds : Rows.InterchangePrintsCardSaid := interchangePrints.card
#print axioms interchangePrints_card_holds
end Go.Proofs.YtghnjnegcdbgnaaDoor
