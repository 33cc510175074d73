/- The statement InterchangeBefore of the law InterchangeBefore: proved: for every input the law's code returns true, and the input reads as it did. The row lists library variables; the card ties them to the program's text. -/
import Derived.Test.YtghnjnegcdbgnaaDoorQGot
import Derived.Test.YtghnjnegcdbgnaaDoorQInterchangeBeforePuInterchangeBefore
import Derived.Test.YtghnjnegcdbgnaaDoorTie
import Derived.Test.YtghnjnegcdbgnaaDoorCards
import Derived.WalkKit
import Derived.ProofKit
import Derived.OpenShut
import Derived.ShutString
import Derived.ChangeOld
import Derived.Below
import Derived.SizedLaws
namespace Go.Proofs.YtghnjnegcdbgnaaDoor.interchangeBefore
open Go Go.ChangeShapes Go.WideShapes Go.ChangeAt Go.RowKit Go.Proofs.YtghnjnegcdbgnaaDoor.P Go.Proofs.YtghnjnegcdbgnaaDoorW.PrintWords
set_option linter.unusedVariables false
theorem own : ownKnob Tryd.prog.godebug = none := by kernel_rfl
theorem laidOut : laidOutB Tryd.prog = true := by kernel_rfl
set_option maxRecDepth 100000 in
set_option maxHeartbeats 4000000 in
theorem lifted (os : Os) (started : os.Started) (H : Type) (enc : TypeId × Value → H) :
  ReturnsInHanded {} Tryd.checked os 6 .any (fun w args => (Rows.interchangeBeforeSpec.pre enc Tryd.prog Tryd.f6 Rows.interchangeBeforeRow.domain false w args ∧ laidMetH Tryd.prog laid0 w) ∧ sizedMet enc Tryd.prog Tryd.f6 (OpenSpec.ofChange Rows.interchangeBeforeSpec) false w args) (Rows.interchangeBeforeSpec.post enc Tryd.prog Tryd.f6 false true false false) := by
 refine lifted_laid (C := Tryd.checked) own started (by kernel_rfl) Tryd.func6 laid0_plain #[.string ByteArray.empty, .string ByteArray.empty] 8 (World.shaped_of_ZipB (by kernel_rfl) (by kernel_rfl)) (by kernel_rfl) (by kernel_rfl) (by kernel_rfl) (by kernel_rfl) (by kernel_rfl) ?_
 intro W base args ds gs before hval0 hW hsz0 hLd hSh
 have hsz : (DataW.weightsEach Tryd.prog (Tryd.f6.params.toList ++ Rows.interchangeBeforeSpec.plain.varTypes Tryd.prog) (ds ++ gs)).all (· ≤ reachBytes) = true := hsz0
 have hval : ∀ (j : Nat) t v, Tryd.f6.params[j]? = some t → args[j]? = some v → Value.okWide Tryd.prog W .any base t v := hval0
 have hW' := hW
 obtain ⟨p, q, hA0, hV, rfl, hfz, hnd⟩ := hW
 have hA : DataW.TrodAll enc Tryd.prog W 0 (fun _ => true) true Tryd.f6.params.toList args.toList ds p := hA0
 rw [Tryd.params6] at hA hval hsz
 obtain ⟨v0, vs0, d0, ds0, p0, q0, hargs, rfl, rfl, h0, r0⟩ := trodAll_cons hA
 obtain ⟨v1, vs1, d1, ds1, p1, q1, rfl, rfl, rfl, h1, r1⟩ := trodAll_cons r0
 obtain ⟨rfl, rfl, rfl⟩ := trodAll_nil r1
 obtain rfl : args = #[v0, v1] := by cases args; simp_all
 obtain ⟨rfl, rfl⟩ := trodVars_none hV
 have k0 := h0
 have lt0 : ∀ x ∈ p0, x.block < W.heap.size := by obtain ⟨m, hm⟩ := k0; exact DataW.trod_lt m _ _ _ hm
 obtain ⟨x0, hK0, hx0⟩ := op9.arg hsz (j := 0) rfl rfl h0
 obtain rfl := arg_string Tryd.underlying9 (hval 0 9 v0 rfl rfl) hK0
 have k1 := h1
 have lt1 : ∀ x ∈ p1, x.block < W.heap.size := by obtain ⟨m, hm⟩ := k1; exact DataW.trod_lt m _ _ _ hm
 obtain ⟨x1, hK1, hx1⟩ := op9.arg hsz (j := 1) rfl rfl h1
 obtain rfl := arg_string Tryd.underlying9 (hval 1 9 v1 rfl rfl) hK1
 clear hA0 hval0 hsz0 hsz
 obtain ⟨k, hk⟩ := Pure.InterchangeBefore x0 x1 hx0 hx1
 refine Calls.mono (show Calls Tryd.prog 6 #[.string x0, .string x1] W _ from P.garmentlaw34_InterchangeBefore.calls k x0 x1 true W  hk ⟨got0 hLd hSh⟩) fun e W' ⟨he, bel0⟩ => ?_
 subst he
 have bel : Below W.heap.size W W' := bel0
 exact ⟨_, rfl, _, _, _, [], _, [], hW', trodAll_mk1 (shut_bool Tryd.underlying4 _), (trodAll_cons_mk (Below.trod laidOut (by kernel_rfl) (of_decide_eq_true (by kernel_rfl)) k0 bel lt0) (trodAll_cons_mk (Below.trod laidOut (by kernel_rfl) (of_decide_eq_true (by kernel_rfl)) k1 bel lt1) trodAll_mk0)), rfl, bel.frame _, fun h => by cases h⟩
theorem over : Rows.interchangeBeforeRow.holds Tryd.pinned (OpenSpec.ofChange Rows.interchangeBeforeSpec) :=
 OpenClaim.holds_of_wide 6 Tryd.f6 rfl rfl rfl rfl rfl rfl rfl ⟨rfl, rfl, rfl, rfl, rfl⟩ rfl rfl rfl rfl rfl (by kernel_rfl) Tryd.func6 (by kernel_rfl)
  (of_decide_eq_true (by kernel_rfl)) (by unfold Func.isWrapper; first | (rw [if_pos (by decide +kernel)]; kernel_rfl) | (rw [if_neg (by decide +kernel)]; exact ⟨rfl, rfl⟩))
  (fun os started H enc _ => lifted os started H enc)
theorem row_proved : Rows.InterchangeBeforeSaid := over
set_option maxRecDepth 100000 in
theorem card : Rows.InterchangeBeforeCardSaid :=
 Claim7.holds_tied_plain_at .later [] [.data, .data, .data, .data, .sentinel, .sentinel, .pinned] true (true, "81deed9c1d57bf89c24dfe3ca922cca7a4a0a4b74e2a3aaacf814b235987e955") true over (fun _ h => by cases h) (by kernel_rfl) (fun _ h => by cases h) interchangeBefore_row_tie rfl ⟨rfl, rfl⟩ (by kernel_rfl) rfl
  (fun f fn hf hfn => by
   obtain rfl : f = 6 := Option.some.inj ((show Tryd.prog.funcNamed "garment/garmentlaw34.InterchangeBefore" = some 6 by kernel_rfl).symm.trans hf) |>.symm
   obtain rfl : fn = Tryd.f6 := (Option.some.inj (Tryd.func6.symm.trans hfn)).symm
   exact ⟨by kernel_rfl, fun j t ht => by
    rw [Tryd.params6] at ht
    have hm : t ∈ [9, 9] := by simpa using Array.mem_of_getElem? ht
    have hall : ([9, 9].all fun u => !Tryd.prog.wantsStandIn u) = true := by kernel_rfl
    exact (show Tryd.prog.wantsStandIn t = false by simpa using List.all_eq_true.1 hall t hm)⟩)
  (by kernel_rfl)
end Go.Proofs.YtghnjnegcdbgnaaDoor.interchangeBefore
namespace Go.Proofs.YtghnjnegcdbgnaaDoor
theorem interchangeBefore_card_holds : Rows.InterchangeBeforeCardSaid := interchangeBefore.card
#print axioms interchangeBefore_card_holds
end Go.Proofs.YtghnjnegcdbgnaaDoor
