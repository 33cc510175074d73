/- The statement RollLeast of the law RollLeast: proved: for every input the law's code returns true, and the input reads as it did. The row lists library variables; the card ties them to the program's text. -/
import Derived.Test.YtdblkmnbkpphjaaGreatDoorQGot
import Derived.Test.YtdblkmnbkpphjaaGreatDoorQRollLeastPuRollLeast
import Derived.Test.YtdblkmnbkpphjaaGreatDoorTie
import Derived.Test.YtdblkmnbkpphjaaGreatDoorCards
import Derived.WalkKit
import Derived.ProofKit
import Derived.OpenShut
import Derived.ShutString
import Derived.ChangeOld
import Derived.Below
import Derived.SizedLaws
namespace Go.Proofs.YtdblkmnbkpphjaaGreatDoor.rollLeast
open Go Go.ChangeShapes Go.WideShapes Go.ChangeAt Go.RowKit Go.Proofs.YtdblkmnbkpphjaaGreatDoor.P Go.Proofs.YtdblkmnbkpphjaaGreatDoorW.PrintWords
set_option linter.unusedVariables false
theorem own : ownKnob Tryz.prog.godebug = none := by kernel_rfl
theorem laidOut : laidOutB Tryz.prog = true := by kernel_rfl
set_option maxRecDepth 100000 in
set_option maxHeartbeats 4000000 in
theorem lifted (os : Os) (started : os.Started) (H : Type) (enc : TypeId × Value → H) :
  ReturnsInHanded {} Tryz.checked os 8 .any (fun w args => (Rows.rollLeastSpec.pre enc Tryz.prog Tryz.f8 Rows.rollLeastRow.domain false w args ∧ laidMetH Tryz.prog laid0 w) ∧ sizedMet enc Tryz.prog Tryz.f8 (OpenSpec.ofChange Rows.rollLeastSpec) false w args) (Rows.rollLeastSpec.post enc Tryz.prog Tryz.f8 false true false false) := by
 refine lifted_laid (C := Tryz.checked) own started (by kernel_rfl) Tryz.func8 laid0_plain #[.agg #[.string ByteArray.empty, .int .i64 0, .int .i64 0, .int .i64 0, .int .i64 0, .int .i64 0, .slice none 0 0], .int .i64 0] 8 (World.shaped_of_ZipB (by kernel_rfl) (by kernel_rfl)) (by kernel_rfl) (by kernel_rfl) (by kernel_rfl) (by kernel_rfl) (by kernel_rfl) ?_
 intro W base args ds gs before hval0 hW hsz0 hLd hSh
 have hsz : (DataW.weightsEach Tryz.prog (Tryz.f8.params.toList ++ Rows.rollLeastSpec.plain.varTypes Tryz.prog) (ds ++ gs)).all (· ≤ reachBytes) = true := hsz0
 have hval : ∀ (j : Nat) t v, Tryz.f8.params[j]? = some t → args[j]? = some v → Value.okWide Tryz.prog W .any base t v := hval0
 have hW' := hW
 obtain ⟨p, q, hA0, hV, rfl, hfz, hnd⟩ := hW
 have hA : DataW.TrodAll enc Tryz.prog W 0 (fun _ => true) true Tryz.f8.params.toList args.toList ds p := hA0
 rw [Tryz.params8] at hA hval hsz
 obtain ⟨v0, vs0, d0, ds0, p0, q0, hargs, rfl, rfl, h0, r0⟩ := trodAll_cons hA
 obtain ⟨v1, vs1, d1, ds1, p1, q1, rfl, rfl, rfl, h1, r1⟩ := trodAll_cons r0
 obtain ⟨rfl, rfl, rfl⟩ := trodAll_nil r1
 obtain rfl : args = #[v0, v1] := by cases args; simp_all
 obtain ⟨rfl, rfl⟩ := trodVars_none hV
 have k0 := h0
 have lt0 : ∀ x ∈ p0, x.block < W.heap.size := by obtain ⟨m, hm⟩ := k0; exact DataW.trod_lt m _ _ _ hm
 obtain ⟨x0, hK0, hx0⟩ := op26.arg hsz (j := 0) rfl rfl h0
 obtain ⟨cs0, rfl, hS0⟩ := arg_agg Tryz.underlying26 (hval 0 26 v0 rfl rfl) hK0
 obtain ⟨ca0_1, cb0_1, rfl, hA0_1, hB0_1⟩ := hS0
 obtain rfl : _ = [Value.string x0.f0] := hA0_1
 obtain ⟨ca0_2, cb0_2, rfl, hA0_2, hB0_2⟩ := hB0_1
 obtain rfl : _ = [Value.int .i64 x0.f1] := hA0_2
 obtain ⟨ca0_3, cb0_3, rfl, hA0_3, hB0_3⟩ := hB0_2
 obtain rfl : _ = [Value.int .i64 x0.f2] := hA0_3
 obtain ⟨ca0_4, cb0_4, rfl, hA0_4, hB0_4⟩ := hB0_3
 obtain ⟨ca0_5, cb0_5, rfl, hA0_5, hB0_5⟩ := hA0_4
 obtain rfl : _ = [Value.int .i64 x0.f3.f0] := hA0_5
 obtain ⟨ca0_6, cb0_6, rfl, hA0_6, hB0_6⟩ := hB0_5
 obtain rfl : _ = [Value.int .i64 x0.f3.f1] := hA0_6
 obtain rfl : _ = [Value.int .i64 x0.f3.f2] := hB0_6
 obtain ⟨A0_8, c0_8, rfl, hl0_8, hr0_8⟩ := hB0_4
 have k1 := h1
 have lt1 : ∀ x ∈ p1, x.block < W.heap.size := by obtain ⟨m, hm⟩ := k1; exact DataW.trod_lt m _ _ _ hm
 obtain ⟨x1, hK1, hx1⟩ := op3.arg hsz (j := 1) rfl rfl h1
 obtain rfl := arg_int Tryz.underlying3 (hval 1 3 v1 rfl rfl) hK1
 clear hA0 hval0 hsz0 hsz
 obtain ⟨k, hk⟩ := Pure.RollLeast x0 x1 hx0 hx1
 refine Calls.mono (show Calls Tryz.prog 8 #[.agg #[.string x0.f0, .int .i64 x0.f1, .int .i64 x0.f2, .int .i64 x0.f3.f0, .int .i64 x0.f3.f1, .int .i64 x0.f3.f2, .slice A0_8 x0.f4.length c0_8], .int .i64 x1] W _ from P.garmentlaw27_RollLeast.calls k x0.f0 x0.f1 x0.f2 x0.f3.f0 x0.f3.f1 x0.f3.f2 A0_8 c0_8 x0.f4 x1 true W hr0_8 hl0_8 hk ⟨got0 hLd hSh⟩) fun e W' ⟨he, bel0⟩ => ?_
 subst he
 have bel : Below W.heap.size W W' := bel0
 exact ⟨_, rfl, _, _, _, [], _, [], hW', trodAll_mk1 (shut_bool Tryz.underlying4 _), (trodAll_cons_mk (Below.trod laidOut (by kernel_rfl) (of_decide_eq_true (by kernel_rfl)) k0 bel lt0) (trodAll_cons_mk (Below.trod laidOut (by kernel_rfl) (of_decide_eq_true (by kernel_rfl)) k1 bel lt1) trodAll_mk0)), rfl, bel.frame _, fun h => by cases h⟩
theorem over : Rows.rollLeastRow.holds Tryz.pinned (OpenSpec.ofChange Rows.rollLeastSpec) :=
 OpenClaim.holds_of_wide 8 Tryz.f8 rfl rfl rfl rfl rfl rfl rfl ⟨rfl, rfl, rfl, rfl, rfl⟩ rfl rfl rfl rfl rfl (by kernel_rfl) Tryz.func8 (by kernel_rfl)
  (of_decide_eq_true (by kernel_rfl)) (by unfold Func.isWrapper; first | (rw [if_pos (by decide +kernel)]; kernel_rfl) | (rw [if_neg (by decide +kernel)]; exact ⟨rfl, rfl⟩))
  (fun os started H enc _ => lifted os started H enc)
theorem row_proved : Rows.RollLeastSaid := over
set_option maxRecDepth 100000 in
theorem card : Rows.RollLeastCardSaid :=
 Claim7.holds_tied_plain_at .later [] [.data, .data, .data, .data, .sentinel, .sentinel, .pinned] true (true, "30e8cd3615079a9381c767b8c0a58ef157835662351c9216685e8eba743852fd") true over (fun _ h => by cases h) (by kernel_rfl) (fun _ h => by cases h) rollLeast_row_tie rfl ⟨rfl, rfl⟩ (by kernel_rfl) rfl
  (fun f fn hf hfn => by
   obtain rfl : f = 8 := Option.some.inj ((show Tryz.prog.funcNamed "garment/garmentlaw27.RollLeast" = some 8 by kernel_rfl).symm.trans hf) |>.symm
   obtain rfl : fn = Tryz.f8 := (Option.some.inj (Tryz.func8.symm.trans hfn)).symm
   exact ⟨by kernel_rfl, fun j t ht => by
    rw [Tryz.params8] at ht
    have hm : t ∈ [26, 3] := by simpa using Array.mem_of_getElem? ht
    have hall : ([26, 3].all fun u => !Tryz.prog.wantsStandIn u) = true := by kernel_rfl
    exact (show Tryz.prog.wantsStandIn t = false by simpa using List.all_eq_true.1 hall t hm)⟩)
  (by kernel_rfl)
end Go.Proofs.YtdblkmnbkpphjaaGreatDoor.rollLeast
namespace Go.Proofs.YtdblkmnbkpphjaaGreatDoor
theorem rollLeast_card_holds : Rows.RollLeastCardSaid := rollLeast.card
#print axioms rollLeast_card_holds
end Go.Proofs.YtdblkmnbkpphjaaGreatDoor
