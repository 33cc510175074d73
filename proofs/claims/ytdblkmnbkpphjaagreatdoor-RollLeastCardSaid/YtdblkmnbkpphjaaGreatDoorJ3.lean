/- The functions that the law reaches: what each computes, and that its code computes it. -/
import Derived.Test.YtdblkmnbkpphjaaGreatDoorBP0
import Derived.Test.YtdblkmnbkpphjaaGreatDoorBAuto
import Derived.Test.YtdblkmnbkpphjaaGreatDoorJ1
import Derived.Test.YtdblkmnbkpphjaaGreatDoorJ2
import Derived.Test.YtdblkmnbkpphjaaGreatDoorBGL
namespace Go.Proofs.YtdblkmnbkpphjaaGreatDoor.P
open Go.RowKit Go.Proofs.YtdblkmnbkpphjaaGreatDoorW.PrintWords Go.Proofs.YtdblkmnbkpphjaaGreatDoorW.PrintLast Go.Proofs.YtdblkmnbkpphjaaGreatDoorW.PrintMore Go.Proofs.YtdblkmnbkpphjaaGreatDoorW.PrintAuto
attribute [local go_sem] max2_int min2_int max_two min_two max_three min_three max_four min_four   -- for this text's walks alone
set_option linter.unusedVariables false
set_option linter.unusedSimpArgs false

--IMPORT Derived.Test.YtdblkmnbkpphjaaGreatDoorGL
mutual
def garmentlaw27_RollLeast.j0 : Nat → Int → List (S44) → Int → List (S44) → Int → Bool → Option (Bool)
 | 0, _, _, _, _, _, _ => none
 | k + 1, x1, x5, x6, x7, x8, x33 => if x33 = true then (if x6 = x8 then (if (x5.length : Int) = 0 then (if (x7.length : Int) = 0 then ((garmentlaw27_exampleHolds.f).bind fun t325 => (some t325)) else (some false)) else (some false)) else (some false)) else (garmentlaw27_RollLeast.l0 k x1 x7 ([] : List (S44)) x5 (x5.length : Int) 0)
def garmentlaw27_RollLeast.l0 : Nat → Int → List (S44) → List (S44) → List (S44) → Int → Int → Option (Bool)
 | 0, _, _, _, _, _, _ => none
 | k + 1, x1, x7, x9, x50, x51, x52 => if x52 < x51 then (if 0 ≤ x52 then (if x52 < (x50.length : Int) then (if (wrap64 (((rd_T44 x50 x52).f1) - ((rd_T44 x50 x52).f0))) ≥ x1 then (if x9.length < 8796093022208 then (garmentlaw27_RollLeast.l0 k x1 x7 (x9 ++ [(⟨(rd_T44 x50 x52).f0, (rd_T44 x50 x52).f1⟩ : S44)]) x50 x51 (wrap64 (x52 + 1))) else (none)) else (garmentlaw27_RollLeast.l0 k x1 x7 x9 x50 x51 (wrap64 (x52 + 1)))) else (none)) else (none)) else ((garmentref27_SameZones.f k x7 x9).bind fun t331 => (if t331 = true then ((garmentlaw27_exampleHolds.f).bind fun t332 => (some t332)) else (some false)))
end
def garmentlaw27_RollLeast.f (k : Nat) (a0_0 : ByteArray) (a0_1 : Int) (a0_2 : Int) (a0_3 : Int) (a0_4 : Int) (a0_5 : Int) (l0_6 : List (S46)) (a1 : Int) : Option (Bool) := (garmentlaw27_few.f k a0_0 a0_1 a0_2 a0_3 a0_4 a0_5 l0_6).bind fun t315 => (if t315 = true then ((roll_Stretches.f k a0_0 a0_1 a0_2 a0_3 a0_4 a0_5 l0_6 1).bind fun bt317 => ((roll_Stretches.f k a0_0 a0_1 a0_2 a0_3 a0_4 a0_5 l0_6 a1).bind fun bt321 => (if bt317.2 = bt321.2 then (garmentlaw27_RollLeast.j0 k a1 bt317.1 bt317.2 bt321.1 bt321.2 (bt317.2 != 0)) else (garmentlaw27_RollLeast.j0 k a1 bt317.1 bt317.2 bt321.1 bt321.2 true)))) else ((garmentlaw27_exampleHolds.f).bind fun t316 => (some t316)))
theorem garmentlaw27_RollLeast.mono_l : ∀ k, (∀ y0 y1 y2 y3 y4 y5, LeO (garmentlaw27_RollLeast.j0 k y0 y1 y2 y3 y4 y5) (garmentlaw27_RollLeast.j0 (k + 1) y0 y1 y2 y3 y4 y5)) ∧ (∀ y0 y1 y2 y3 y4 y5, LeO (garmentlaw27_RollLeast.l0 k y0 y1 y2 y3 y4 y5) (garmentlaw27_RollLeast.l0 (k + 1) y0 y1 y2 y3 y4 y5))
 | 0 => ⟨fun _ _ _ _ _ _ r h => by simp [garmentlaw27_RollLeast.j0] at h, fun _ _ _ _ _ _ r h => by simp [garmentlaw27_RollLeast.l0] at h⟩
 | k + 1 => by
  obtain ⟨ih0, ih1⟩ := garmentlaw27_RollLeast.mono_l k
  refine ⟨?_, ?_⟩
  ·intro y0 y1 y2 y3 y4 y5
   unfold garmentlaw27_RollLeast.j0
   repeat' first
   | (with_reducible exact ih0 _ _ _ _ _ _)
   | (with_reducible exact ih1 _ _ _ _ _ _)
   | (with_reducible exact garmentlaw27_few.mono _ _ _ _ _ _ _ _)
   | (with_reducible exact garmentref27_SameZones.mono _ _ _)
   | (with_reducible exact roll_Stretches.mono _ _ _ _ _ _ _ _ _)
   | (with_reducible exact LeO.refl _)
   | (with_reducible exact LeO.none _)
   | (with_reducible refine LeO.ite ?_ ?_)
   | (with_reducible refine LeO.bind ?_ (fun _ => ?_))
   | exact ih0 _ _ _ _ _ _
   | exact ih1 _ _ _ _ _ _
   | exact garmentlaw27_few.mono _ _ _ _ _ _ _ _
   | exact garmentref27_SameZones.mono _ _ _
   | exact roll_Stretches.mono _ _ _ _ _ _ _ _ _
   | exact LeO.none _
   | refine LeO.ite ?_ ?_
   | refine LeO.bind ?_ (fun _ => ?_)
  ·intro y0 y1 y2 y3 y4 y5
   unfold garmentlaw27_RollLeast.l0
   repeat' first
   | (with_reducible exact ih0 _ _ _ _ _ _)
   | (with_reducible exact ih1 _ _ _ _ _ _)
   | (with_reducible exact garmentlaw27_few.mono _ _ _ _ _ _ _ _)
   | (with_reducible exact garmentref27_SameZones.mono _ _ _)
   | (with_reducible exact roll_Stretches.mono _ _ _ _ _ _ _ _ _)
   | (with_reducible exact LeO.refl _)
   | (with_reducible exact LeO.none _)
   | (with_reducible refine LeO.ite ?_ ?_)
   | (with_reducible refine LeO.bind ?_ (fun _ => ?_))
   | exact ih0 _ _ _ _ _ _
   | exact ih1 _ _ _ _ _ _
   | exact garmentlaw27_few.mono _ _ _ _ _ _ _ _
   | exact garmentref27_SameZones.mono _ _ _
   | exact roll_Stretches.mono _ _ _ _ _ _ _ _ _
   | exact LeO.none _
   | refine LeO.ite ?_ ?_
   | refine LeO.bind ?_ (fun _ => ?_)
theorem garmentlaw27_RollLeast.mono : ∀ a0 a1 a2 a3 a4 a5 a6 a7 k, LeO (garmentlaw27_RollLeast.f k a0 a1 a2 a3 a4 a5 a6 a7) (garmentlaw27_RollLeast.f (k + 1) a0 a1 a2 a3 a4 a5 a6 a7) := by
 intro a0 a1 a2 a3 a4 a5 a6 a7 k; obtain ⟨ih0, ih1⟩ := garmentlaw27_RollLeast.mono_l k
 unfold garmentlaw27_RollLeast.f
 repeat' first
  | (with_reducible exact ih0 _ _ _ _ _ _)
  | (with_reducible exact ih1 _ _ _ _ _ _)
  | (with_reducible exact garmentlaw27_few.mono _ _ _ _ _ _ _ _)
  | (with_reducible exact garmentref27_SameZones.mono _ _ _)
  | (with_reducible exact roll_Stretches.mono _ _ _ _ _ _ _ _ _)
  | (with_reducible exact LeO.refl _)
  | (with_reducible exact LeO.none _)
  | (with_reducible refine LeO.ite ?_ ?_)
  | (with_reducible refine LeO.bind ?_ (fun _ => ?_))
  | exact ih0 _ _ _ _ _ _
  | exact ih1 _ _ _ _ _ _
  | exact garmentlaw27_few.mono _ _ _ _ _ _ _ _
  | exact garmentref27_SameZones.mono _ _ _
  | exact roll_Stretches.mono _ _ _ _ _ _ _ _ _
  | exact LeO.none _
  | refine LeO.ite ?_ ?_
  | refine LeO.bind ?_ (fun _ => ?_)
set_option maxHeartbeats 8000000 in
set_option maxRecDepth 100000 in
theorem garmentlaw27_RollLeast.calls (k : Nat) (a0_0 : ByteArray) (a0_1 : Int) (a0_2 : Int) (a0_3 : Int) (a0_4 : Int) (a0_5 : Int) (A0_6 : Option Addr) (c0_6 : Nat) (l0_6 : List (S46)) (a1 : Int) (r : Bool) (w : World) (hr0_6 : Kd.C k46 w A0_6 l0_6.length l0_6) (hc0_6 : l0_6.length ≤ c0_6) (h : garmentlaw27_RollLeast.f k a0_0 a0_1 a0_2 a0_3 a0_4 a0_5 l0_6 a1 = some r) (hG : Aside0 (GL w)) :
  Calls Tryz.prog 8 #[.agg #[.string a0_0, .int .i64 a0_1, .int .i64 a0_2, .int .i64 a0_3, .int .i64 a0_4, .int .i64 a0_5, .slice A0_6 l0_6.length c0_6], .int .i64 a1] w fun e w' => e = .returned (.bool r) ∧ Below w.heap.size w w' := by
 have hu26 := Tryz.underlying26; have hu44 := Tryz.underlying44; have HR0_6 := Aside0.mk hr0_6; have HC0_6 := Aside0.mk hc0_6; clear hr0_6 hc0_6; have HB := Aside0.mk (Below.refl w.heap.size w); have H : ((garmentlaw27_few.f k a0_0 a0_1 a0_2 a0_3 a0_4 a0_5 l0_6).bind fun t315 => (if t315 = true then ((roll_Stretches.f k a0_0 a0_1 a0_2 a0_3 a0_4 a0_5 l0_6 1).bind fun bt317 => ((roll_Stretches.f k a0_0 a0_1 a0_2 a0_3 a0_4 a0_5 l0_6 a1).bind fun bt321 => (if bt317.2 = bt321.2 then (garmentlaw27_RollLeast.j0 k a1 bt317.1 bt317.2 bt321.1 bt321.2 (bt317.2 != 0)) else (garmentlaw27_RollLeast.j0 k a1 bt317.1 bt317.2 bt321.1 bt321.2 true)))) else ((garmentlaw27_exampleHolds.f).bind fun t316 => (some t316)))) = some r := h; clear h; replace H := Option.bind_eq_some_iff.mp H; obtain ⟨t315, A30, H⟩ := H; replace H : (if t315 = true then ((roll_Stretches.f k a0_0 a0_1 a0_2 a0_3 a0_4 a0_5 l0_6 1).bind fun bt317 => ((roll_Stretches.f k a0_0 a0_1 a0_2 a0_3 a0_4 a0_5 l0_6 a1).bind fun bt321 => (if bt317.2 = bt321.2 then (garmentlaw27_RollLeast.j0 k a1 bt317.1 bt317.2 bt321.1 bt321.2 (bt317.2 != 0)) else (garmentlaw27_RollLeast.j0 k a1 bt317.1 bt317.2 bt321.1 bt321.2 true)))) else ((garmentlaw27_exampleHolds.f).bind fun t316 => (some t316))) = some r := H; have A3 := Aside0.mk A30; clear A30
 by_cases c4 : t315 = true
 ·subst c4
  have H1 : ((roll_Stretches.f k a0_0 a0_1 a0_2 a0_3 a0_4 a0_5 l0_6 1).bind fun bt317 => ((roll_Stretches.f k a0_0 a0_1 a0_2 a0_3 a0_4 a0_5 l0_6 a1).bind fun bt321 => (if bt317.2 = bt321.2 then (garmentlaw27_RollLeast.j0 k a1 bt317.1 bt317.2 bt321.1 bt321.2 (bt317.2 != 0)) else (garmentlaw27_RollLeast.j0 k a1 bt317.1 bt317.2 bt321.1 bt321.2 true)))) = some r := by rw [if_pos rfl] at H; exact H
  clear H; have H := H1; clear H1; replace H := Option.bind_eq_some_iff.mp H; obtain ⟨⟨t317, t320⟩, A50, H⟩ := H; replace H : ((roll_Stretches.f k a0_0 a0_1 a0_2 a0_3 a0_4 a0_5 l0_6 a1).bind fun bt321 => (if t320 = bt321.2 then (garmentlaw27_RollLeast.j0 k a1 t317 t320 bt321.1 bt321.2 (t320 != 0)) else (garmentlaw27_RollLeast.j0 k a1 t317 t320 bt321.1 bt321.2 true))) = some r := H; have A5 := Aside0.mk A50; clear A50; replace H := Option.bind_eq_some_iff.mp H; obtain ⟨⟨t321, t324⟩, A60, H⟩ := H; replace H : (if t320 = t324 then (garmentlaw27_RollLeast.j0 k a1 t317 t320 t321 t324 (t320 != 0)) else (garmentlaw27_RollLeast.j0 k a1 t317 t320 t321 t324 true)) = some r := H; have A6 := Aside0.mk A60; clear A60; have HC7 := Aside0.mk H; clear H
  go_enter Tryz.func8, Tryz.ntmps8
  go_upto_region 5 with (first | ((with_reducible refine gate_dst (N := 2) rfl ?_); (try (refine gate_guard (by rfl) ?_; dsimp only)); refine box_event ?hg (N := 2) ?hd (cs := #[.string a0_0, .int .i64 a0_1, .int .i64 a0_2, .int .i64 a0_3, .int .i64 a0_4, .int .i64 a0_5, .slice A0_6 l0_6.length c0_6]) (t := 26) ?hr ?_; (case hd => rfl); (case hg => rfl); (case hr => first | (go_simp; done) | (go_simp; rfl)); intro gb314 hg w8 hbox hb; have BK314 := Aside0.mk (hbox); have GW314 := Aside0.mk ((by rw [hg]; exact (below_size (be HB.out)) : w.heap.size ≤ gb314)); have GE314 := Aside0.mk ((by rw [hg]; exact (below_size (be HB.out)) : w.heap.size ≤ gb314)); replace HB := Aside0.mk (below_step (be HB.out) hb); clear hb hbox hg; have hcz9_0 := bc BK314.out 0 (.string a0_0) rfl; have hcz9_1 := bc BK314.out 1 (.int .i64 a0_1) rfl; have hcz9_2 := bc BK314.out 2 (.int .i64 a0_2) rfl; have hcz9_3 := bc BK314.out 3 (.int .i64 a0_3) rfl; have hcz9_4 := bc BK314.out 4 (.int .i64 a0_4) rfl; have hcz9_5 := bc BK314.out 5 (.int .i64 a0_5) rfl; have hcz9_6 := bc BK314.out 6 (.slice A0_6 l0_6.length c0_6) rfl; have hfz9_0 := blk_frozen BK314.out 0; have hfz9_1 := blk_frozen BK314.out 1; have hfz9_2 := blk_frozen BK314.out 2; have hfz9_3 := blk_frozen BK314.out 3; have hfz9_4 := blk_frozen BK314.out 4; have hfz9_5 := blk_frozen BK314.out 5; have hfz9_6 := blk_frozen BK314.out 6) | ((with_reducible refine gate_callee (f := 10) rfl ?_); refine goesA (some 13) rfl rfl Tryz.func10 (by kernel_rfl) rfl #[.agg #[.string a0_0, .int .i64 a0_1, .int .i64 a0_2, .int .i64 a0_3, .int .i64 a0_4, .int .i64 a0_5, .slice A0_6 l0_6.length c0_6]] rfl ?_; (with_reducible refine (garmentlaw27_few.calls k a0_0 a0_1 a0_2 a0_3 a0_4 a0_5 (fun k_ => k_ < w.heap.size) _ _ l0_6 true _ ?side1 A3.out).mono ?_); (case side1 => exact Kd.V_mk HC0_6.out (Kd.F_below (Kd.C_F k46_heap HR0_6.out) (be HB.out))); rintro e w10 ⟨rfl, hb⟩; refine ⟨_, rfl, ?_⟩; replace BK314 := Aside0.mk (blk_below (bu BK314.out) hb); replace HB := Aside0.mk (below_step (be HB.out) hb); (try clear hb); have hcz11_0 := bc BK314.out 0 (.string a0_0) rfl; have hcz11_1 := bc BK314.out 1 (.int .i64 a0_1) rfl; have hcz11_2 := bc BK314.out 2 (.int .i64 a0_2) rfl; have hcz11_3 := bc BK314.out 3 (.int .i64 a0_3) rfl; have hcz11_4 := bc BK314.out 4 (.int .i64 a0_4) rfl; have hcz11_5 := bc BK314.out 5 (.int .i64 a0_5) rfl; have hcz11_6 := bc BK314.out 6 (.slice A0_6 l0_6.length c0_6) rfl; have hfz11_0 := blk_frozen BK314.out 0; have hfz11_1 := blk_frozen BK314.out 1; have hfz11_2 := blk_frozen BK314.out 2; have hfz11_3 := blk_frozen BK314.out 3; have hfz11_4 := blk_frozen BK314.out 4; have hfz11_5 := blk_frozen BK314.out 5; have hfz11_6 := blk_frozen BK314.out 6) | ((with_reducible refine gate_callee (f := 17) rfl ?_); refine goesA (some 18) rfl rfl Tryz.func17 (by kernel_rfl) rfl #[.agg #[.string a0_0, .int .i64 a0_1, .int .i64 a0_2, .int .i64 a0_3, .int .i64 a0_4, .int .i64 a0_5, .slice A0_6 l0_6.length c0_6], .int .i64 1] rfl ?_; (with_reducible refine (roll_Stretches.calls k a0_0 a0_1 a0_2 a0_3 a0_4 a0_5 _ _ l0_6 1 t317 t320 _ ?side1 ?side2 A5.out).mono ?_); (case side1 => exact cu (Kd.C_below HR0_6.out HB.out)); (case side2 => exact HC0_6.out); rintro e w12 ⟨v318, rfl, ho0, hb⟩; refine ⟨_, rfl, ?_⟩; have HO319 := Aside0.mk (Kd.R_lower ho0 (below_size (be HB.out))); replace BK314 := Aside0.mk (blk_below (bu BK314.out) hb); replace HB := Aside0.mk (below_step (be HB.out) hb); (try clear hb); (try clear ho0); have hcz13_0 := bc BK314.out 0 (.string a0_0) rfl; have hcz13_1 := bc BK314.out 1 (.int .i64 a0_1) rfl; have hcz13_2 := bc BK314.out 2 (.int .i64 a0_2) rfl; have hcz13_3 := bc BK314.out 3 (.int .i64 a0_3) rfl; have hcz13_4 := bc BK314.out 4 (.int .i64 a0_4) rfl; have hcz13_5 := bc BK314.out 5 (.int .i64 a0_5) rfl; have hcz13_6 := bc BK314.out 6 (.slice A0_6 l0_6.length c0_6) rfl; have hfz13_0 := blk_frozen BK314.out 0; have hfz13_1 := blk_frozen BK314.out 1; have hfz13_2 := blk_frozen BK314.out 2; have hfz13_3 := blk_frozen BK314.out 3; have hfz13_4 := blk_frozen BK314.out 4; have hfz13_5 := blk_frozen BK314.out 5; have hfz13_6 := blk_frozen BK314.out 6) | ((with_reducible refine gate_callee (f := 17) rfl ?_); refine goesA (some 24) rfl rfl Tryz.func17 (by kernel_rfl) rfl #[.agg #[.string a0_0, .int .i64 a0_1, .int .i64 a0_2, .int .i64 a0_3, .int .i64 a0_4, .int .i64 a0_5, .slice A0_6 l0_6.length c0_6], .int .i64 a1] rfl ?_; (with_reducible refine (roll_Stretches.calls k a0_0 a0_1 a0_2 a0_3 a0_4 a0_5 _ _ l0_6 a1 t321 t324 _ ?side1 ?side2 A6.out).mono ?_); (case side1 => exact cu (Kd.C_below HR0_6.out HB.out)); (case side2 => exact HC0_6.out); rintro e w14 ⟨v322, rfl, ho0, hb⟩; refine ⟨_, rfl, ?_⟩; have HO323 := Aside0.mk (Kd.R_lower (Kd.R_new' ho0 (Kd.R_lt (ku HO319.out))) (below_size (be HB.out))); replace HO319 := Aside0.mk (Kd.R_elder' (ku HO319.out) (Kd.R_base ho0) hb); replace BK314 := Aside0.mk (blk_below (bu BK314.out) hb); replace HB := Aside0.mk (below_step (be HB.out) hb); (try clear hb); (try clear ho0)))
  (try simp only [Act.put, List.setIfInBounds_toArray, List.set_cons_zero, List.set_cons_succ])
  go_cut [33] (fun v33 wc => ∃ (kq : Nat) (x33_6 : Bool), v33 = .bool x33_6 ∧ Aside0 (garmentlaw27_RollLeast.j0 kq a1 t317 t320 t321 t324 x33_6 = some r) ∧ Aside0 (kq ≤ k) ∧ Aside0 (Kd.R k44 44 wc w.heap.size (fun k_ => some k_ ≠ (v322 : Value).ownBlock) v318 t317) ∧ Aside0 (Kd.R k44 44 wc w.heap.size (fun k_ => some k_ ≠ (v318 : Value).ownBlock) v322 t321) ∧ Aside0 (wc.heap[gb314]? = some (.cells #[.string a0_0, .int .i64 a0_1, .int .i64 a0_2, .int .i64 a0_3, .int .i64 a0_4, .int .i64 a0_5, (.slice A0_6 l0_6.length c0_6)] 26 (0, 0))) ∧ Aside0 (Below w.heap.size w wc))
  case first =>
   have H := HC7.out; clear HC7
   by_cases c15 : t320 = t324
   ·rw [if_pos c15] at H; have c15b0 : (t320 == t324) = true := beq_iff_eq.mpr c15; have c15b1 : (t320 != t324) = false := bne_eq_false_iff_eq.mpr c15; clear c15
    (first | rw [c15b0] | (simp only [i64_w, i32_w]; rw [c15b0]) | skip)
    have H' := Aside0.mk H; clear H
    go_wp2
    go_meet
    case rel => exact ⟨_, ((t320 != 0)), (by first | rfl | (simp; done) | (simp [*]; done)), H', ⟨by first | omega | exact Nat.le_refl _⟩, ⟨ku (Kd.R_mono HO319.out (fun _ hk => hk.2))⟩, ⟨ku (Kd.R_mono HO323.out (fun _ hk => hk.2))⟩, ⟨bu (BK314.out)⟩, ⟨be HB.out⟩⟩
   ·rw [if_neg c15] at H; have c15b0 : (t320 == t324) = false := beq_eq_false_iff_ne.mpr c15; have c15b1 : (t320 != t324) = true := bne_iff_ne.mpr c15
    (first | rw [c15b0] | (simp only [i64_w, i32_w]; rw [c15b0]) | skip)
    have H' := Aside0.mk H; clear H
    go_wp2
    go_meet
    case rel => exact ⟨_, (true), (by first | rfl | (simp; done) | (simp [*]; done)), H', ⟨by first | omega | exact Nat.le_refl _⟩, ⟨ku (Kd.R_mono HO319.out (fun _ hk => hk.2))⟩, ⟨ku (Kd.R_mono HO323.out (fun _ hk => hk.2))⟩, ⟨bu (BK314.out)⟩, ⟨be HB.out⟩⟩
  case rest =>
   clear HC7
   try clear c1
   try clear p2
   try clear c4
   try clear c8
   try clear c10
   try clear c15
   try clear c15b0
   try clear c15b1
   try clear hcz11_0 hcz11_1 hcz11_2 hcz11_3 hcz11_4 hcz11_5 hcz11_6
   try clear hcz13_0 hcz13_1 hcz13_2 hcz13_3 hcz13_4 hcz13_5 hcz13_6
   try clear hcz9_0 hcz9_1 hcz9_2 hcz9_3 hcz9_4 hcz9_5 hcz9_6
   try clear hfz11_0 hfz11_1 hfz11_2 hfz11_3 hfz11_4 hfz11_5 hfz11_6
   try clear hfz13_0 hfz13_1 hfz13_2 hfz13_3 hfz13_4 hfz13_5 hfz13_6
   try clear hfz9_0 hfz9_1 hfz9_2 hfz9_3 hfz9_4 hfz9_5 hfz9_6
   obtain ⟨kq, x33_6, rfl, HA, HJ6, HO_5, HO_7, BK314, HB⟩ := hcut
   cases kq with
   | zero => exact absurd HA.out (by simp [garmentlaw27_RollLeast.j0])
   | succ kj6 =>
    have H := HA.out; clear HA; simp only [garmentlaw27_RollLeast.j0] at H
    by_cases c16 : x33_6 = true
    ·subst c16
     have H1 : (if t320 = t324 then (if (t317.length : Int) = 0 then (if (t321.length : Int) = 0 then ((garmentlaw27_exampleHolds.f).bind fun t325 => (some t325)) else (some false)) else (some false)) else (some false)) = some r := by rw [if_pos rfl] at H; exact H
     clear H; have H := H1; clear H1
     by_cases c17 : t320 = t324
     ·rw [if_pos c17] at H; have c17b0 : (t320 == t324) = true := beq_iff_eq.mpr c17; have c17b1 : (t320 != t324) = false := bne_eq_false_iff_eq.mpr c17; clear c17
      by_cases c18 : (t317.length : Int) = 0
      ·rw [if_pos c18] at H; have c18b0 : ((t317.length : Int) == 0) = true := beq_iff_eq.mpr c18; have c18b1 : ((t317.length : Int) != 0) = false := bne_eq_false_iff_eq.mpr c18; clear c18
       by_cases c19 : (t321.length : Int) = 0
       ·rw [if_pos c19] at H; have c19b0 : ((t321.length : Int) == 0) = true := beq_iff_eq.mpr c19; have c19b1 : ((t321.length : Int) != 0) = false := bne_eq_false_iff_eq.mpr c19; clear c19; replace H := Option.bind_eq_some_iff.mp H; obtain ⟨t325, A200, H⟩ := H; replace H : (some t325) = some r := H; have A20 := Aside0.mk A200; clear A200; obtain rfl := Option.some.inj H; obtain ⟨Ao21, co21, eo21⟩ := Kd.R_slice HO_5.out; subst eo21; obtain ⟨Ao22, co22, eo22⟩ := Kd.R_slice HO_7.out; subst eo22
        go_wp2_with (first | (go_at_call 13; (with_reducible refine (garmentlaw27_exampleHolds.calls  t325 _ A20.out (by first | exact Aside0.mk (GL.below hG.out (be HB.out)) | exact hG)).mono ?_); rintro e w23 ⟨rfl, hb⟩; replace HO_5 := Aside0.mk (Kd.R_below (ku HO_5.out) hb); replace HO_7 := Aside0.mk (Kd.R_below (ku HO_7.out) hb); replace BK314 := Aside0.mk (blk_below (bu BK314.out) hb); replace HB := Aside0.mk (below_step (be HB.out) hb); (try clear hb)))
        go_ret
        exact ⟨by first | rfl | (simp [errW_none, errW_some] <;> rfl) | (simp [*, errW_none, errW_some] <;> rfl), be HB.out⟩
       ·rw [if_neg c19] at H; have c19b0 : ((t321.length : Int) == 0) = false := beq_eq_false_iff_ne.mpr c19; have c19b1 : ((t321.length : Int) != 0) = true := bne_iff_ne.mpr c19
        have c19b2 : ¬ (t321 = []) := fun h_ => c19 (by rw [h_]; rfl)
        obtain rfl := Option.some.inj H; obtain ⟨Ao24, co24, eo24⟩ := Kd.R_slice HO_5.out; subst eo24; obtain ⟨Ao25, co25, eo25⟩ := Kd.R_slice HO_7.out; subst eo25
        go_wp2
        go_ret
        exact ⟨by first | rfl | (simp [errW_none, errW_some] <;> rfl) | (simp [*, errW_none, errW_some] <;> rfl), be HB.out⟩
      ·rw [if_neg c18] at H; have c18b0 : ((t317.length : Int) == 0) = false := beq_eq_false_iff_ne.mpr c18; have c18b1 : ((t317.length : Int) != 0) = true := bne_iff_ne.mpr c18
       have c18b2 : ¬ (t317 = []) := fun h_ => c18 (by rw [h_]; rfl)
       obtain rfl := Option.some.inj H; obtain ⟨Ao26, co26, eo26⟩ := Kd.R_slice HO_5.out; subst eo26
       go_wp2
       go_ret
       exact ⟨by first | rfl | (simp [errW_none, errW_some] <;> rfl) | (simp [*, errW_none, errW_some] <;> rfl), be HB.out⟩
     ·rw [if_neg c17] at H; have c17b0 : (t320 == t324) = false := beq_eq_false_iff_ne.mpr c17; have c17b1 : (t320 != t324) = true := bne_iff_ne.mpr c17; obtain rfl := Option.some.inj H
      go_wp2
      go_ret
      exact ⟨by first | rfl | (simp [errW_none, errW_some] <;> rfl) | (simp [*, errW_none, errW_some] <;> rfl), be HB.out⟩
    ·replace c16 := Bool.eq_false_iff.mpr c16; subst c16
     have H1 : (garmentlaw27_RollLeast.l0 kj6 a1 t321 ([] : List (S44)) t317 (t317.length : Int) 0) = some r := by rw [if_neg (show ¬ (false = true) by decide)] at H; exact H
     clear H; have H := H1; clear H1; have H' := Aside0.mk H; clear H; obtain ⟨Ao27, co27, eo27⟩ := Kd.R_slice HO_5.out; subst eo27
     go_wp2
     go_loopg [9, 52] kj6 (fun kq v9 v52 w' => ∃ (x9_2 : List (S44)) (x52_2 : Int), v52 = .int .i64 x52_2 ∧ Aside0 (garmentlaw27_RollLeast.l0 kq a1 t321 x9_2 t317 (t317.length : Int) x52_2 = some r) ∧ Aside0 (kq ≤ kj6) ∧ Aside0 (Kd.R k44 44 w' w.heap.size (fun k_ => some k_ ≠ (v9 : Value).ownBlock ∧ some k_ ≠ ((.slice Ao27 t317.length co27) : Value).ownBlock) v322 t321) ∧ Aside0 (Kd.R k44 44 w' w.heap.size (fun k_ => some k_ ≠ (v322 : Value).ownBlock ∧ some k_ ≠ ((.slice Ao27 t317.length co27) : Value).ownBlock) v9 x9_2) ∧ Aside0 (Kd.R k44 44 w' w.heap.size (fun k_ => some k_ ≠ (v322 : Value).ownBlock ∧ some k_ ≠ (v9 : Value).ownBlock) (.slice Ao27 t317.length co27) t317) ∧ Aside0 (w'.heap[gb314]? = some (.cells #[.string a0_0, .int .i64 a0_1, .int .i64 a0_2, .int .i64 a0_3, .int .i64 a0_4, .int .i64 a0_5, (.slice A0_6 l0_6.length c0_6)] 26 (0, 0))) ∧ Aside0 (Below w.heap.size w w'))
     case atStart => exact ⟨(([] : List (S44))), (0), (by first | rfl | (simp; done) | (simp [*]; done)), H', ⟨Nat.le_refl _⟩, ⟨ku (Kd.R_mono HO_7.out (fun _ hk => ⟨(by simp [Value.ownBlock]), hk⟩))⟩, ⟨by first | exact Kd.R_nil _ _ _ _ _ | exact Kd.N_nil _ _ _ _ _ | exact Kd.V_nil _ _ _ _ _ | exact Kd.Q_nil _ _ _ _ _ | exact Kd.S_nil _ _ _ _ _⟩, ⟨ku (Kd.R_mono HO_5.out (fun _ hk => ⟨hk, (by simp [Value.ownBlock])⟩))⟩, ⟨bu (BK314.out)⟩, ⟨be HB.out⟩⟩
     case round =>
      clear H'
      try clear c1
      try clear p2
      try clear c4
      try clear c8
      try clear c10
      try clear c15
      try clear c15b0
      try clear c15b1
      try clear c16
      try clear c17
      try clear c17b0
      try clear c17b1
      try clear c18
      try clear c18b0
      try clear c18b1
      try clear c18b2
      try clear c19
      try clear c19b0
      try clear c19b1
      try clear c19b2
      try clear hcz11_0 hcz11_1 hcz11_2 hcz11_3 hcz11_4 hcz11_5 hcz11_6
      try clear hcz13_0 hcz13_1 hcz13_2 hcz13_3 hcz13_4 hcz13_5 hcz13_6
      try clear hcz9_0 hcz9_1 hcz9_2 hcz9_3 hcz9_4 hcz9_5 hcz9_6
      try clear hfz11_0 hfz11_1 hfz11_2 hfz11_3 hfz11_4 hfz11_5 hfz11_6
      try clear hfz13_0 hfz13_1 hfz13_2 hfz13_3 hfz13_4 hfz13_5 hfz13_6
      try clear hfz9_0 hfz9_1 hfz9_2 hfz9_3 hfz9_4 hfz9_5 hfz9_6
      try clear p2
      obtain ⟨x9_2, x52_2, rfl, HA, HK2, HO_7, HO_9, HO_50, BK314, HB⟩ := hrel
      cases gk with
      | zero => exact absurd HA.out (by simp [garmentlaw27_RollLeast.l0])
      | succ k2 =>
       have H := HA.out; clear HA; simp only [garmentlaw27_RollLeast.l0] at H
       by_cases c28 : x52_2 < (t317.length : Int)
       ·rw [if_pos c28] at H; have c28b0 : decide (x52_2 < (t317.length : Int)) = true := decide_eq_true c28; clear c28
        by_cases c29 : 0 ≤ x52_2
        ·rw [if_pos c29] at H; have c29b0 : decide (0 ≤ x52_2) = true := decide_eq_true c29; clear c29
         by_cases c30 : x52_2 < (t317.length : Int)
         ·rw [if_pos c30] at H; have c30b0 : decide (x52_2 < (t317.length : Int)) = true := decide_eq_true c30; clear c30
          by_cases c31 : (wrap64 (((rd_T44 t317 x52_2).f1) - ((rd_T44 t317 x52_2).f0))) ≥ a1
          ·rw [if_pos c31] at H; have c31b0 : decide (a1 ≤ (wrap64 (((rd_T44 t317 x52_2).f1) - ((rd_T44 t317 x52_2).f0)))) = true := decide_eq_true c31; clear c31
           by_cases c32 : x9_2.length < 8796093022208
           ·rw [if_pos c32] at H; have LMc32 := Aside0.mk c32; clear c32; obtain ⟨y328, hy328⟩ : ∃ y_ : List (S44), y_ = (x9_2 ++ [(⟨(rd_T44 t317 x52_2).f0, (rd_T44 t317 x52_2).f1⟩ : S44)]) := ⟨_, rfl⟩
            replace H : (garmentlaw27_RollLeast.l0 k2 a1 t321 y328 t317 (t317.length : Int) (wrap64 (x52_2 + 1))) = some r := by first | (rw [hy328]; with_reducible exact H) | (have H2_ := (Option.bind_some _ _).symm.trans H; rw [hy328]; with_reducible exact H2_) | (have H2_ := (Option.bind_some _ _).symm.trans H; with_reducible exact H2_) | with_reducible exact H | (rw [hy328]; exact H) | exact H
            have Ny328 := Aside0.mk hy328; clear hy328; have H' := Aside0.mk H; clear H; have p326 : 0 ≤ (x52_2 : Int) := oda; have q326 : x52_2 < (t317.length : Int) := oda; obtain ⟨ad326, e326, hx326_0, hx326_1⟩ := at_T44 (Kd.R_reads' HO_50.out).2.2 x52_2 p326 q326; cases e326; replace p326 := eq_true p326; replace q326 := eq_true q326
            go_wp2_with (first | ((with_reducible refine gate_dst (N := 11) rfl ?_); (try (refine gate_guard (by rfl) ?_; dsimp only)); refine box_event ?hg (N := 11) ?hd (cs := #[.int .i64 0, .int .i64 0]) (t := 44) ?hr ?_; (case hd => rfl); (case hg => rfl); (case hr => first | (go_simp; done) | (go_simp; rfl)); intro gb327 hg w33 hbox hb; have BK327 := Aside0.mk (hbox); have GW327 := Aside0.mk ((by rw [hg]; exact (below_size (be HB.out)) : w.heap.size ≤ gb327)); have GE327 := Aside0.mk ((by rw [hg]; exact (below_size (be HB.out)) : w.heap.size ≤ gb327)); have NB314_327 := Aside0.mk ((by rw [hg]; exact Nat.ne_of_lt (blk_lt (g := gb314) (o := .cells #[.string a0_0, .int .i64 a0_1, .int .i64 a0_2, .int .i64 a0_3, .int .i64 a0_4, .int .i64 a0_5, .slice A0_6 l0_6.length c0_6] 26 (0, 0)) (bu BK314.out)) : gb314 ≠ gb327)); have NB327_314 := Aside0.mk ((by rw [hg]; exact Nat.ne_of_gt (blk_lt (g := gb314) (o := .cells #[.string a0_0, .int .i64 a0_1, .int .i64 a0_2, .int .i64 a0_3, .int .i64 a0_4, .int .i64 a0_5, .slice A0_6 l0_6.length c0_6] 26 (0, 0)) (bu BK314.out)) : gb327 ≠ gb314)); replace HO_7 := Aside0.mk (Kd.R_below (Kd.R_elderB (ku HO_7.out) gb327 (Nat.le_of_eq hg.symm)) hb); replace HO_9 := Aside0.mk (Kd.R_below (Kd.R_elderB (ku HO_9.out) gb327 (Nat.le_of_eq hg.symm)) hb); replace HO_50 := Aside0.mk (Kd.R_below (Kd.R_elderB (ku HO_50.out) gb327 (Nat.le_of_eq hg.symm)) hb); replace BK314 := Aside0.mk (blk_below (bu BK314.out) hb); replace HB := Aside0.mk (below_step (be HB.out) hb); clear hb hbox hg; have hnb34 := NB327_314.out; have hnc34 := NB314_327.out; have hcz35_0 := bc BK327.out 0 (.int .i64 0) rfl; have hcz35_1 := bc BK327.out 1 (.int .i64 0) rfl; have hfz35_0 := blk_frozen BK327.out 0; have hfz35_1 := blk_frozen BK327.out 1) | ((with_reducible refine gate_builtin (b := .append) (xs := #[.tmp 63, .tmp 65]) rfl ?_); (try (refine gate_guard (by rfl) ?_; dsimp only)); at_builtin; refine Kd.R_append k44 (w0 := w) w.heap.size rfl (.tmp 63) (.tmp 65) 35 44 (.agg #[(.int .i64 0), (.int .i64 0)]) 16 rfl Tryz.underlying35 info44 rfl (by decide) (by omega) u9 x9_2 (⟨(rd_T44 t317 x52_2).f0, (rd_T44 t317 x52_2).f1⟩ : S44) [.int .i64 ((rd_T44 t317 x52_2).f0), .int .i64 ((rd_T44 t317 x52_2).f1)] (fun k_ => some k_ ≠ (v322 : Value).ownBlock ∧ some k_ ≠ (.slice (some ad326) t317.length co27 : Value).ownBlock ∧ k_ ≠ gb327) (fun _ => False) rfl (by first | (go_simp; done) | (go_simp; rfl)) ?aP (fun _ hk => hk.elim) ?aF ?aO ?aB ?aS ?aL ?_; (case aP => exact k44_mkM _ _ _ (⟨(rd_T44 t317 x52_2).f0, (rd_T44 t317 x52_2).f1⟩ : S44)); (case aB => exact (be HB.out)); (case aF => exact (fun k_ hk => ⟨Kd.fresh' (Kd.R_lt (ku ((Kd.R_mono (Kd.R_far (p := ⟨gb327, 1, none⟩) (Kd.R_far (p := ⟨gb327, 0, none⟩) (Kd.R_mono HO_7.out (fun k_ hk => (⟨hk, hk.2⟩ : _ ∧ k_ ≠ gb327))) (fun _ hk => hk.2) (.int .i64 ((rd_T44 t317 x52_2).f0))) (fun _ hk => hk.2) (.int .i64 ((rd_T44 t317 x52_2).f1))) (fun _ h_ => h_.1))))) k_ hk, Kd.fresh' (Kd.R_lt (ku ((Kd.R_mono (Kd.R_far (p := ⟨gb327, 1, none⟩) (Kd.R_far (p := ⟨gb327, 0, none⟩) (Kd.R_mono HO_50.out (fun k_ hk => (⟨hk, hk.2⟩ : _ ∧ k_ ≠ gb327))) (fun _ hk => hk.2) (.int .i64 ((rd_T44 t317 x52_2).f0))) (fun _ hk => hk.2) (.int .i64 ((rd_T44 t317 x52_2).f1))) (fun _ h_ => h_.1))))) k_ hk, Kd.freshB (g := gb327) (o := .cells #[.int .i64 ((rd_T44 t317 x52_2).f0), .int .i64 ((rd_T44 t317 x52_2).f1)] 44 (0, 0)) (by (with_reducible repeat (first | refine blk_drewN ?_ _ | refine blk_drew ?_ | refine blk_alloc ?_ _)); refine blk_put (cs := #[.int .i64 ((rd_T44 t317 x52_2).f0), .int .i64 0]) ?_ 1 _ rfl; (with_reducible repeat (first | refine blk_drewN ?_ _ | refine blk_drew ?_ | refine blk_alloc ?_ _)); refine blk_put (cs := #[.int .i64 0, .int .i64 0]) ?_ 0 _ rfl; (with_reducible repeat (first | refine blk_drewN ?_ _ | refine blk_drew ?_ | refine blk_alloc ?_ _)); exact BK327.out) k_ hk⟩)); (case aO => exact (ku (Kd.R_mono (Kd.R_far (p := ⟨gb327, 1, none⟩) (Kd.R_far (p := ⟨gb327, 0, none⟩) (Kd.R_mono HO_9.out (fun k_ hk => (⟨hk, hk.2⟩ : _ ∧ k_ ≠ gb327))) (fun _ hk => hk.2) (.int .i64 ((rd_T44 t317 x52_2).f0))) (fun _ hk => hk.2) (.int .i64 ((rd_T44 t317 x52_2).f1))) (fun _ hk => ⟨hk.1.1.1, ⟨hk.1.1.2, hk.1.2⟩⟩)))); (case aS => exact (below_size (be HB.out))); (case aL => have := LMc32.out; omega); intro v329 w36 ho hb hg hat; rw [← Ny328.out] at ho; have n0_ := Aside0.mk (Kd.R_after (ok := (fun k_ => some k_ ≠ (.slice (some ad326) t317.length co27 : Value).ownBlock ∧ k_ ≠ gb327)) (ku (Kd.R_mono (Kd.R_far (p := ⟨gb327, 1, none⟩) (Kd.R_far (p := ⟨gb327, 0, none⟩) (Kd.R_mono HO_7.out (fun k_ hk => (⟨hk, hk.2⟩ : _ ∧ k_ ≠ gb327))) (fun _ hk => hk.2) (.int .i64 ((rd_T44 t317 x52_2).f0))) (fun _ hk => hk.2) (.int .i64 ((rd_T44 t317 x52_2).f1))) (fun _ hk => ⟨⟨hk.1.1.2, hk.1.2⟩, hk.1.1.1⟩))) hg hat); have n1_ := Aside0.mk (Kd.R_after (ok := (fun k_ => some k_ ≠ (v322 : Value).ownBlock ∧ k_ ≠ gb327)) (ku (Kd.R_mono (Kd.R_far (p := ⟨gb327, 1, none⟩) (Kd.R_far (p := ⟨gb327, 0, none⟩) (Kd.R_mono HO_50.out (fun k_ hk => (⟨hk, hk.2⟩ : _ ∧ k_ ≠ gb327))) (fun _ hk => hk.2) (.int .i64 ((rd_T44 t317 x52_2).f0))) (fun _ hk => hk.2) (.int .i64 ((rd_T44 t317 x52_2).f1))) (fun _ hk => ⟨⟨hk.1.1.1, hk.1.2⟩, hk.1.1.2⟩))) hg hat); have n2_ := Aside0.mk (blk_grown (g := gb314) (o := .cells #[.string a0_0, .int .i64 a0_1, .int .i64 a0_2, .int .i64 a0_3, .int .i64 a0_4, .int .i64 a0_5, .slice A0_6 l0_6.length c0_6] 26 (0, 0)) (by (with_reducible repeat (first | refine blk_drewN ?_ _ | refine blk_drew ?_ | refine blk_alloc ?_ _)); refine blk_far ?_ NB314_327.out _; (with_reducible repeat (first | refine blk_drewN ?_ _ | refine blk_drew ?_ | refine blk_alloc ?_ _)); refine blk_far ?_ NB314_327.out _; (with_reducible repeat (first | refine blk_drewN ?_ _ | refine blk_drew ?_ | refine blk_alloc ?_ _)); exact BK314.out) hg (Kd.R_ne HO_9.out BK314.out (by decide))); have n3_ := Aside0.mk (blk_grown (g := gb327) (o := .cells #[.int .i64 ((rd_T44 t317 x52_2).f0), .int .i64 ((rd_T44 t317 x52_2).f1)] 44 (0, 0)) (by (with_reducible repeat (first | refine blk_drewN ?_ _ | refine blk_drew ?_ | refine blk_alloc ?_ _)); refine blk_put (cs := #[.int .i64 ((rd_T44 t317 x52_2).f0), .int .i64 0]) ?_ 1 _ rfl; (with_reducible repeat (first | refine blk_drewN ?_ _ | refine blk_drew ?_ | refine blk_alloc ?_ _)); refine blk_put (cs := #[.int .i64 0, .int .i64 0]) ?_ 0 _ rfl; (with_reducible repeat (first | refine blk_drewN ?_ _ | refine blk_drew ?_ | refine blk_alloc ?_ _)); exact BK327.out) hg (Kd.R_away HO_9.out (fun _ hk => hk.2))); have n4_ := Aside0.mk (hb); have n5_ := Aside0.mk (ho); clear HO_7; clear HO_50; clear BK314; clear BK327; clear HB; clear HO_9; have HO_7 := n0_; have HO_50 := n1_; have BK314 := n2_; have BK327 := n3_; have HB := n4_; have HO330 := n5_; clear n0_ n1_ n2_ n3_ n4_ n5_; clear ho hb hg hat))
            go_roundg k2
            case measure => have := HJ6.out; have := HK2.out; omega
            case rel => exact ⟨(y328), (wrap64 (x52_2 + 1)), (by first | rfl | (simp; done) | (simp [*]; done)), H', ⟨by have := HJ6.out; have := HK2.out; omega⟩, ⟨ku (Kd.R_mono HO_7.out (fun _ hk => ⟨hk.2, hk.1.1⟩))⟩, ⟨ku (Kd.R_mono HO330.out (fun _ hk => ⟨hk.1, hk.2.1⟩))⟩, ⟨ku (Kd.R_mono HO_50.out (fun _ hk => ⟨hk.1.1, hk.2⟩))⟩, ⟨bu (BK314.out)⟩, ⟨be HB.out⟩⟩
           ·rw [if_neg c32] at H; exact absurd H (by simp)
          ·rw [if_neg c31] at H; have c31b0 : decide (a1 ≤ (wrap64 (((rd_T44 t317 x52_2).f1) - ((rd_T44 t317 x52_2).f0)))) = false := decide_eq_false c31; clear c31; have H' := Aside0.mk H; clear H; have p326 : 0 ≤ (x52_2 : Int) := oda; have q326 : x52_2 < (t317.length : Int) := oda; obtain ⟨ad326, e326, hx326_0, hx326_1⟩ := at_T44 (Kd.R_reads' HO_50.out).2.2 x52_2 p326 q326; cases e326; replace p326 := eq_true p326; replace q326 := eq_true q326
           go_wp2_with (first | ((with_reducible refine gate_dst (N := 11) rfl ?_); (try (refine gate_guard (by rfl) ?_; dsimp only)); refine box_event ?hg (N := 11) ?hd (cs := #[.int .i64 0, .int .i64 0]) (t := 44) ?hr ?_; (case hd => rfl); (case hg => rfl); (case hr => first | (go_simp; done) | (go_simp; rfl)); intro gb327 hg w37 hbox hb; have BK327 := Aside0.mk (hbox); have GW327 := Aside0.mk ((by rw [hg]; exact (below_size (be HB.out)) : w.heap.size ≤ gb327)); have GE327 := Aside0.mk ((by rw [hg]; exact (below_size (be HB.out)) : w.heap.size ≤ gb327)); have NB314_327 := Aside0.mk ((by rw [hg]; exact Nat.ne_of_lt (blk_lt (g := gb314) (o := .cells #[.string a0_0, .int .i64 a0_1, .int .i64 a0_2, .int .i64 a0_3, .int .i64 a0_4, .int .i64 a0_5, .slice A0_6 l0_6.length c0_6] 26 (0, 0)) (bu BK314.out)) : gb314 ≠ gb327)); have NB327_314 := Aside0.mk ((by rw [hg]; exact Nat.ne_of_gt (blk_lt (g := gb314) (o := .cells #[.string a0_0, .int .i64 a0_1, .int .i64 a0_2, .int .i64 a0_3, .int .i64 a0_4, .int .i64 a0_5, .slice A0_6 l0_6.length c0_6] 26 (0, 0)) (bu BK314.out)) : gb327 ≠ gb314)); replace HO_7 := Aside0.mk (Kd.R_below (Kd.R_elderB (ku HO_7.out) gb327 (Nat.le_of_eq hg.symm)) hb); replace HO_9 := Aside0.mk (Kd.R_below (Kd.R_elderB (ku HO_9.out) gb327 (Nat.le_of_eq hg.symm)) hb); replace HO_50 := Aside0.mk (Kd.R_below (Kd.R_elderB (ku HO_50.out) gb327 (Nat.le_of_eq hg.symm)) hb); replace BK314 := Aside0.mk (blk_below (bu BK314.out) hb); replace HB := Aside0.mk (below_step (be HB.out) hb); clear hb hbox hg; have hnb38 := NB327_314.out; have hnc38 := NB314_327.out; have hcz39_0 := bc BK327.out 0 (.int .i64 0) rfl; have hcz39_1 := bc BK327.out 1 (.int .i64 0) rfl; have hfz39_0 := blk_frozen BK327.out 0; have hfz39_1 := blk_frozen BK327.out 1))
           go_roundg k2
           case measure => have := HJ6.out; have := HK2.out; omega
           case rel => exact ⟨(x9_2), (wrap64 (x52_2 + 1)), (by first | rfl | (simp; done) | (simp [*]; done)), H', ⟨by have := HJ6.out; have := HK2.out; omega⟩, ⟨ku (Kd.R_mono (Kd.R_far (p := ⟨gb327, 1, none⟩) (Kd.R_far (p := ⟨gb327, 0, none⟩) (Kd.R_mono HO_7.out (fun k_ hk => (⟨hk, hk.2⟩ : _ ∧ k_ ≠ gb327))) (fun _ hk => hk.2) (.int .i64 ((rd_T44 t317 x52_2).f0))) (fun _ hk => hk.2) (.int .i64 ((rd_T44 t317 x52_2).f1))) (fun _ hk => ⟨hk.1.1.1, hk.1.1.2⟩))⟩, ⟨ku (Kd.R_mono (Kd.R_far (p := ⟨gb327, 1, none⟩) (Kd.R_far (p := ⟨gb327, 0, none⟩) (Kd.R_mono HO_9.out (fun k_ hk => (⟨hk, hk.2⟩ : _ ∧ k_ ≠ gb327))) (fun _ hk => hk.2) (.int .i64 ((rd_T44 t317 x52_2).f0))) (fun _ hk => hk.2) (.int .i64 ((rd_T44 t317 x52_2).f1))) (fun _ hk => ⟨hk.1.1.1, hk.1.1.2⟩))⟩, ⟨ku (Kd.R_mono (Kd.R_far (p := ⟨gb327, 1, none⟩) (Kd.R_far (p := ⟨gb327, 0, none⟩) (Kd.R_mono HO_50.out (fun k_ hk => (⟨hk, hk.2⟩ : _ ∧ k_ ≠ gb327))) (fun _ hk => hk.2) (.int .i64 ((rd_T44 t317 x52_2).f0))) (fun _ hk => hk.2) (.int .i64 ((rd_T44 t317 x52_2).f1))) (fun _ hk => ⟨hk.1.1.1, hk.1.1.2⟩))⟩, ⟨by (with_reducible repeat (first | refine blk_drewN ?_ _ | refine blk_drew ?_ | refine blk_alloc ?_ _)); refine blk_far ?_ NB314_327.out _; (with_reducible repeat (first | refine blk_drewN ?_ _ | refine blk_drew ?_ | refine blk_alloc ?_ _)); refine blk_far ?_ NB314_327.out _; (with_reducible repeat (first | refine blk_drewN ?_ _ | refine blk_drew ?_ | refine blk_alloc ?_ _)); exact BK314.out⟩, ⟨be HB.out⟩⟩
         ·rw [if_neg c30] at H; exact absurd H (by simp)
        ·rw [if_neg c29] at H; exact absurd H (by simp)
       ·rw [if_neg c28] at H; have c28b0 : decide (x52_2 < (t317.length : Int)) = false := decide_eq_false c28; clear c28; replace H := Option.bind_eq_some_iff.mp H; obtain ⟨t331, A400, H⟩ := H; replace H : (if t331 = true then ((garmentlaw27_exampleHolds.f).bind fun t332 => (some t332)) else (some false)) = some r := H; have A40 := Aside0.mk A400; clear A400
        by_cases c41 : t331 = true
        ·subst c41
         have H1 : ((garmentlaw27_exampleHolds.f).bind fun t332 => (some t332)) = some r := by rw [if_pos rfl] at H; exact H
         clear H; have H := H1; clear H1; replace H := Option.bind_eq_some_iff.mp H; obtain ⟨t332, A420, H⟩ := H; replace H : (some t332) = some r := H; have A42 := Aside0.mk A420; clear A420; obtain rfl := Option.some.inj H; obtain ⟨Ao43, co43, eo43⟩ := Kd.R_slice HO_7.out; subst eo43; obtain ⟨Ao44, co44, eo44⟩ := Kd.R_slice HO_9.out; subst eo44
         go_wp2_with (first | ((with_reducible refine gate_callee (f := 19) rfl ?_); refine goesA (some 70) rfl rfl Tryz.func19 (by kernel_rfl) rfl #[.slice Ao43 t321.length co43, .slice Ao44 x9_2.length co44] rfl ?_; (with_reducible refine (garmentref27_SameZones.calls k2 _ _ t321 _ _ x9_2 true _ ?side1 ?side2 ?side3 ?side4 A40.out).mono ?_); (case side1 => exact cu (Kd.R_reads' HO_7.out).2.2); (case side2 => exact (Kd.R_reads' HO_7.out).2.1); (case side3 => exact cu (Kd.R_reads' HO_9.out).2.2); (case side4 => exact (Kd.R_reads' HO_9.out).2.1); rintro e w' ⟨rfl, ⟨nd, rfl⟩⟩; refine ⟨_, rfl, ?_⟩) | (go_at_call 13; (with_reducible refine (garmentlaw27_exampleHolds.calls  t332 _ A42.out (by first | exact Aside0.mk (GL.below hG.out (be HB.out)) | exact hG)).mono ?_); rintro e w45 ⟨rfl, hb⟩; replace HO_7 := Aside0.mk (Kd.R_below (ku HO_7.out) hb); replace HO_9 := Aside0.mk (Kd.R_below (ku HO_9.out) hb); replace HO_50 := Aside0.mk (Kd.R_below (ku HO_50.out) hb); replace BK314 := Aside0.mk (blk_below (bu BK314.out) hb); replace HB := Aside0.mk (below_step (be HB.out) hb); (try clear hb)))
         go_ret
         exact ⟨by first | rfl | (simp [errW_none, errW_some] <;> rfl) | (simp [*, errW_none, errW_some] <;> rfl), be HB.out⟩
        ·replace c41 := Bool.eq_false_iff.mpr c41; subst c41
         have H1 : (some false) = some r := by rw [if_neg (show ¬ (false = true) by decide)] at H; exact H
         clear H; have H := H1; clear H1; obtain rfl := Option.some.inj H; obtain ⟨Ao46, co46, eo46⟩ := Kd.R_slice HO_7.out; subst eo46; obtain ⟨Ao47, co47, eo47⟩ := Kd.R_slice HO_9.out; subst eo47
         go_wp2_with (first | ((with_reducible refine gate_callee (f := 19) rfl ?_); refine goesA (some 70) rfl rfl Tryz.func19 (by kernel_rfl) rfl #[.slice Ao46 t321.length co46, .slice Ao47 x9_2.length co47] rfl ?_; (with_reducible refine (garmentref27_SameZones.calls k2 _ _ t321 _ _ x9_2 false _ ?side1 ?side2 ?side3 ?side4 A40.out).mono ?_); (case side1 => exact cu (Kd.R_reads' HO_7.out).2.2); (case side2 => exact (Kd.R_reads' HO_7.out).2.1); (case side3 => exact cu (Kd.R_reads' HO_9.out).2.2); (case side4 => exact (Kd.R_reads' HO_9.out).2.1); rintro e w' ⟨rfl, ⟨nd, rfl⟩⟩; refine ⟨_, rfl, ?_⟩))
         go_ret
         exact ⟨by first | rfl | (simp [errW_none, errW_some] <;> rfl) | (simp [*, errW_none, errW_some] <;> rfl), be HB.out⟩
 ·replace c4 := Bool.eq_false_iff.mpr c4; subst c4
  have H1 : ((garmentlaw27_exampleHolds.f).bind fun t316 => (some t316)) = some r := by rw [if_neg (show ¬ (false = true) by decide)] at H; exact H
  clear H; have H := H1; clear H1; replace H := Option.bind_eq_some_iff.mp H; obtain ⟨t316, A480, H⟩ := H; replace H : (some t316) = some r := H; have A48 := Aside0.mk A480; clear A480; obtain rfl := Option.some.inj H
  go_enter Tryz.func8, Tryz.ntmps8
  go_wp2_with (first | ((with_reducible refine gate_dst (N := 2) rfl ?_); (try (refine gate_guard (by rfl) ?_; dsimp only)); refine box_event ?hg (N := 2) ?hd (cs := #[.string a0_0, .int .i64 a0_1, .int .i64 a0_2, .int .i64 a0_3, .int .i64 a0_4, .int .i64 a0_5, .slice A0_6 l0_6.length c0_6]) (t := 26) ?hr ?_; (case hd => rfl); (case hg => rfl); (case hr => first | (go_simp; done) | (go_simp; rfl)); intro gb314 hg w49 hbox hb; have BK314 := Aside0.mk (hbox); have GW314 := Aside0.mk ((by rw [hg]; exact (below_size (be HB.out)) : w.heap.size ≤ gb314)); have GE314 := Aside0.mk ((by rw [hg]; exact (below_size (be HB.out)) : w.heap.size ≤ gb314)); replace HB := Aside0.mk (below_step (be HB.out) hb); clear hb hbox hg; have hcz50_0 := bc BK314.out 0 (.string a0_0) rfl; have hcz50_1 := bc BK314.out 1 (.int .i64 a0_1) rfl; have hcz50_2 := bc BK314.out 2 (.int .i64 a0_2) rfl; have hcz50_3 := bc BK314.out 3 (.int .i64 a0_3) rfl; have hcz50_4 := bc BK314.out 4 (.int .i64 a0_4) rfl; have hcz50_5 := bc BK314.out 5 (.int .i64 a0_5) rfl; have hcz50_6 := bc BK314.out 6 (.slice A0_6 l0_6.length c0_6) rfl; have hfz50_0 := blk_frozen BK314.out 0; have hfz50_1 := blk_frozen BK314.out 1; have hfz50_2 := blk_frozen BK314.out 2; have hfz50_3 := blk_frozen BK314.out 3; have hfz50_4 := blk_frozen BK314.out 4; have hfz50_5 := blk_frozen BK314.out 5; have hfz50_6 := blk_frozen BK314.out 6) | ((with_reducible refine gate_callee (f := 10) rfl ?_); refine goesA (some 13) rfl rfl Tryz.func10 (by kernel_rfl) rfl #[.agg #[.string a0_0, .int .i64 a0_1, .int .i64 a0_2, .int .i64 a0_3, .int .i64 a0_4, .int .i64 a0_5, .slice A0_6 l0_6.length c0_6]] rfl ?_; (with_reducible refine (garmentlaw27_few.calls k a0_0 a0_1 a0_2 a0_3 a0_4 a0_5 (fun k_ => k_ < w.heap.size) _ _ l0_6 false _ ?side1 A3.out).mono ?_); (case side1 => exact Kd.V_mk HC0_6.out (Kd.F_below (Kd.C_F k46_heap HR0_6.out) (be HB.out))); rintro e w51 ⟨rfl, hb⟩; refine ⟨_, rfl, ?_⟩; replace BK314 := Aside0.mk (blk_below (bu BK314.out) hb); replace HB := Aside0.mk (below_step (be HB.out) hb); (try clear hb)) | ((with_reducible refine gate_callee (f := 13) rfl ?_); refine goesA (some 15) rfl rfl Tryz.func13 (by kernel_rfl) rfl #[] rfl ?_; (with_reducible refine (garmentlaw27_exampleHolds.calls  t316 _ A48.out (by first | exact Aside0.mk (GL.below hG.out (be HB.out)) | exact hG)).mono ?_); rintro e w52 ⟨rfl, hb⟩; refine ⟨_, rfl, ?_⟩; replace BK314 := Aside0.mk (blk_below (bu BK314.out) hb); replace HB := Aside0.mk (below_step (be HB.out) hb); (try clear hb)))
  go_ret
  exact ⟨by first | rfl | (simp [errW_none, errW_some] <;> rfl) | (simp [*, errW_none, errW_some] <;> rfl), be HB.out⟩

end Go.Proofs.YtdblkmnbkpphjaaGreatDoor.P
namespace Go.Proofs.YtdblkmnbkpphjaaGreatDoor.P
open Go.RowKit Go.Proofs.YtdblkmnbkpphjaaGreatDoorW.PrintWords Go.Proofs.YtdblkmnbkpphjaaGreatDoorW.PrintLast Go.Proofs.YtdblkmnbkpphjaaGreatDoorW.PrintMore Go.Proofs.YtdblkmnbkpphjaaGreatDoorW.PrintAuto
attribute [local go_sem] max2_int min2_int max_two min_two max_three min_three max_four min_four   -- for this text's walks alone
set_option linter.unusedVariables false
set_option linter.unusedSimpArgs false

def garmentref27_capital.f (a0 : Int) : Option (Bool) := if a0 ≥ 65 then (some (decide (a0 ≤ 90))) else (some false)
set_option maxHeartbeats 8000000 in
set_option maxRecDepth 100000 in
theorem garmentref27_capital.calls (a0 : Int) (r : Bool) (w : World) (h : garmentref27_capital.f a0 = some r) :
  Calls Tryz.prog 47 #[.int .u8 a0] w fun e w' => e = .returned (.bool r) ∧ Drawn0 w w' := by
 have H : (if a0 ≥ 65 then (some (decide (a0 ≤ 90))) else (some false)) = some r := h; clear h
 by_cases c2 : a0 ≥ 65
 ·rw [if_pos c2] at H; have c2b0 : decide (65 ≤ a0) = true := decide_eq_true c2; clear c2; obtain rfl := Option.some.inj H
  go_enter Tryz.func47, Tryz.ntmps47
  go_wp2
  go_ret
  exact ⟨by first | rfl | (simp; done) | (simp [*]; done), by repeat (first | exact Drawn0.refl _ | apply Drawn0.step)⟩
 ·rw [if_neg c2] at H; have c2b0 : decide (65 ≤ a0) = false := decide_eq_false c2; clear c2; obtain rfl := Option.some.inj H
  go_enter Tryz.func47, Tryz.ntmps47
  go_wp2
  go_ret
  exact ⟨by first | rfl | (simp; done) | (simp [*]; done), by repeat (first | exact Drawn0.refl _ | apply Drawn0.step)⟩

end Go.Proofs.YtdblkmnbkpphjaaGreatDoor.P
namespace Go.Proofs.YtdblkmnbkpphjaaGreatDoor.P
open Go.RowKit Go.Proofs.YtdblkmnbkpphjaaGreatDoorW.PrintWords Go.Proofs.YtdblkmnbkpphjaaGreatDoorW.PrintLast Go.Proofs.YtdblkmnbkpphjaaGreatDoorW.PrintMore Go.Proofs.YtdblkmnbkpphjaaGreatDoorW.PrintAuto
attribute [local go_sem] max2_int min2_int max_two min_two max_three min_three max_four min_four   -- for this text's walks alone
set_option linter.unusedVariables false
set_option linter.unusedSimpArgs false

def garmentref27_digit.f (a0 : Int) : Option (Bool) := if a0 ≥ 48 then (some (decide (a0 ≤ 57))) else (some false)
set_option maxHeartbeats 8000000 in
set_option maxRecDepth 100000 in
theorem garmentref27_digit.calls (a0 : Int) (r : Bool) (w : World) (h : garmentref27_digit.f a0 = some r) :
  Calls Tryz.prog 48 #[.int .u8 a0] w fun e w' => e = .returned (.bool r) ∧ Drawn0 w w' := by
 have H : (if a0 ≥ 48 then (some (decide (a0 ≤ 57))) else (some false)) = some r := h; clear h
 by_cases c2 : a0 ≥ 48
 ·rw [if_pos c2] at H; have c2b0 : decide (48 ≤ a0) = true := decide_eq_true c2; clear c2; obtain rfl := Option.some.inj H
  go_enter Tryz.func48, Tryz.ntmps48
  go_wp2
  go_ret
  exact ⟨by first | rfl | (simp; done) | (simp [*]; done), by repeat (first | exact Drawn0.refl _ | apply Drawn0.step)⟩
 ·rw [if_neg c2] at H; have c2b0 : decide (48 ≤ a0) = false := decide_eq_false c2; clear c2; obtain rfl := Option.some.inj H
  go_enter Tryz.func48, Tryz.ntmps48
  go_wp2
  go_ret
  exact ⟨by first | rfl | (simp; done) | (simp [*]; done), by repeat (first | exact Drawn0.refl _ | apply Drawn0.step)⟩

end Go.Proofs.YtdblkmnbkpphjaaGreatDoor.P
namespace Go.Proofs.YtdblkmnbkpphjaaGreatDoor.P
open Go.RowKit Go.Proofs.YtdblkmnbkpphjaaGreatDoorW.PrintWords Go.Proofs.YtdblkmnbkpphjaaGreatDoorW.PrintLast Go.Proofs.YtdblkmnbkpphjaaGreatDoorW.PrintMore Go.Proofs.YtdblkmnbkpphjaaGreatDoorW.PrintAuto
attribute [local go_sem] max2_int min2_int max_two min_two max_three min_three max_four min_four   -- for this text's walks alone
set_option linter.unusedVariables false
set_option linter.unusedSimpArgs false

mutual
def garmentref27_id.j0 : Nat → ByteArray → Bool → Option (Bool)
 | 0, _, _ => none
 | k + 1, x0, x16 => if x16 = true then (some false) else (garmentref27_id.l0 k x0 1)
def garmentref27_id.l0 : Nat → ByteArray → Int → Option (Bool)
 | 0, _, _ => none
 | k + 1, x0, x3 => if x3 < (x0.size : Int) then (if 0 ≤ x3 then ((garmentref27_capital.f (bt x0 x3)).bind fun t122 => (if t122 = true then (garmentref27_id.j2 k x0 x3 false) else ((garmentref27_digit.f (bt x0 x3)).bind fun t123 => (if t123 = true then (garmentref27_id.j2 k x0 x3 false) else (if (bt x0 x3) ≥ 97 then (garmentref27_id.j2 k x0 x3 (!(decide ((bt x0 x3) ≤ 122)))) else (garmentref27_id.j2 k x0 x3 (!false))))))) else (none)) else (some true)
def garmentref27_id.j2 : Nat → ByteArray → Int → Bool → Option (Bool)
 | 0, _, _, _ => none
 | k + 1, x0, x3, x47 => if x47 = true then (some false) else (garmentref27_id.l0 k x0 (wrap64 (x3 + 1)))
end
def garmentref27_id.f (k : Nat) (a0 : ByteArray) : Option (Bool) := if a0.toList = ([] : List UInt8) then (garmentref27_id.j0 k a0 true) else (if (a0.size : Int) > 8 then (garmentref27_id.j0 k a0 true) else (if 0 < (a0.size : Int) then ((garmentref27_capital.f (bt a0 0)).bind fun t121 => (garmentref27_id.j0 k a0 (!t121))) else (none)))
theorem garmentref27_id.mono_l : ∀ k, (∀ y0 y1, LeO (garmentref27_id.j0 k y0 y1) (garmentref27_id.j0 (k + 1) y0 y1)) ∧ (∀ y0 y1, LeO (garmentref27_id.l0 k y0 y1) (garmentref27_id.l0 (k + 1) y0 y1)) ∧ (∀ y0 y1 y2, LeO (garmentref27_id.j2 k y0 y1 y2) (garmentref27_id.j2 (k + 1) y0 y1 y2))
 | 0 => ⟨fun _ _ r h => by simp [garmentref27_id.j0] at h, fun _ _ r h => by simp [garmentref27_id.l0] at h, fun _ _ _ r h => by simp [garmentref27_id.j2] at h⟩
 | k + 1 => by
  obtain ⟨ih0, ih1, ih2⟩ := garmentref27_id.mono_l k
  refine ⟨?_, ?_, ?_⟩
  ·intro y0 y1
   unfold garmentref27_id.j0
   repeat' first
   | (with_reducible exact ih0 _ _)
   | (with_reducible exact ih1 _ _)
   | (with_reducible exact ih2 _ _ _)
   | (with_reducible exact LeO.refl _)
   | (with_reducible exact LeO.none _)
   | (with_reducible refine LeO.ite ?_ ?_)
   | (with_reducible refine LeO.bind ?_ (fun _ => ?_))
   | exact ih0 _ _
   | exact ih1 _ _
   | exact ih2 _ _ _
   | exact LeO.none _
   | refine LeO.ite ?_ ?_
   | refine LeO.bind ?_ (fun _ => ?_)
  ·intro y0 y1
   unfold garmentref27_id.l0
   repeat' first
   | (with_reducible exact ih0 _ _)
   | (with_reducible exact ih1 _ _)
   | (with_reducible exact ih2 _ _ _)
   | (with_reducible exact LeO.refl _)
   | (with_reducible exact LeO.none _)
   | (with_reducible refine LeO.ite ?_ ?_)
   | (with_reducible refine LeO.bind ?_ (fun _ => ?_))
   | exact ih0 _ _
   | exact ih1 _ _
   | exact ih2 _ _ _
   | exact LeO.none _
   | refine LeO.ite ?_ ?_
   | refine LeO.bind ?_ (fun _ => ?_)
  ·intro y0 y1 y2
   unfold garmentref27_id.j2
   repeat' first
   | (with_reducible exact ih0 _ _)
   | (with_reducible exact ih1 _ _)
   | (with_reducible exact ih2 _ _ _)
   | (with_reducible exact LeO.refl _)
   | (with_reducible exact LeO.none _)
   | (with_reducible refine LeO.ite ?_ ?_)
   | (with_reducible refine LeO.bind ?_ (fun _ => ?_))
   | exact ih0 _ _
   | exact ih1 _ _
   | exact ih2 _ _ _
   | exact LeO.none _
   | refine LeO.ite ?_ ?_
   | refine LeO.bind ?_ (fun _ => ?_)
theorem garmentref27_id.mono : ∀ a0 k, LeO (garmentref27_id.f k a0) (garmentref27_id.f (k + 1) a0) := by
 intro a0 k; obtain ⟨ih0, ih1, ih2⟩ := garmentref27_id.mono_l k
 unfold garmentref27_id.f
 repeat' first
  | (with_reducible exact ih0 _ _)
  | (with_reducible exact ih1 _ _)
  | (with_reducible exact ih2 _ _ _)
  | (with_reducible exact LeO.refl _)
  | (with_reducible exact LeO.none _)
  | (with_reducible refine LeO.ite ?_ ?_)
  | (with_reducible refine LeO.bind ?_ (fun _ => ?_))
  | exact ih0 _ _
  | exact ih1 _ _
  | exact ih2 _ _ _
  | exact LeO.none _
  | refine LeO.ite ?_ ?_
  | refine LeO.bind ?_ (fun _ => ?_)
set_option maxHeartbeats 8000000 in
set_option maxRecDepth 100000 in
theorem garmentref27_id.calls (k : Nat) (a0 : ByteArray) (r : Bool) (w : World) (h : garmentref27_id.f k a0 = some r) :
  Calls Tryz.prog 27 #[.string a0] w fun e w' => e = .returned (.bool r) ∧ Drawn0 w w' := by
 have H : (if a0.toList = ([] : List UInt8) then (garmentref27_id.j0 k a0 true) else (if (a0.size : Int) > 8 then (garmentref27_id.j0 k a0 true) else (if 0 < (a0.size : Int) then ((garmentref27_capital.f (bt a0 0)).bind fun t121 => (garmentref27_id.j0 k a0 (!t121))) else (none)))) = some r := h; clear h; have HC2 := Aside0.mk H; clear H
 go_enter Tryz.func27, Tryz.ntmps27
 go_upto_region 1 with (fail)
 go_cut [16] (fun v16 wc => ∃ (kq : Nat) (x16_1 : Bool), v16 = .bool x16_1 ∧ Aside0 (garmentref27_id.j0 kq a0 x16_1 = some r) ∧ Aside0 (kq ≤ k) ∧ Drawn0 w wc)
 case first =>
  have H := HC2.out; clear HC2
  by_cases c3 : a0.toList = ([] : List UInt8)
  ·rw [if_pos c3] at H; have c3b0 : (a0.toList == ([] : List UInt8)) = true := beq_iff_eq.mpr c3; have c3b1 : (a0.toList != ([] : List UInt8)) = false := bne_eq_false_iff_eq.mpr c3; clear c3
   (first | rw [c3b0] | (simp only [i64_w, i32_w]; rw [c3b0]) | skip)
   have H' := Aside0.mk H; clear H
   go_wp2
   go_meet
   case rel => exact ⟨_, (true), (by first | rfl | (simp; done) | (simp [*]; done)), H', ⟨by first | omega | exact Nat.le_refl _⟩, by repeat (first | exact Drawn0.refl _ | apply Drawn0.step)⟩
  ·rw [if_neg c3] at H; have c3b0 : (a0.toList == ([] : List UInt8)) = false := beq_eq_false_iff_ne.mpr c3; have c3b1 : (a0.toList != ([] : List UInt8)) = true := bne_iff_ne.mpr c3
   (first | rw [c3b0] | (simp only [i64_w, i32_w]; rw [c3b0]) | skip)
   by_cases c4 : (a0.size : Int) > 8
   ·rw [if_pos c4] at H; have c4b0 : decide (8 < (a0.size : Int)) = true := decide_eq_true c4; have c4b1 : decide (8 < a0.size) = true := decide_eq_true (by omega); clear c4; have H' := Aside0.mk H; clear H
    go_wp2
    go_meet
    case rel => exact ⟨_, (true), (by first | rfl | (simp; done) | (simp [*]; done)), H', ⟨by first | omega | exact Nat.le_refl _⟩, by repeat (first | exact Drawn0.refl _ | apply Drawn0.step)⟩
   ·rw [if_neg c4] at H; have c4b0 : decide (8 < (a0.size : Int)) = false := decide_eq_false c4; have c4b1 : decide (8 < a0.size) = false := decide_eq_false (by omega); clear c4
    by_cases c5 : 0 < (a0.size : Int)
    ·rw [if_pos c5] at H; have c5b0 : decide (0 < (a0.size : Int)) = true := decide_eq_true c5; have c5b1 : decide (0 < a0.size) = true := decide_eq_true (by omega); clear c5; replace H := Option.bind_eq_some_iff.mp H; obtain ⟨t121, A70, H⟩ := H; replace H : (garmentref27_id.j0 k a0 (!t121)) = some r := H; have A7 := Aside0.mk A70; clear A70; have H' := Aside0.mk H; clear H; have p6 : 0 ≤ (0 : Int) := (by omega); have q6 : 0 < a0.size := (by have : (0 : Int) < (a0.size : Int) := oda; omega); have hx6 : ∀ h : 0 < a0.size, ((a0[0]'h).toNat : Int) = bt a0 0 := bt_at a0 0; clear p6; have qi6 : (0 < (a0.size : Int)) = True := eq_true (oda); replace q6 := eq_true q6
     go_wp2_with (first | (go_at_call 47; (with_reducible refine (garmentref27_capital.calls (bt a0 0) t121 _ A7.out).mono ?_); rintro e w' ⟨rfl, ⟨nd, rfl⟩⟩))
     go_meet
     case rel => exact ⟨_, (!t121), (by first | rfl | (simp; done) | (simp [*]; done)), H', ⟨by first | omega | exact Nat.le_refl _⟩, by repeat (first | exact Drawn0.refl _ | apply Drawn0.step)⟩
    ·rw [if_neg c5] at H; exact absurd H (by simp)
 case rest =>
  clear HC2
  try clear c2
  try clear p2
  try clear c3
  try clear c3b0
  try clear c3b1
  try clear c4
  try clear c4b0
  try clear c4b1
  try clear c5
  try clear c5b0
  try clear c5b1
  try clear p6
  try clear q6
  try clear hx6
  try clear qi6
  try clear p6
  try clear q6
  obtain ⟨kq, x16_1, rfl, HA, HJ1, ⟨mc1, rfl⟩⟩ := hcut
  cases kq with
  | zero => exact absurd HA.out (by simp [garmentref27_id.j0])
  | succ kj1 =>
   have H := HA.out; clear HA; simp only [garmentref27_id.j0] at H
   by_cases c8 : x16_1 = true
   ·subst c8
    have H1 : (some false) = some r := by rw [if_pos rfl] at H; exact H
    clear H; have H := H1; clear H1; obtain rfl := Option.some.inj H
    go_wp2
    go_ret
    exact ⟨by first | rfl | (simp; done) | (simp [*]; done), by repeat (first | exact Drawn0.refl _ | apply Drawn0.step)⟩
   ·replace c8 := Bool.eq_false_iff.mpr c8; subst c8
    have H1 : (garmentref27_id.l0 kj1 a0 1) = some r := by rw [if_neg (show ¬ (false = true) by decide)] at H; exact H
    clear H; have H := H1; clear H1; have H' := Aside0.mk H; clear H
    go_wp2
    go_loopg [3] kj1 (fun kq v3 w' => ∃ (x3_2 : Int), v3 = .int .i64 x3_2 ∧ Aside0 (garmentref27_id.l0 kq a0 x3_2 = some r) ∧ Aside0 (kq ≤ kj1) ∧ Drawn0 w w')
    case atStart => exact ⟨(1), (by first | rfl | (simp; done) | (simp [*]; done)), H', ⟨Nat.le_refl _⟩, by repeat (first | exact Drawn0.refl _ | apply Drawn0.step)⟩
    case round =>
     clear H'
     try clear c1
     try clear c2
     try clear p2
     try clear c3
     try clear c3b0
     try clear c3b1
     try clear c4
     try clear c4b0
     try clear c4b1
     try clear c5
     try clear c5b0
     try clear c5b1
     try clear p6
     try clear q6
     try clear hx6
     try clear qi6
     try clear c8
     try clear p2
     try clear p6
     try clear q6
     obtain ⟨x3_2, rfl, HA, HK2, ⟨m2, rfl⟩⟩ := hrel
     cases gk with
     | zero => exact absurd HA.out (by simp [garmentref27_id.l0])
     | succ k2 =>
      have H := HA.out; clear HA; simp only [garmentref27_id.l0] at H
      by_cases c9 : x3_2 < (a0.size : Int)
      ·rw [if_pos c9] at H; have c9b0 : decide (x3_2 < (a0.size : Int)) = true := decide_eq_true c9; clear c9; have HC10 := Aside0.mk H; clear H
       go_upto_region 6 with (fail)
       go_cut [47] (fun v47 wc => ∃ (kq : Nat) (x47_9 : Bool), v47 = .bool x47_9 ∧ Aside0 (garmentref27_id.j2 kq a0 x3_2 x47_9 = some r) ∧ Aside0 (kq ≤ k2) ∧ Drawn0 w wc)
       case first =>
        have H := HC10.out; clear HC10
        by_cases c11 : 0 ≤ x3_2
        ·rw [if_pos c11] at H; have c11b0 : decide (0 ≤ x3_2) = true := decide_eq_true c11; clear c11
         (first | rw [c11b0] | (simp only [i64_w, i32_w]; rw [c11b0]) | skip)
         replace H := Option.bind_eq_some_iff.mp H; obtain ⟨t122, A130, H⟩ := H; replace H : (if t122 = true then (garmentref27_id.j2 k2 a0 x3_2 false) else ((garmentref27_digit.f (bt a0 x3_2)).bind fun t123 => (if t123 = true then (garmentref27_id.j2 k2 a0 x3_2 false) else (if (bt a0 x3_2) ≥ 97 then (garmentref27_id.j2 k2 a0 x3_2 (!(decide ((bt a0 x3_2) ≤ 122)))) else (garmentref27_id.j2 k2 a0 x3_2 (!false)))))) = some r := H; have A13 := Aside0.mk A130; clear A130
         by_cases c14 : t122 = true
         ·subst c14
          have H1 : (garmentref27_id.j2 k2 a0 x3_2 false) = some r := by rw [if_pos rfl] at H; exact H
          clear H; have H := H1; clear H1; have H' := Aside0.mk H; clear H; have p12 : 0 ≤ (x3_2 : Int) := oda; have q12 : x3_2 < (a0.size : Int) := oda; have hx12 := bt_at a0 x3_2; replace p12 := eq_true p12; replace q12 := eq_true q12
          go_wp2_with (first | ((with_reducible refine gate_callee (f := 47) rfl ?_); refine goesA (some 26) rfl rfl Tryz.func47 (by kernel_rfl) rfl #[.int .u8 (bt a0 x3_2)] rfl ?_; (with_reducible refine (garmentref27_capital.calls (bt a0 x3_2) true _ A13.out).mono ?_); rintro e w' ⟨rfl, ⟨nd, rfl⟩⟩; refine ⟨_, rfl, ?_⟩))
          go_meet
          case rel => exact ⟨_, (false), (by first | rfl | (simp; done) | (simp [*]; done)), H', ⟨by have := HJ1.out; have := HK2.out; first | omega | exact Nat.le_refl _⟩, by repeat (first | exact Drawn0.refl _ | apply Drawn0.step)⟩
         ·replace c14 := Bool.eq_false_iff.mpr c14; subst c14
          have H1 : ((garmentref27_digit.f (bt a0 x3_2)).bind fun t123 => (if t123 = true then (garmentref27_id.j2 k2 a0 x3_2 false) else (if (bt a0 x3_2) ≥ 97 then (garmentref27_id.j2 k2 a0 x3_2 (!(decide ((bt a0 x3_2) ≤ 122)))) else (garmentref27_id.j2 k2 a0 x3_2 (!false))))) = some r := by rw [if_neg (show ¬ (false = true) by decide)] at H; exact H
          clear H; have H := H1; clear H1; replace H := Option.bind_eq_some_iff.mp H; obtain ⟨t123, A160, H⟩ := H; replace H : (if t123 = true then (garmentref27_id.j2 k2 a0 x3_2 false) else (if (bt a0 x3_2) ≥ 97 then (garmentref27_id.j2 k2 a0 x3_2 (!(decide ((bt a0 x3_2) ≤ 122)))) else (garmentref27_id.j2 k2 a0 x3_2 (!false)))) = some r := H; have A16 := Aside0.mk A160; clear A160
          by_cases c17 : t123 = true
          ·subst c17
           have H1 : (garmentref27_id.j2 k2 a0 x3_2 false) = some r := by rw [if_pos rfl] at H; exact H
           clear H; have H := H1; clear H1; have H' := Aside0.mk H; clear H; have p12 : 0 ≤ (x3_2 : Int) := oda; have q12 : x3_2 < (a0.size : Int) := oda; have hx12 := bt_at a0 x3_2; replace p12 := eq_true p12; replace q12 := eq_true q12
           go_wp2_with (first | ((with_reducible refine gate_callee (f := 47) rfl ?_); refine goesA (some 26) rfl rfl Tryz.func47 (by kernel_rfl) rfl #[.int .u8 (bt a0 x3_2)] rfl ?_; (with_reducible refine (garmentref27_capital.calls (bt a0 x3_2) false _ A13.out).mono ?_); rintro e w' ⟨rfl, ⟨nd, rfl⟩⟩; refine ⟨_, rfl, ?_⟩; have p15 : 0 ≤ (x3_2 : Int) := oda; have q15 : x3_2 < (a0.size : Int) := oda; have hx15 := bt_at a0 x3_2; replace p15 := eq_true p15; replace q15 := eq_true q15) | (go_at_call 48; (with_reducible refine (garmentref27_digit.calls (bt a0 x3_2) true _ A16.out).mono ?_); rintro e w' ⟨rfl, ⟨nd, rfl⟩⟩))
           go_meet
           case rel => exact ⟨_, (false), (by first | rfl | (simp; done) | (simp [*]; done)), H', ⟨by have := HJ1.out; have := HK2.out; first | omega | exact Nat.le_refl _⟩, by repeat (first | exact Drawn0.refl _ | apply Drawn0.step)⟩
          ·replace c17 := Bool.eq_false_iff.mpr c17; subst c17
           have H1 : (if (bt a0 x3_2) ≥ 97 then (garmentref27_id.j2 k2 a0 x3_2 (!(decide ((bt a0 x3_2) ≤ 122)))) else (garmentref27_id.j2 k2 a0 x3_2 (!false))) = some r := by rw [if_neg (show ¬ (false = true) by decide)] at H; exact H
           clear H; have H := H1; clear H1
           by_cases c19 : (bt a0 x3_2) ≥ 97
           ·rw [if_pos c19] at H; have c19b0 : decide (97 ≤ (bt a0 x3_2)) = true := decide_eq_true c19; clear c19; have H' := Aside0.mk H; clear H; have p12 : 0 ≤ (x3_2 : Int) := oda; have q12 : x3_2 < (a0.size : Int) := oda; have hx12 := bt_at a0 x3_2; replace p12 := eq_true p12; replace q12 := eq_true q12
            go_wp2_with (first | ((with_reducible refine gate_callee (f := 47) rfl ?_); refine goesA (some 26) rfl rfl Tryz.func47 (by kernel_rfl) rfl #[.int .u8 (bt a0 x3_2)] rfl ?_; (with_reducible refine (garmentref27_capital.calls (bt a0 x3_2) false _ A13.out).mono ?_); rintro e w' ⟨rfl, ⟨nd, rfl⟩⟩; refine ⟨_, rfl, ?_⟩; have p15 : 0 ≤ (x3_2 : Int) := oda; have q15 : x3_2 < (a0.size : Int) := oda; have hx15 := bt_at a0 x3_2; replace p15 := eq_true p15; replace q15 := eq_true q15) | (go_at_call 48; (with_reducible refine (garmentref27_digit.calls (bt a0 x3_2) false _ A16.out).mono ?_); rintro e w' ⟨rfl, ⟨nd, rfl⟩⟩; have p18 : 0 ≤ (x3_2 : Int) := oda; have q18 : x3_2 < (a0.size : Int) := oda; have hx18 := bt_at a0 x3_2; replace p18 := eq_true p18; replace q18 := eq_true q18; have p20 : 0 ≤ (x3_2 : Int) := oda; have q20 : x3_2 < (a0.size : Int) := oda; have hx20 := bt_at a0 x3_2; replace p20 := eq_true p20; replace q20 := eq_true q20))
            go_meet
            case rel => exact ⟨_, (!(decide ((bt a0 x3_2) ≤ 122))), (by first | rfl | (simp; done) | (simp [*]; done)), H', ⟨by have := HJ1.out; have := HK2.out; first | omega | exact Nat.le_refl _⟩, by repeat (first | exact Drawn0.refl _ | apply Drawn0.step)⟩
           ·rw [if_neg c19] at H; have c19b0 : decide (97 ≤ (bt a0 x3_2)) = false := decide_eq_false c19; clear c19; have H' := Aside0.mk H; clear H; have p12 : 0 ≤ (x3_2 : Int) := oda; have q12 : x3_2 < (a0.size : Int) := oda; have hx12 := bt_at a0 x3_2; replace p12 := eq_true p12; replace q12 := eq_true q12
            go_wp2_with (first | ((with_reducible refine gate_callee (f := 47) rfl ?_); refine goesA (some 26) rfl rfl Tryz.func47 (by kernel_rfl) rfl #[.int .u8 (bt a0 x3_2)] rfl ?_; (with_reducible refine (garmentref27_capital.calls (bt a0 x3_2) false _ A13.out).mono ?_); rintro e w' ⟨rfl, ⟨nd, rfl⟩⟩; refine ⟨_, rfl, ?_⟩; have p15 : 0 ≤ (x3_2 : Int) := oda; have q15 : x3_2 < (a0.size : Int) := oda; have hx15 := bt_at a0 x3_2; replace p15 := eq_true p15; replace q15 := eq_true q15) | (go_at_call 48; (with_reducible refine (garmentref27_digit.calls (bt a0 x3_2) false _ A16.out).mono ?_); rintro e w' ⟨rfl, ⟨nd, rfl⟩⟩; have p18 : 0 ≤ (x3_2 : Int) := oda; have q18 : x3_2 < (a0.size : Int) := oda; have hx18 := bt_at a0 x3_2; replace p18 := eq_true p18; replace q18 := eq_true q18))
            go_meet
            case rel => exact ⟨_, (!false), (by first | rfl | (simp; done) | (simp [*]; done)), H', ⟨by have := HJ1.out; have := HK2.out; first | omega | exact Nat.le_refl _⟩, by repeat (first | exact Drawn0.refl _ | apply Drawn0.step)⟩
        ·rw [if_neg c11] at H; exact absurd H (by simp)
       case rest =>
        clear HC10
        try clear c1
        try clear p1
        try clear q1
        try clear hx1
        try clear c2
        try clear p2
        try clear q2
        try clear hx2
        try clear c3
        try clear c3b0
        try clear c3b1
        try clear c4
        try clear c4b0
        try clear c4b1
        try clear c5
        try clear c5b0
        try clear c5b1
        try clear p6
        try clear q6
        try clear hx6
        try clear qi6
        try clear c8
        try clear c9
        try clear c9b0
        try clear c11
        try clear c11b0
        try clear p12
        try clear q12
        try clear hx12
        try clear c14
        try clear p15
        try clear q15
        try clear hx15
        try clear c17
        try clear p18
        try clear q18
        try clear hx18
        try clear c19
        try clear c19b0
        try clear p20
        try clear q20
        try clear hx20
        try clear p12
        try clear p15
        try clear p18
        try clear p2
        try clear p20
        try clear p6
        try clear q12
        try clear q15
        try clear q18
        try clear q20
        try clear q6
        obtain ⟨kq, x47_9, rfl, HA, HJ9, ⟨mc9, rfl⟩⟩ := hcut
        cases kq with
        | zero => exact absurd HA.out (by simp [garmentref27_id.j2])
        | succ kj9 =>
         have H := HA.out; clear HA; simp only [garmentref27_id.j2] at H
         by_cases c21 : x47_9 = true
         ·subst c21
          have H1 : (some false) = some r := by rw [if_pos rfl] at H; exact H
          clear H; have H := H1; clear H1; obtain rfl := Option.some.inj H
          go_wp2
          go_ret
          exact ⟨by first | rfl | (simp; done) | (simp [*]; done), by repeat (first | exact Drawn0.refl _ | apply Drawn0.step)⟩
         ·replace c21 := Bool.eq_false_iff.mpr c21; subst c21
          have H1 : (garmentref27_id.l0 kj9 a0 (wrap64 (x3_2 + 1))) = some r := by rw [if_neg (show ¬ (false = true) by decide)] at H; exact H
          clear H; have H := H1; clear H1; have H' := Aside0.mk H; clear H
          go_wp2
          go_roundg kj9
          case measure => have := HJ1.out; have := HK2.out; have := HJ9.out; omega
          case rel => exact ⟨(wrap64 (x3_2 + 1)), (by first | rfl | (simp; done) | (simp [*]; done)), H', ⟨by have := HJ1.out; have := HK2.out; have := HJ9.out; omega⟩, by repeat (first | exact Drawn0.refl _ | apply Drawn0.step)⟩
      ·rw [if_neg c9] at H; have c9b0 : decide (x3_2 < (a0.size : Int)) = false := decide_eq_false c9; clear c9; obtain rfl := Option.some.inj H
       go_wp2
       go_ret
       exact ⟨by first | rfl | (simp; done) | (simp [*]; done), by repeat (first | exact Drawn0.refl _ | apply Drawn0.step)⟩

end Go.Proofs.YtdblkmnbkpphjaaGreatDoor.P
namespace Go.Proofs.YtdblkmnbkpphjaaGreatDoor.P
open Go.RowKit Go.Proofs.YtdblkmnbkpphjaaGreatDoorW.PrintWords Go.Proofs.YtdblkmnbkpphjaaGreatDoorW.PrintLast Go.Proofs.YtdblkmnbkpphjaaGreatDoorW.PrintMore Go.Proofs.YtdblkmnbkpphjaaGreatDoorW.PrintAuto
attribute [local go_sem] max2_int min2_int max_two min_two max_three min_three max_four min_four   -- for this text's walks alone
set_option linter.unusedVariables false
set_option linter.unusedSimpArgs false

def garmentref27_in.f (a0 : Int) (a1 : Int) (a2 : Int) : Option (Bool) := if a0 ≥ a1 then (some (decide (a0 ≤ a2))) else (some false)
set_option maxHeartbeats 8000000 in
set_option maxRecDepth 100000 in
theorem garmentref27_in.calls (a0 : Int) (a1 : Int) (a2 : Int) (r : Bool) (w : World) (h : garmentref27_in.f a0 a1 a2 = some r) :
  Calls Tryz.prog 28 #[.int .i64 a0, .int .i64 a1, .int .i64 a2] w fun e w' => e = .returned (.bool r) ∧ Drawn0 w w' := by
 have H : (if a0 ≥ a1 then (some (decide (a0 ≤ a2))) else (some false)) = some r := h; clear h
 by_cases c4 : a0 ≥ a1
 ·rw [if_pos c4] at H; have c4b0 : decide (a1 ≤ a0) = true := decide_eq_true c4; clear c4; obtain rfl := Option.some.inj H
  go_enter Tryz.func28, Tryz.ntmps28
  go_wp2
  go_ret
  exact ⟨by first | rfl | (simp; done) | (simp [*]; done), by repeat (first | exact Drawn0.refl _ | apply Drawn0.step)⟩
 ·rw [if_neg c4] at H; have c4b0 : decide (a1 ≤ a0) = false := decide_eq_false c4; clear c4; obtain rfl := Option.some.inj H
  go_enter Tryz.func28, Tryz.ntmps28
  go_wp2
  go_ret
  exact ⟨by first | rfl | (simp; done) | (simp [*]; done), by repeat (first | exact Drawn0.refl _ | apply Drawn0.step)⟩

end Go.Proofs.YtdblkmnbkpphjaaGreatDoor.P
namespace Go.Proofs.YtdblkmnbkpphjaaGreatDoor.P
open Go.RowKit Go.Proofs.YtdblkmnbkpphjaaGreatDoorW.PrintWords Go.Proofs.YtdblkmnbkpphjaaGreatDoorW.PrintLast Go.Proofs.YtdblkmnbkpphjaaGreatDoorW.PrintMore Go.Proofs.YtdblkmnbkpphjaaGreatDoorW.PrintAuto
attribute [local go_sem] max2_int min2_int max_two min_two max_three min_three max_four min_four   -- for this text's walks alone
set_option linter.unusedVariables false
set_option linter.unusedSimpArgs false

def garmentref27_fits.f (a0_0 : Int) (a0_1 : Int) (a0_2 : Int) (a0_3 : Int) (a1_0 : ByteArray) (a1_1 : Int) (a1_2 : Int) (a1_3 : Int) (a1_4 : Int) (a1_5 : Int) (l1_6 : List (S46)) : Option (Bool) := (garmentref27_in.f a0_0 0 a1_2).bind fun t126 => (if t126 = true then ((garmentref27_in.f a0_1 0 a1_1).bind fun t127 => (if t127 = true then ((garmentref27_in.f a0_2 1 (wrap64 (a1_2 - a0_0))).bind fun t128 => (if t128 = true then ((garmentref27_in.f a0_3 1 (wrap64 (a1_1 - a0_1))).bind fun t129 => (some t129)) else (some false))) else (some false))) else (some false))
set_option maxHeartbeats 8000000 in
set_option maxRecDepth 100000 in
theorem garmentref27_fits.calls (a0_0 : Int) (a0_1 : Int) (a0_2 : Int) (a0_3 : Int) (a1_0 : ByteArray) (a1_1 : Int) (a1_2 : Int) (a1_3 : Int) (a1_4 : Int) (a1_5 : Int) (A1_6 : Option Addr) (c1_6 : Nat) (l1_6 : List (S46)) (r : Bool) (w : World) (hr1_6 : Kd.C k46 w A1_6 l1_6.length l1_6) (hc1_6 : l1_6.length ≤ c1_6) (h : garmentref27_fits.f a0_0 a0_1 a0_2 a0_3 a1_0 a1_1 a1_2 a1_3 a1_4 a1_5 l1_6 = some r) :
  Calls Tryz.prog 29 #[.agg #[.int .i64 a0_0, .int .i64 a0_1, .int .i64 a0_2, .int .i64 a0_3], .agg #[.string a1_0, .int .i64 a1_1, .int .i64 a1_2, .int .i64 a1_3, .int .i64 a1_4, .int .i64 a1_5, .slice A1_6 l1_6.length c1_6]] w fun e w' => e = .returned (.bool r) ∧ Below w.heap.size w w' := by
 have hu46 := Tryz.underlying46; have hu26 := Tryz.underlying26; have HR1_6 := Aside0.mk hr1_6; have HC1_6 := Aside0.mk hc1_6; clear hr1_6 hc1_6; have HB := Aside0.mk (Below.refl w.heap.size w); have H : ((garmentref27_in.f a0_0 0 a1_2).bind fun t126 => (if t126 = true then ((garmentref27_in.f a0_1 0 a1_1).bind fun t127 => (if t127 = true then ((garmentref27_in.f a0_2 1 (wrap64 (a1_2 - a0_0))).bind fun t128 => (if t128 = true then ((garmentref27_in.f a0_3 1 (wrap64 (a1_1 - a0_1))).bind fun t129 => (some t129)) else (some false))) else (some false))) else (some false))) = some r := h; clear h; replace H := Option.bind_eq_some_iff.mp H; obtain ⟨t126, A30, H⟩ := H; replace H : (if t126 = true then ((garmentref27_in.f a0_1 0 a1_1).bind fun t127 => (if t127 = true then ((garmentref27_in.f a0_2 1 (wrap64 (a1_2 - a0_0))).bind fun t128 => (if t128 = true then ((garmentref27_in.f a0_3 1 (wrap64 (a1_1 - a0_1))).bind fun t129 => (some t129)) else (some false))) else (some false))) else (some false)) = some r := H; have A3 := Aside0.mk A30; clear A30
 by_cases c4 : t126 = true
 ·subst c4
  have H1 : ((garmentref27_in.f a0_1 0 a1_1).bind fun t127 => (if t127 = true then ((garmentref27_in.f a0_2 1 (wrap64 (a1_2 - a0_0))).bind fun t128 => (if t128 = true then ((garmentref27_in.f a0_3 1 (wrap64 (a1_1 - a0_1))).bind fun t129 => (some t129)) else (some false))) else (some false))) = some r := by rw [if_pos rfl] at H; exact H
  clear H; have H := H1; clear H1; replace H := Option.bind_eq_some_iff.mp H; obtain ⟨t127, A50, H⟩ := H; replace H : (if t127 = true then ((garmentref27_in.f a0_2 1 (wrap64 (a1_2 - a0_0))).bind fun t128 => (if t128 = true then ((garmentref27_in.f a0_3 1 (wrap64 (a1_1 - a0_1))).bind fun t129 => (some t129)) else (some false))) else (some false)) = some r := H; have A5 := Aside0.mk A50; clear A50
  by_cases c6 : t127 = true
  ·subst c6
   have H1 : ((garmentref27_in.f a0_2 1 (wrap64 (a1_2 - a0_0))).bind fun t128 => (if t128 = true then ((garmentref27_in.f a0_3 1 (wrap64 (a1_1 - a0_1))).bind fun t129 => (some t129)) else (some false))) = some r := by rw [if_pos rfl] at H; exact H
   clear H; have H := H1; clear H1; replace H := Option.bind_eq_some_iff.mp H; obtain ⟨t128, A70, H⟩ := H; replace H : (if t128 = true then ((garmentref27_in.f a0_3 1 (wrap64 (a1_1 - a0_1))).bind fun t129 => (some t129)) else (some false)) = some r := H; have A7 := Aside0.mk A70; clear A70
   by_cases c8 : t128 = true
   ·subst c8
    have H1 : ((garmentref27_in.f a0_3 1 (wrap64 (a1_1 - a0_1))).bind fun t129 => (some t129)) = some r := by rw [if_pos rfl] at H; exact H
    clear H; have H := H1; clear H1; replace H := Option.bind_eq_some_iff.mp H; obtain ⟨t129, A90, H⟩ := H; replace H : (some t129) = some r := H; have A9 := Aside0.mk A90; clear A90; obtain rfl := Option.some.inj H
    go_enter Tryz.func29, Tryz.ntmps29
    go_wp2_with (first | ((with_reducible refine gate_dst (N := 2) rfl ?_); refine box_event ?hg (N := 2) ?hd (cs := #[.int .i64 a0_0, .int .i64 a0_1, .int .i64 a0_2, .int .i64 a0_3]) (t := 46) ?hr ?_; (case hd => rfl); (case hg => rfl); (case hr => first | (go_simp; done) | (go_simp; rfl)); intro gb124 hg w10 hbox hb; have BK124 := Aside0.mk (hbox); have GW124 := Aside0.mk ((by rw [hg]; exact (below_size (be HB.out)) : w.heap.size ≤ gb124)); have GE124 := Aside0.mk ((by rw [hg]; exact (below_size (be HB.out)) : w.heap.size ≤ gb124)); replace HB := Aside0.mk (below_step (be HB.out) hb); clear hb hbox hg) | ((with_reducible refine gate_dst (N := 3) rfl ?_); refine box_event ?hg (N := 3) ?hd (cs := #[.string a1_0, .int .i64 a1_1, .int .i64 a1_2, .int .i64 a1_3, .int .i64 a1_4, .int .i64 a1_5, .slice A1_6 l1_6.length c1_6]) (t := 26) ?hr ?_; (case hd => rfl); (case hg => rfl); (case hr => first | (go_simp; done) | (go_simp; rfl)); intro gb125 hg w11 hbox hb; have BK125 := Aside0.mk (hbox); have GW125 := Aside0.mk ((by rw [hg]; exact (below_size (be HB.out)) : w.heap.size ≤ gb125)); have GE125 := Aside0.mk ((by rw [hg]; exact (below_size (be HB.out)) : w.heap.size ≤ gb125)); have NB124_125 := Aside0.mk ((by rw [hg]; exact Nat.ne_of_lt (blk_lt (g := gb124) (o := .cells #[.int .i64 a0_0, .int .i64 a0_1, .int .i64 a0_2, .int .i64 a0_3] 46 (0, 0)) (bu BK124.out)) : gb124 ≠ gb125)); have NB125_124 := Aside0.mk ((by rw [hg]; exact Nat.ne_of_gt (blk_lt (g := gb124) (o := .cells #[.int .i64 a0_0, .int .i64 a0_1, .int .i64 a0_2, .int .i64 a0_3] 46 (0, 0)) (bu BK124.out)) : gb125 ≠ gb124)); replace BK124 := Aside0.mk (blk_below (bu BK124.out) hb); replace HB := Aside0.mk (below_step (be HB.out) hb); clear hb hbox hg; have hnb12 := NB124_125.out; have hnc12 := NB125_124.out; have hcz13_0 := bc BK124.out 0 (.int .i64 a0_0) rfl; have hcz13_1 := bc BK124.out 1 (.int .i64 a0_1) rfl; have hcz13_2 := bc BK124.out 2 (.int .i64 a0_2) rfl; have hcz13_3 := bc BK124.out 3 (.int .i64 a0_3) rfl; have hfz13_0 := blk_frozen BK124.out 0; have hfz13_1 := blk_frozen BK124.out 1; have hfz13_2 := blk_frozen BK124.out 2; have hfz13_3 := blk_frozen BK124.out 3; have hcz14_0 := bc BK125.out 0 (.string a1_0) rfl; have hcz14_1 := bc BK125.out 1 (.int .i64 a1_1) rfl; have hcz14_2 := bc BK125.out 2 (.int .i64 a1_2) rfl; have hcz14_3 := bc BK125.out 3 (.int .i64 a1_3) rfl; have hcz14_4 := bc BK125.out 4 (.int .i64 a1_4) rfl; have hcz14_5 := bc BK125.out 5 (.int .i64 a1_5) rfl; have hcz14_6 := bc BK125.out 6 (.slice A1_6 l1_6.length c1_6) rfl; have hfz14_0 := blk_frozen BK125.out 0; have hfz14_1 := blk_frozen BK125.out 1; have hfz14_2 := blk_frozen BK125.out 2; have hfz14_3 := blk_frozen BK125.out 3; have hfz14_4 := blk_frozen BK125.out 4; have hfz14_5 := blk_frozen BK125.out 5; have hfz14_6 := blk_frozen BK125.out 6) | ((with_reducible refine gate_callee (f := 28) rfl ?_); refine goesA (some 9) rfl rfl Tryz.func28 (by kernel_rfl) rfl #[.int .i64 a0_0, .int .i64 0, .int .i64 a1_2] rfl ?_; (with_reducible refine (garmentref27_in.calls a0_0 0 a1_2 true _ A3.out).mono ?_); rintro e w' ⟨rfl, ⟨nd, rfl⟩⟩; refine ⟨_, rfl, ?_⟩) | (go_at_call 28; (with_reducible refine (garmentref27_in.calls a0_1 0 a1_1 true _ A5.out).mono ?_); rintro e w' ⟨rfl, ⟨nd, rfl⟩⟩) | (go_at_call 28; (with_reducible refine (garmentref27_in.calls a0_2 1 (wrap64 (a1_2 - a0_0)) true _ A7.out).mono ?_); rintro e w' ⟨rfl, ⟨nd, rfl⟩⟩) | (go_at_call 28; (with_reducible refine (garmentref27_in.calls a0_3 1 (wrap64 (a1_1 - a0_1)) t129 _ A9.out).mono ?_); rintro e w' ⟨rfl, ⟨nd, rfl⟩⟩))
    go_ret
    exact ⟨by first | rfl | (simp [errW_none, errW_some] <;> rfl) | (simp [*, errW_none, errW_some] <;> rfl), be HB.out⟩
   ·replace c8 := Bool.eq_false_iff.mpr c8; subst c8
    have H1 : (some false) = some r := by rw [if_neg (show ¬ (false = true) by decide)] at H; exact H
    clear H; have H := H1; clear H1; obtain rfl := Option.some.inj H
    go_enter Tryz.func29, Tryz.ntmps29
    go_wp2_with (first | ((with_reducible refine gate_dst (N := 2) rfl ?_); refine box_event ?hg (N := 2) ?hd (cs := #[.int .i64 a0_0, .int .i64 a0_1, .int .i64 a0_2, .int .i64 a0_3]) (t := 46) ?hr ?_; (case hd => rfl); (case hg => rfl); (case hr => first | (go_simp; done) | (go_simp; rfl)); intro gb124 hg w15 hbox hb; have BK124 := Aside0.mk (hbox); have GW124 := Aside0.mk ((by rw [hg]; exact (below_size (be HB.out)) : w.heap.size ≤ gb124)); have GE124 := Aside0.mk ((by rw [hg]; exact (below_size (be HB.out)) : w.heap.size ≤ gb124)); replace HB := Aside0.mk (below_step (be HB.out) hb); clear hb hbox hg) | ((with_reducible refine gate_dst (N := 3) rfl ?_); refine box_event ?hg (N := 3) ?hd (cs := #[.string a1_0, .int .i64 a1_1, .int .i64 a1_2, .int .i64 a1_3, .int .i64 a1_4, .int .i64 a1_5, .slice A1_6 l1_6.length c1_6]) (t := 26) ?hr ?_; (case hd => rfl); (case hg => rfl); (case hr => first | (go_simp; done) | (go_simp; rfl)); intro gb125 hg w16 hbox hb; have BK125 := Aside0.mk (hbox); have GW125 := Aside0.mk ((by rw [hg]; exact (below_size (be HB.out)) : w.heap.size ≤ gb125)); have GE125 := Aside0.mk ((by rw [hg]; exact (below_size (be HB.out)) : w.heap.size ≤ gb125)); have NB124_125 := Aside0.mk ((by rw [hg]; exact Nat.ne_of_lt (blk_lt (g := gb124) (o := .cells #[.int .i64 a0_0, .int .i64 a0_1, .int .i64 a0_2, .int .i64 a0_3] 46 (0, 0)) (bu BK124.out)) : gb124 ≠ gb125)); have NB125_124 := Aside0.mk ((by rw [hg]; exact Nat.ne_of_gt (blk_lt (g := gb124) (o := .cells #[.int .i64 a0_0, .int .i64 a0_1, .int .i64 a0_2, .int .i64 a0_3] 46 (0, 0)) (bu BK124.out)) : gb125 ≠ gb124)); replace BK124 := Aside0.mk (blk_below (bu BK124.out) hb); replace HB := Aside0.mk (below_step (be HB.out) hb); clear hb hbox hg; have hnb17 := NB124_125.out; have hnc17 := NB125_124.out; have hcz18_0 := bc BK124.out 0 (.int .i64 a0_0) rfl; have hcz18_1 := bc BK124.out 1 (.int .i64 a0_1) rfl; have hcz18_2 := bc BK124.out 2 (.int .i64 a0_2) rfl; have hcz18_3 := bc BK124.out 3 (.int .i64 a0_3) rfl; have hfz18_0 := blk_frozen BK124.out 0; have hfz18_1 := blk_frozen BK124.out 1; have hfz18_2 := blk_frozen BK124.out 2; have hfz18_3 := blk_frozen BK124.out 3; have hcz19_0 := bc BK125.out 0 (.string a1_0) rfl; have hcz19_1 := bc BK125.out 1 (.int .i64 a1_1) rfl; have hcz19_2 := bc BK125.out 2 (.int .i64 a1_2) rfl; have hcz19_3 := bc BK125.out 3 (.int .i64 a1_3) rfl; have hcz19_4 := bc BK125.out 4 (.int .i64 a1_4) rfl; have hcz19_5 := bc BK125.out 5 (.int .i64 a1_5) rfl; have hcz19_6 := bc BK125.out 6 (.slice A1_6 l1_6.length c1_6) rfl; have hfz19_0 := blk_frozen BK125.out 0; have hfz19_1 := blk_frozen BK125.out 1; have hfz19_2 := blk_frozen BK125.out 2; have hfz19_3 := blk_frozen BK125.out 3; have hfz19_4 := blk_frozen BK125.out 4; have hfz19_5 := blk_frozen BK125.out 5; have hfz19_6 := blk_frozen BK125.out 6) | ((with_reducible refine gate_callee (f := 28) rfl ?_); refine goesA (some 9) rfl rfl Tryz.func28 (by kernel_rfl) rfl #[.int .i64 a0_0, .int .i64 0, .int .i64 a1_2] rfl ?_; (with_reducible refine (garmentref27_in.calls a0_0 0 a1_2 true _ A3.out).mono ?_); rintro e w' ⟨rfl, ⟨nd, rfl⟩⟩; refine ⟨_, rfl, ?_⟩) | (go_at_call 28; (with_reducible refine (garmentref27_in.calls a0_1 0 a1_1 true _ A5.out).mono ?_); rintro e w' ⟨rfl, ⟨nd, rfl⟩⟩) | (go_at_call 28; (with_reducible refine (garmentref27_in.calls a0_2 1 (wrap64 (a1_2 - a0_0)) false _ A7.out).mono ?_); rintro e w' ⟨rfl, ⟨nd, rfl⟩⟩))
    go_ret
    exact ⟨by first | rfl | (simp [errW_none, errW_some] <;> rfl) | (simp [*, errW_none, errW_some] <;> rfl), be HB.out⟩
  ·replace c6 := Bool.eq_false_iff.mpr c6; subst c6
   have H1 : (some false) = some r := by rw [if_neg (show ¬ (false = true) by decide)] at H; exact H
   clear H; have H := H1; clear H1; obtain rfl := Option.some.inj H
   go_enter Tryz.func29, Tryz.ntmps29
   go_wp2_with (first | ((with_reducible refine gate_dst (N := 2) rfl ?_); refine box_event ?hg (N := 2) ?hd (cs := #[.int .i64 a0_0, .int .i64 a0_1, .int .i64 a0_2, .int .i64 a0_3]) (t := 46) ?hr ?_; (case hd => rfl); (case hg => rfl); (case hr => first | (go_simp; done) | (go_simp; rfl)); intro gb124 hg w20 hbox hb; have BK124 := Aside0.mk (hbox); have GW124 := Aside0.mk ((by rw [hg]; exact (below_size (be HB.out)) : w.heap.size ≤ gb124)); have GE124 := Aside0.mk ((by rw [hg]; exact (below_size (be HB.out)) : w.heap.size ≤ gb124)); replace HB := Aside0.mk (below_step (be HB.out) hb); clear hb hbox hg) | ((with_reducible refine gate_dst (N := 3) rfl ?_); refine box_event ?hg (N := 3) ?hd (cs := #[.string a1_0, .int .i64 a1_1, .int .i64 a1_2, .int .i64 a1_3, .int .i64 a1_4, .int .i64 a1_5, .slice A1_6 l1_6.length c1_6]) (t := 26) ?hr ?_; (case hd => rfl); (case hg => rfl); (case hr => first | (go_simp; done) | (go_simp; rfl)); intro gb125 hg w21 hbox hb; have BK125 := Aside0.mk (hbox); have GW125 := Aside0.mk ((by rw [hg]; exact (below_size (be HB.out)) : w.heap.size ≤ gb125)); have GE125 := Aside0.mk ((by rw [hg]; exact (below_size (be HB.out)) : w.heap.size ≤ gb125)); have NB124_125 := Aside0.mk ((by rw [hg]; exact Nat.ne_of_lt (blk_lt (g := gb124) (o := .cells #[.int .i64 a0_0, .int .i64 a0_1, .int .i64 a0_2, .int .i64 a0_3] 46 (0, 0)) (bu BK124.out)) : gb124 ≠ gb125)); have NB125_124 := Aside0.mk ((by rw [hg]; exact Nat.ne_of_gt (blk_lt (g := gb124) (o := .cells #[.int .i64 a0_0, .int .i64 a0_1, .int .i64 a0_2, .int .i64 a0_3] 46 (0, 0)) (bu BK124.out)) : gb125 ≠ gb124)); replace BK124 := Aside0.mk (blk_below (bu BK124.out) hb); replace HB := Aside0.mk (below_step (be HB.out) hb); clear hb hbox hg; have hnb22 := NB124_125.out; have hnc22 := NB125_124.out; have hcz23_0 := bc BK124.out 0 (.int .i64 a0_0) rfl; have hcz23_1 := bc BK124.out 1 (.int .i64 a0_1) rfl; have hcz23_2 := bc BK124.out 2 (.int .i64 a0_2) rfl; have hcz23_3 := bc BK124.out 3 (.int .i64 a0_3) rfl; have hfz23_0 := blk_frozen BK124.out 0; have hfz23_1 := blk_frozen BK124.out 1; have hfz23_2 := blk_frozen BK124.out 2; have hfz23_3 := blk_frozen BK124.out 3; have hcz24_0 := bc BK125.out 0 (.string a1_0) rfl; have hcz24_1 := bc BK125.out 1 (.int .i64 a1_1) rfl; have hcz24_2 := bc BK125.out 2 (.int .i64 a1_2) rfl; have hcz24_3 := bc BK125.out 3 (.int .i64 a1_3) rfl; have hcz24_4 := bc BK125.out 4 (.int .i64 a1_4) rfl; have hcz24_5 := bc BK125.out 5 (.int .i64 a1_5) rfl; have hcz24_6 := bc BK125.out 6 (.slice A1_6 l1_6.length c1_6) rfl; have hfz24_0 := blk_frozen BK125.out 0; have hfz24_1 := blk_frozen BK125.out 1; have hfz24_2 := blk_frozen BK125.out 2; have hfz24_3 := blk_frozen BK125.out 3; have hfz24_4 := blk_frozen BK125.out 4; have hfz24_5 := blk_frozen BK125.out 5; have hfz24_6 := blk_frozen BK125.out 6) | ((with_reducible refine gate_callee (f := 28) rfl ?_); refine goesA (some 9) rfl rfl Tryz.func28 (by kernel_rfl) rfl #[.int .i64 a0_0, .int .i64 0, .int .i64 a1_2] rfl ?_; (with_reducible refine (garmentref27_in.calls a0_0 0 a1_2 true _ A3.out).mono ?_); rintro e w' ⟨rfl, ⟨nd, rfl⟩⟩; refine ⟨_, rfl, ?_⟩) | (go_at_call 28; (with_reducible refine (garmentref27_in.calls a0_1 0 a1_1 false _ A5.out).mono ?_); rintro e w' ⟨rfl, ⟨nd, rfl⟩⟩))
   go_ret
   exact ⟨by first | rfl | (simp [errW_none, errW_some] <;> rfl) | (simp [*, errW_none, errW_some] <;> rfl), be HB.out⟩
 ·replace c4 := Bool.eq_false_iff.mpr c4; subst c4
  have H1 : (some false) = some r := by rw [if_neg (show ¬ (false = true) by decide)] at H; exact H
  clear H; have H := H1; clear H1; obtain rfl := Option.some.inj H
  go_enter Tryz.func29, Tryz.ntmps29
  go_wp2_with (first | ((with_reducible refine gate_dst (N := 2) rfl ?_); refine box_event ?hg (N := 2) ?hd (cs := #[.int .i64 a0_0, .int .i64 a0_1, .int .i64 a0_2, .int .i64 a0_3]) (t := 46) ?hr ?_; (case hd => rfl); (case hg => rfl); (case hr => first | (go_simp; done) | (go_simp; rfl)); intro gb124 hg w25 hbox hb; have BK124 := Aside0.mk (hbox); have GW124 := Aside0.mk ((by rw [hg]; exact (below_size (be HB.out)) : w.heap.size ≤ gb124)); have GE124 := Aside0.mk ((by rw [hg]; exact (below_size (be HB.out)) : w.heap.size ≤ gb124)); replace HB := Aside0.mk (below_step (be HB.out) hb); clear hb hbox hg) | ((with_reducible refine gate_dst (N := 3) rfl ?_); refine box_event ?hg (N := 3) ?hd (cs := #[.string a1_0, .int .i64 a1_1, .int .i64 a1_2, .int .i64 a1_3, .int .i64 a1_4, .int .i64 a1_5, .slice A1_6 l1_6.length c1_6]) (t := 26) ?hr ?_; (case hd => rfl); (case hg => rfl); (case hr => first | (go_simp; done) | (go_simp; rfl)); intro gb125 hg w26 hbox hb; have BK125 := Aside0.mk (hbox); have GW125 := Aside0.mk ((by rw [hg]; exact (below_size (be HB.out)) : w.heap.size ≤ gb125)); have GE125 := Aside0.mk ((by rw [hg]; exact (below_size (be HB.out)) : w.heap.size ≤ gb125)); have NB124_125 := Aside0.mk ((by rw [hg]; exact Nat.ne_of_lt (blk_lt (g := gb124) (o := .cells #[.int .i64 a0_0, .int .i64 a0_1, .int .i64 a0_2, .int .i64 a0_3] 46 (0, 0)) (bu BK124.out)) : gb124 ≠ gb125)); have NB125_124 := Aside0.mk ((by rw [hg]; exact Nat.ne_of_gt (blk_lt (g := gb124) (o := .cells #[.int .i64 a0_0, .int .i64 a0_1, .int .i64 a0_2, .int .i64 a0_3] 46 (0, 0)) (bu BK124.out)) : gb125 ≠ gb124)); replace BK124 := Aside0.mk (blk_below (bu BK124.out) hb); replace HB := Aside0.mk (below_step (be HB.out) hb); clear hb hbox hg; have hnb27 := NB124_125.out; have hnc27 := NB125_124.out; have hcz28_0 := bc BK124.out 0 (.int .i64 a0_0) rfl; have hcz28_1 := bc BK124.out 1 (.int .i64 a0_1) rfl; have hcz28_2 := bc BK124.out 2 (.int .i64 a0_2) rfl; have hcz28_3 := bc BK124.out 3 (.int .i64 a0_3) rfl; have hfz28_0 := blk_frozen BK124.out 0; have hfz28_1 := blk_frozen BK124.out 1; have hfz28_2 := blk_frozen BK124.out 2; have hfz28_3 := blk_frozen BK124.out 3; have hcz29_0 := bc BK125.out 0 (.string a1_0) rfl; have hcz29_1 := bc BK125.out 1 (.int .i64 a1_1) rfl; have hcz29_2 := bc BK125.out 2 (.int .i64 a1_2) rfl; have hcz29_3 := bc BK125.out 3 (.int .i64 a1_3) rfl; have hcz29_4 := bc BK125.out 4 (.int .i64 a1_4) rfl; have hcz29_5 := bc BK125.out 5 (.int .i64 a1_5) rfl; have hcz29_6 := bc BK125.out 6 (.slice A1_6 l1_6.length c1_6) rfl; have hfz29_0 := blk_frozen BK125.out 0; have hfz29_1 := blk_frozen BK125.out 1; have hfz29_2 := blk_frozen BK125.out 2; have hfz29_3 := blk_frozen BK125.out 3; have hfz29_4 := blk_frozen BK125.out 4; have hfz29_5 := blk_frozen BK125.out 5; have hfz29_6 := blk_frozen BK125.out 6) | ((with_reducible refine gate_callee (f := 28) rfl ?_); refine goesA (some 9) rfl rfl Tryz.func28 (by kernel_rfl) rfl #[.int .i64 a0_0, .int .i64 0, .int .i64 a1_2] rfl ?_; (with_reducible refine (garmentref27_in.calls a0_0 0 a1_2 false _ A3.out).mono ?_); rintro e w' ⟨rfl, ⟨nd, rfl⟩⟩; refine ⟨_, rfl, ?_⟩))
  go_ret
  exact ⟨by first | rfl | (simp [errW_none, errW_some] <;> rfl) | (simp [*, errW_none, errW_some] <;> rfl), be HB.out⟩

end Go.Proofs.YtdblkmnbkpphjaaGreatDoor.P
namespace Go.Proofs.YtdblkmnbkpphjaaGreatDoor.P
open Go.RowKit Go.Proofs.YtdblkmnbkpphjaaGreatDoorW.PrintWords Go.Proofs.YtdblkmnbkpphjaaGreatDoorW.PrintLast Go.Proofs.YtdblkmnbkpphjaaGreatDoorW.PrintMore Go.Proofs.YtdblkmnbkpphjaaGreatDoorW.PrintAuto
attribute [local go_sem] max2_int min2_int max_two min_two max_three min_three max_four min_four   -- for this text's walks alone
set_option linter.unusedVariables false
set_option linter.unusedSimpArgs false

mutual
def garmentref27_Check.j0 : Nat → Bool → ByteArray → Int → Int → Int → Int → Int → List (S46) → Option (Int)
 | 0, _, _, _, _, _, _, _, _ => none
 | k + 1, x38, x131000, x131001, x131002, x131003, x131004, x131005, x131006 => if x38 = true then (some 3) else (if (x131006.length : Int) > 20 then (some 5) else (garmentref27_Check.l0 k 0 x131000 x131001 x131002 x131003 x131004 x131005 x131006))
def garmentref27_Check.l0 : Nat → Int → ByteArray → Int → Int → Int → Int → Int → List (S46) → Option (Int)
 | 0, _, _, _, _, _, _, _, _ => none
 | k + 1, x3, x131000, x131001, x131002, x131003, x131004, x131005, x131006 => if x3 < (x131006.length : Int) then (if 0 ≤ x3 then ((garmentref27_fits.f ((rd_T46 x131006 x3).f0) ((rd_T46 x131006 x3).f1) ((rd_T46 x131006 x3).f2) ((rd_T46 x131006 x3).f3) x131000 x131001 x131002 x131003 x131004 x131005 x131006).bind fun t138 => (if t138 = true then (garmentref27_Check.l0 k (wrap64 (x3 + 1)) x131000 x131001 x131002 x131003 x131004 x131005 x131006) else (some 3))) else (none)) else (some 0)
end
def garmentref27_Check.f (k : Nat) (a0_0 : ByteArray) (a0_1 : Int) (a0_2 : Int) (a0_3 : Int) (a0_4 : Int) (a0_5 : Int) (l0_6 : List (S46)) : Option (Int) := (garmentref27_id.f k a0_0).bind fun t131 => (if t131 = true then ((garmentref27_in.f a0_2 1 1048576).bind fun t132 => (if t132 = true then ((garmentref27_in.f a0_1 1 1048576).bind fun t133 => (if t133 = true then ((garmentref27_in.f a0_3 (-1000) 1000).bind fun t134 => (if t134 = true then ((garmentref27_in.f a0_4 (-1000) 1000).bind fun t135 => (if t135 = true then ((garmentref27_in.f a0_5 (-1000) 1000).bind fun t136 => (garmentref27_Check.j0 k (!t136) a0_0 a0_1 a0_2 a0_3 a0_4 a0_5 l0_6)) else (garmentref27_Check.j0 k true a0_0 a0_1 a0_2 a0_3 a0_4 a0_5 l0_6))) else (garmentref27_Check.j0 k true a0_0 a0_1 a0_2 a0_3 a0_4 a0_5 l0_6))) else (garmentref27_Check.j0 k true a0_0 a0_1 a0_2 a0_3 a0_4 a0_5 l0_6))) else (garmentref27_Check.j0 k true a0_0 a0_1 a0_2 a0_3 a0_4 a0_5 l0_6))) else (some 1))
theorem garmentref27_Check.mono_l : ∀ k, (∀ y0 y1 y2 y3 y4 y5 y6 y7, LeO (garmentref27_Check.j0 k y0 y1 y2 y3 y4 y5 y6 y7) (garmentref27_Check.j0 (k + 1) y0 y1 y2 y3 y4 y5 y6 y7)) ∧ (∀ y0 y1 y2 y3 y4 y5 y6 y7, LeO (garmentref27_Check.l0 k y0 y1 y2 y3 y4 y5 y6 y7) (garmentref27_Check.l0 (k + 1) y0 y1 y2 y3 y4 y5 y6 y7))
 | 0 => ⟨fun _ _ _ _ _ _ _ _ r h => by simp [garmentref27_Check.j0] at h, fun _ _ _ _ _ _ _ _ r h => by simp [garmentref27_Check.l0] at h⟩
 | k + 1 => by
  obtain ⟨ih0, ih1⟩ := garmentref27_Check.mono_l k
  refine ⟨?_, ?_⟩
  ·intro y0 y1 y2 y3 y4 y5 y6 y7
   unfold garmentref27_Check.j0
   repeat' first
   | (with_reducible exact ih0 _ _ _ _ _ _ _ _)
   | (with_reducible exact ih1 _ _ _ _ _ _ _ _)
   | (with_reducible exact garmentref27_id.mono _ _)
   | (with_reducible exact LeO.refl _)
   | (with_reducible exact LeO.none _)
   | (with_reducible refine LeO.ite ?_ ?_)
   | (with_reducible refine LeO.bind ?_ (fun _ => ?_))
   | exact ih0 _ _ _ _ _ _ _ _
   | exact ih1 _ _ _ _ _ _ _ _
   | exact garmentref27_id.mono _ _
   | exact LeO.none _
   | refine LeO.ite ?_ ?_
   | refine LeO.bind ?_ (fun _ => ?_)
  ·intro y0 y1 y2 y3 y4 y5 y6 y7
   unfold garmentref27_Check.l0
   repeat' first
   | (with_reducible exact ih0 _ _ _ _ _ _ _ _)
   | (with_reducible exact ih1 _ _ _ _ _ _ _ _)
   | (with_reducible exact garmentref27_id.mono _ _)
   | (with_reducible exact LeO.refl _)
   | (with_reducible exact LeO.none _)
   | (with_reducible refine LeO.ite ?_ ?_)
   | (with_reducible refine LeO.bind ?_ (fun _ => ?_))
   | exact ih0 _ _ _ _ _ _ _ _
   | exact ih1 _ _ _ _ _ _ _ _
   | exact garmentref27_id.mono _ _
   | exact LeO.none _
   | refine LeO.ite ?_ ?_
   | refine LeO.bind ?_ (fun _ => ?_)
theorem garmentref27_Check.mono : ∀ a0 a1 a2 a3 a4 a5 a6 k, LeO (garmentref27_Check.f k a0 a1 a2 a3 a4 a5 a6) (garmentref27_Check.f (k + 1) a0 a1 a2 a3 a4 a5 a6) := by
 intro a0 a1 a2 a3 a4 a5 a6 k; obtain ⟨ih0, ih1⟩ := garmentref27_Check.mono_l k
 unfold garmentref27_Check.f
 repeat' first
  | (with_reducible exact ih0 _ _ _ _ _ _ _ _)
  | (with_reducible exact ih1 _ _ _ _ _ _ _ _)
  | (with_reducible exact garmentref27_id.mono _ _)
  | (with_reducible exact LeO.refl _)
  | (with_reducible exact LeO.none _)
  | (with_reducible refine LeO.ite ?_ ?_)
  | (with_reducible refine LeO.bind ?_ (fun _ => ?_))
  | exact ih0 _ _ _ _ _ _ _ _
  | exact ih1 _ _ _ _ _ _ _ _
  | exact garmentref27_id.mono _ _
  | exact LeO.none _
  | refine LeO.ite ?_ ?_
  | refine LeO.bind ?_ (fun _ => ?_)
def garmentref27_Check.T10 : Bool × List (List Nat × List Nat) := (true, [([], []), ([0], [0]), ([], []), ([1, 2], [1, 2]), ([3], [3]), ([], []), ([4, 5], [4, 5]), ([6], [6])])
def garmentref27_Check.B10 : List Nat := [0, 1, 0, 7, 15, 0, 63, 127]
theorem garmentref27_Check.tab10 : rtab .any (opsOf Tryz.f12 10) = garmentref27_Check.T10 := by kernel_rfl
theorem garmentref27_Check.bits10 : waitsOk garmentref27_Check.T10.2 garmentref27_Check.B10 = true := by kernel_rfl
set_option maxHeartbeats 8000000 in
set_option maxRecDepth 100000 in
theorem garmentref27_Check.calls (k : Nat) (a0_0 : ByteArray) (a0_1 : Int) (a0_2 : Int) (a0_3 : Int) (a0_4 : Int) (a0_5 : Int) (A0_6 : Option Addr) (c0_6 : Nat) (l0_6 : List (S46)) (r : Int) (w : World) (hr0_6 : Kd.C k46 w A0_6 l0_6.length l0_6) (hc0_6 : l0_6.length ≤ c0_6) (h : garmentref27_Check.f k a0_0 a0_1 a0_2 a0_3 a0_4 a0_5 l0_6 = some r) :
  Calls Tryz.prog 12 #[.agg #[.string a0_0, .int .i64 a0_1, .int .i64 a0_2, .int .i64 a0_3, .int .i64 a0_4, .int .i64 a0_5, .slice A0_6 l0_6.length c0_6]] w fun e w' => e = .returned (.int .i64 r) ∧ Below w.heap.size w w' := by
 have hu26 := Tryz.underlying26; have hu46 := Tryz.underlying46; have HR0_6 := Aside0.mk hr0_6; have HC0_6 := Aside0.mk hc0_6; clear hr0_6 hc0_6; have HB := Aside0.mk (Below.refl w.heap.size w); have H : ((garmentref27_id.f k a0_0).bind fun t131 => (if t131 = true then ((garmentref27_in.f a0_2 1 1048576).bind fun t132 => (if t132 = true then ((garmentref27_in.f a0_1 1 1048576).bind fun t133 => (if t133 = true then ((garmentref27_in.f a0_3 (-1000) 1000).bind fun t134 => (if t134 = true then ((garmentref27_in.f a0_4 (-1000) 1000).bind fun t135 => (if t135 = true then ((garmentref27_in.f a0_5 (-1000) 1000).bind fun t136 => (garmentref27_Check.j0 k (!t136) a0_0 a0_1 a0_2 a0_3 a0_4 a0_5 l0_6)) else (garmentref27_Check.j0 k true a0_0 a0_1 a0_2 a0_3 a0_4 a0_5 l0_6))) else (garmentref27_Check.j0 k true a0_0 a0_1 a0_2 a0_3 a0_4 a0_5 l0_6))) else (garmentref27_Check.j0 k true a0_0 a0_1 a0_2 a0_3 a0_4 a0_5 l0_6))) else (garmentref27_Check.j0 k true a0_0 a0_1 a0_2 a0_3 a0_4 a0_5 l0_6))) else (some 1))) = some r := h; clear h; replace H := Option.bind_eq_some_iff.mp H; obtain ⟨t131, A20, H⟩ := H; replace H : (if t131 = true then ((garmentref27_in.f a0_2 1 1048576).bind fun t132 => (if t132 = true then ((garmentref27_in.f a0_1 1 1048576).bind fun t133 => (if t133 = true then ((garmentref27_in.f a0_3 (-1000) 1000).bind fun t134 => (if t134 = true then ((garmentref27_in.f a0_4 (-1000) 1000).bind fun t135 => (if t135 = true then ((garmentref27_in.f a0_5 (-1000) 1000).bind fun t136 => (garmentref27_Check.j0 k (!t136) a0_0 a0_1 a0_2 a0_3 a0_4 a0_5 l0_6)) else (garmentref27_Check.j0 k true a0_0 a0_1 a0_2 a0_3 a0_4 a0_5 l0_6))) else (garmentref27_Check.j0 k true a0_0 a0_1 a0_2 a0_3 a0_4 a0_5 l0_6))) else (garmentref27_Check.j0 k true a0_0 a0_1 a0_2 a0_3 a0_4 a0_5 l0_6))) else (garmentref27_Check.j0 k true a0_0 a0_1 a0_2 a0_3 a0_4 a0_5 l0_6))) else (some 1)) = some r := H; have A2 := Aside0.mk A20; clear A20
 by_cases c3 : t131 = true
 ·subst c3
  have H1 : ((garmentref27_in.f a0_2 1 1048576).bind fun t132 => (if t132 = true then ((garmentref27_in.f a0_1 1 1048576).bind fun t133 => (if t133 = true then ((garmentref27_in.f a0_3 (-1000) 1000).bind fun t134 => (if t134 = true then ((garmentref27_in.f a0_4 (-1000) 1000).bind fun t135 => (if t135 = true then ((garmentref27_in.f a0_5 (-1000) 1000).bind fun t136 => (garmentref27_Check.j0 k (!t136) a0_0 a0_1 a0_2 a0_3 a0_4 a0_5 l0_6)) else (garmentref27_Check.j0 k true a0_0 a0_1 a0_2 a0_3 a0_4 a0_5 l0_6))) else (garmentref27_Check.j0 k true a0_0 a0_1 a0_2 a0_3 a0_4 a0_5 l0_6))) else (garmentref27_Check.j0 k true a0_0 a0_1 a0_2 a0_3 a0_4 a0_5 l0_6))) else (garmentref27_Check.j0 k true a0_0 a0_1 a0_2 a0_3 a0_4 a0_5 l0_6))) = some r := by rw [if_pos rfl] at H; exact H
  clear H; have H := H1; clear H1; have HC4 := Aside0.mk H; clear H
  go_enter Tryz.func12, Tryz.ntmps12
  go_upto_region 3 with (first | ((with_reducible refine gate_dst (N := 1) rfl ?_); refine box_event ?hg (N := 1) ?hd (cs := #[.string a0_0, .int .i64 a0_1, .int .i64 a0_2, .int .i64 a0_3, .int .i64 a0_4, .int .i64 a0_5, .slice A0_6 l0_6.length c0_6]) (t := 26) ?hr ?_; (case hd => rfl); (case hg => rfl); (case hr => first | (go_simp; done) | (go_simp; rfl)); intro gb130 hg w5 hbox hb; have BK130 := Aside0.mk (hbox); have GW130 := Aside0.mk ((by rw [hg]; exact (below_size (be HB.out)) : w.heap.size ≤ gb130)); have GE130 := Aside0.mk ((by rw [hg]; exact (below_size (be HB.out)) : w.heap.size ≤ gb130)); replace HB := Aside0.mk (below_step (be HB.out) hb); clear hb hbox hg; have hcz6_0 := bc BK130.out 0 (.string a0_0) rfl; have hcz6_1 := bc BK130.out 1 (.int .i64 a0_1) rfl; have hcz6_2 := bc BK130.out 2 (.int .i64 a0_2) rfl; have hcz6_3 := bc BK130.out 3 (.int .i64 a0_3) rfl; have hcz6_4 := bc BK130.out 4 (.int .i64 a0_4) rfl; have hcz6_5 := bc BK130.out 5 (.int .i64 a0_5) rfl; have hcz6_6 := bc BK130.out 6 (.slice A0_6 l0_6.length c0_6) rfl; have hfz6_0 := blk_frozen BK130.out 0; have hfz6_1 := blk_frozen BK130.out 1; have hfz6_2 := blk_frozen BK130.out 2; have hfz6_3 := blk_frozen BK130.out 3; have hfz6_4 := blk_frozen BK130.out 4; have hfz6_5 := blk_frozen BK130.out 5; have hfz6_6 := blk_frozen BK130.out 6) | ((with_reducible refine gate_callee (f := 27) rfl ?_); refine goesA (some 6) rfl rfl Tryz.func27 (by kernel_rfl) rfl #[.string a0_0] rfl ?_; (with_reducible refine (garmentref27_id.calls k a0_0 true _ A2.out).mono ?_); rintro e w' ⟨rfl, ⟨nd, rfl⟩⟩; refine ⟨_, rfl, ?_⟩))
  (try simp only [Act.put, List.setIfInBounds_toArray, List.set_cons_zero, List.set_cons_succ])
  go_cut [38] (fun v38 wc => ∃ (kq : Nat) (x38_3 : Bool), v38 = .bool x38_3 ∧ Aside0 (garmentref27_Check.j0 kq x38_3 a0_0 a0_1 a0_2 a0_3 a0_4 a0_5 l0_6 = some r) ∧ Aside0 (kq ≤ k) ∧ Aside0 (wc.heap[gb130]? = some (.cells #[.string a0_0, .int .i64 a0_1, .int .i64 a0_2, .int .i64 a0_3, .int .i64 a0_4, .int .i64 a0_5, (.slice A0_6 l0_6.length c0_6)] 26 (0, 0))) ∧ Aside0 (Below w.heap.size w wc))
  case first =>
   have H := HC4.out; clear HC4; replace H := Option.bind_eq_some_iff.mp H; obtain ⟨t132, A70, H⟩ := H; replace H : (if t132 = true then ((garmentref27_in.f a0_1 1 1048576).bind fun t133 => (if t133 = true then ((garmentref27_in.f a0_3 (-1000) 1000).bind fun t134 => (if t134 = true then ((garmentref27_in.f a0_4 (-1000) 1000).bind fun t135 => (if t135 = true then ((garmentref27_in.f a0_5 (-1000) 1000).bind fun t136 => (garmentref27_Check.j0 k (!t136) a0_0 a0_1 a0_2 a0_3 a0_4 a0_5 l0_6)) else (garmentref27_Check.j0 k true a0_0 a0_1 a0_2 a0_3 a0_4 a0_5 l0_6))) else (garmentref27_Check.j0 k true a0_0 a0_1 a0_2 a0_3 a0_4 a0_5 l0_6))) else (garmentref27_Check.j0 k true a0_0 a0_1 a0_2 a0_3 a0_4 a0_5 l0_6))) else (garmentref27_Check.j0 k true a0_0 a0_1 a0_2 a0_3 a0_4 a0_5 l0_6)) = some r := H; have A7 := Aside0.mk A70; clear A70
   by_cases c8 : t132 = true
   ·subst c8
    have H1 : ((garmentref27_in.f a0_1 1 1048576).bind fun t133 => (if t133 = true then ((garmentref27_in.f a0_3 (-1000) 1000).bind fun t134 => (if t134 = true then ((garmentref27_in.f a0_4 (-1000) 1000).bind fun t135 => (if t135 = true then ((garmentref27_in.f a0_5 (-1000) 1000).bind fun t136 => (garmentref27_Check.j0 k (!t136) a0_0 a0_1 a0_2 a0_3 a0_4 a0_5 l0_6)) else (garmentref27_Check.j0 k true a0_0 a0_1 a0_2 a0_3 a0_4 a0_5 l0_6))) else (garmentref27_Check.j0 k true a0_0 a0_1 a0_2 a0_3 a0_4 a0_5 l0_6))) else (garmentref27_Check.j0 k true a0_0 a0_1 a0_2 a0_3 a0_4 a0_5 l0_6))) = some r := by rw [if_pos rfl] at H; exact H
    clear H; have H := H1; clear H1; replace H := Option.bind_eq_some_iff.mp H; obtain ⟨t133, A90, H⟩ := H; replace H : (if t133 = true then ((garmentref27_in.f a0_3 (-1000) 1000).bind fun t134 => (if t134 = true then ((garmentref27_in.f a0_4 (-1000) 1000).bind fun t135 => (if t135 = true then ((garmentref27_in.f a0_5 (-1000) 1000).bind fun t136 => (garmentref27_Check.j0 k (!t136) a0_0 a0_1 a0_2 a0_3 a0_4 a0_5 l0_6)) else (garmentref27_Check.j0 k true a0_0 a0_1 a0_2 a0_3 a0_4 a0_5 l0_6))) else (garmentref27_Check.j0 k true a0_0 a0_1 a0_2 a0_3 a0_4 a0_5 l0_6))) else (garmentref27_Check.j0 k true a0_0 a0_1 a0_2 a0_3 a0_4 a0_5 l0_6)) = some r := H; have A9 := Aside0.mk A90; clear A90
    by_cases c10 : t133 = true
    ·subst c10
     have H1 : ((garmentref27_in.f a0_3 (-1000) 1000).bind fun t134 => (if t134 = true then ((garmentref27_in.f a0_4 (-1000) 1000).bind fun t135 => (if t135 = true then ((garmentref27_in.f a0_5 (-1000) 1000).bind fun t136 => (garmentref27_Check.j0 k (!t136) a0_0 a0_1 a0_2 a0_3 a0_4 a0_5 l0_6)) else (garmentref27_Check.j0 k true a0_0 a0_1 a0_2 a0_3 a0_4 a0_5 l0_6))) else (garmentref27_Check.j0 k true a0_0 a0_1 a0_2 a0_3 a0_4 a0_5 l0_6))) = some r := by rw [if_pos rfl] at H; exact H
     clear H; have H := H1; clear H1; replace H := Option.bind_eq_some_iff.mp H; obtain ⟨t134, A110, H⟩ := H; replace H : (if t134 = true then ((garmentref27_in.f a0_4 (-1000) 1000).bind fun t135 => (if t135 = true then ((garmentref27_in.f a0_5 (-1000) 1000).bind fun t136 => (garmentref27_Check.j0 k (!t136) a0_0 a0_1 a0_2 a0_3 a0_4 a0_5 l0_6)) else (garmentref27_Check.j0 k true a0_0 a0_1 a0_2 a0_3 a0_4 a0_5 l0_6))) else (garmentref27_Check.j0 k true a0_0 a0_1 a0_2 a0_3 a0_4 a0_5 l0_6)) = some r := H; have A11 := Aside0.mk A110; clear A110
     by_cases c12 : t134 = true
     ·subst c12
      have H1 : ((garmentref27_in.f a0_4 (-1000) 1000).bind fun t135 => (if t135 = true then ((garmentref27_in.f a0_5 (-1000) 1000).bind fun t136 => (garmentref27_Check.j0 k (!t136) a0_0 a0_1 a0_2 a0_3 a0_4 a0_5 l0_6)) else (garmentref27_Check.j0 k true a0_0 a0_1 a0_2 a0_3 a0_4 a0_5 l0_6))) = some r := by rw [if_pos rfl] at H; exact H
      clear H; have H := H1; clear H1; replace H := Option.bind_eq_some_iff.mp H; obtain ⟨t135, A130, H⟩ := H; replace H : (if t135 = true then ((garmentref27_in.f a0_5 (-1000) 1000).bind fun t136 => (garmentref27_Check.j0 k (!t136) a0_0 a0_1 a0_2 a0_3 a0_4 a0_5 l0_6)) else (garmentref27_Check.j0 k true a0_0 a0_1 a0_2 a0_3 a0_4 a0_5 l0_6)) = some r := H; have A13 := Aside0.mk A130; clear A130
      by_cases c14 : t135 = true
      ·subst c14
       have H1 : ((garmentref27_in.f a0_5 (-1000) 1000).bind fun t136 => (garmentref27_Check.j0 k (!t136) a0_0 a0_1 a0_2 a0_3 a0_4 a0_5 l0_6)) = some r := by rw [if_pos rfl] at H; exact H
       clear H; have H := H1; clear H1; replace H := Option.bind_eq_some_iff.mp H; obtain ⟨t136, A150, H⟩ := H; replace H : (garmentref27_Check.j0 k (!t136) a0_0 a0_1 a0_2 a0_3 a0_4 a0_5 l0_6) = some r := H; have A15 := Aside0.mk A150; clear A150; have H' := Aside0.mk H; clear H; have hcz16_0 := bc BK130.out 0 (.string a0_0) rfl; have hcz16_1 := bc BK130.out 1 (.int .i64 a0_1) rfl; have hcz16_2 := bc BK130.out 2 (.int .i64 a0_2) rfl; have hcz16_3 := bc BK130.out 3 (.int .i64 a0_3) rfl; have hcz16_4 := bc BK130.out 4 (.int .i64 a0_4) rfl; have hcz16_5 := bc BK130.out 5 (.int .i64 a0_5) rfl; have hcz16_6 := bc BK130.out 6 (.slice A0_6 l0_6.length c0_6) rfl; have hfz16_0 := blk_frozen BK130.out 0; have hfz16_1 := blk_frozen BK130.out 1; have hfz16_2 := blk_frozen BK130.out 2; have hfz16_3 := blk_frozen BK130.out 3; have hfz16_4 := blk_frozen BK130.out 4; have hfz16_5 := blk_frozen BK130.out 5; have hfz16_6 := blk_frozen BK130.out 6
       go_wp2_with (first | ((with_reducible refine gate_callee (f := 28) rfl ?_); refine goesA (some 10) rfl rfl Tryz.func28 (by kernel_rfl) rfl #[.int .i64 a0_2, .int .i64 1, .int .i64 1048576] rfl ?_; (with_reducible refine (garmentref27_in.calls a0_2 1 1048576 true _ A7.out).mono ?_); rintro e w' ⟨rfl, ⟨nd, rfl⟩⟩; refine ⟨_, rfl, ?_⟩) | (go_at_call 28; (with_reducible refine (garmentref27_in.calls a0_1 1 1048576 true _ A9.out).mono ?_); rintro e w' ⟨rfl, ⟨nd, rfl⟩⟩) | (go_at_call 28; (with_reducible refine (garmentref27_in.calls a0_3 (-1000) 1000 true _ A11.out).mono ?_); rintro e w' ⟨rfl, ⟨nd, rfl⟩⟩) | (go_at_call 28; (with_reducible refine (garmentref27_in.calls a0_4 (-1000) 1000 true _ A13.out).mono ?_); rintro e w' ⟨rfl, ⟨nd, rfl⟩⟩) | (go_at_call 28; (with_reducible refine (garmentref27_in.calls a0_5 (-1000) 1000 t136 _ A15.out).mono ?_); rintro e w' ⟨rfl, ⟨nd, rfl⟩⟩))
       go_meet
       case rel => exact ⟨_, (!t136), (by first | rfl | (simp; done) | (simp [*]; done)), H', ⟨by first | omega | exact Nat.le_refl _⟩, ⟨bu (BK130.out)⟩, ⟨be HB.out⟩⟩
      ·replace c14 := Bool.eq_false_iff.mpr c14; subst c14
       have H1 : (garmentref27_Check.j0 k true a0_0 a0_1 a0_2 a0_3 a0_4 a0_5 l0_6) = some r := by rw [if_neg (show ¬ (false = true) by decide)] at H; exact H
       clear H; have H := H1; clear H1; have H' := Aside0.mk H; clear H; have hcz17_0 := bc BK130.out 0 (.string a0_0) rfl; have hcz17_1 := bc BK130.out 1 (.int .i64 a0_1) rfl; have hcz17_2 := bc BK130.out 2 (.int .i64 a0_2) rfl; have hcz17_3 := bc BK130.out 3 (.int .i64 a0_3) rfl; have hcz17_4 := bc BK130.out 4 (.int .i64 a0_4) rfl; have hcz17_5 := bc BK130.out 5 (.int .i64 a0_5) rfl; have hcz17_6 := bc BK130.out 6 (.slice A0_6 l0_6.length c0_6) rfl; have hfz17_0 := blk_frozen BK130.out 0; have hfz17_1 := blk_frozen BK130.out 1; have hfz17_2 := blk_frozen BK130.out 2; have hfz17_3 := blk_frozen BK130.out 3; have hfz17_4 := blk_frozen BK130.out 4; have hfz17_5 := blk_frozen BK130.out 5; have hfz17_6 := blk_frozen BK130.out 6
       go_wp2_with (first | ((with_reducible refine gate_callee (f := 28) rfl ?_); refine goesA (some 10) rfl rfl Tryz.func28 (by kernel_rfl) rfl #[.int .i64 a0_2, .int .i64 1, .int .i64 1048576] rfl ?_; (with_reducible refine (garmentref27_in.calls a0_2 1 1048576 true _ A7.out).mono ?_); rintro e w' ⟨rfl, ⟨nd, rfl⟩⟩; refine ⟨_, rfl, ?_⟩) | (go_at_call 28; (with_reducible refine (garmentref27_in.calls a0_1 1 1048576 true _ A9.out).mono ?_); rintro e w' ⟨rfl, ⟨nd, rfl⟩⟩) | (go_at_call 28; (with_reducible refine (garmentref27_in.calls a0_3 (-1000) 1000 true _ A11.out).mono ?_); rintro e w' ⟨rfl, ⟨nd, rfl⟩⟩) | (go_at_call 28; (with_reducible refine (garmentref27_in.calls a0_4 (-1000) 1000 false _ A13.out).mono ?_); rintro e w' ⟨rfl, ⟨nd, rfl⟩⟩))
       go_meet
       case rel => exact ⟨_, (true), (by first | rfl | (simp; done) | (simp [*]; done)), H', ⟨by first | omega | exact Nat.le_refl _⟩, ⟨bu (BK130.out)⟩, ⟨be HB.out⟩⟩
     ·replace c12 := Bool.eq_false_iff.mpr c12; subst c12
      have H1 : (garmentref27_Check.j0 k true a0_0 a0_1 a0_2 a0_3 a0_4 a0_5 l0_6) = some r := by rw [if_neg (show ¬ (false = true) by decide)] at H; exact H
      clear H; have H := H1; clear H1; have H' := Aside0.mk H; clear H; have hcz18_0 := bc BK130.out 0 (.string a0_0) rfl; have hcz18_1 := bc BK130.out 1 (.int .i64 a0_1) rfl; have hcz18_2 := bc BK130.out 2 (.int .i64 a0_2) rfl; have hcz18_3 := bc BK130.out 3 (.int .i64 a0_3) rfl; have hcz18_4 := bc BK130.out 4 (.int .i64 a0_4) rfl; have hcz18_5 := bc BK130.out 5 (.int .i64 a0_5) rfl; have hcz18_6 := bc BK130.out 6 (.slice A0_6 l0_6.length c0_6) rfl; have hfz18_0 := blk_frozen BK130.out 0; have hfz18_1 := blk_frozen BK130.out 1; have hfz18_2 := blk_frozen BK130.out 2; have hfz18_3 := blk_frozen BK130.out 3; have hfz18_4 := blk_frozen BK130.out 4; have hfz18_5 := blk_frozen BK130.out 5; have hfz18_6 := blk_frozen BK130.out 6
      go_wp2_with (first | ((with_reducible refine gate_callee (f := 28) rfl ?_); refine goesA (some 10) rfl rfl Tryz.func28 (by kernel_rfl) rfl #[.int .i64 a0_2, .int .i64 1, .int .i64 1048576] rfl ?_; (with_reducible refine (garmentref27_in.calls a0_2 1 1048576 true _ A7.out).mono ?_); rintro e w' ⟨rfl, ⟨nd, rfl⟩⟩; refine ⟨_, rfl, ?_⟩) | (go_at_call 28; (with_reducible refine (garmentref27_in.calls a0_1 1 1048576 true _ A9.out).mono ?_); rintro e w' ⟨rfl, ⟨nd, rfl⟩⟩) | (go_at_call 28; (with_reducible refine (garmentref27_in.calls a0_3 (-1000) 1000 false _ A11.out).mono ?_); rintro e w' ⟨rfl, ⟨nd, rfl⟩⟩))
      go_meet
      case rel => exact ⟨_, (true), (by first | rfl | (simp; done) | (simp [*]; done)), H', ⟨by first | omega | exact Nat.le_refl _⟩, ⟨bu (BK130.out)⟩, ⟨be HB.out⟩⟩
    ·replace c10 := Bool.eq_false_iff.mpr c10; subst c10
     have H1 : (garmentref27_Check.j0 k true a0_0 a0_1 a0_2 a0_3 a0_4 a0_5 l0_6) = some r := by rw [if_neg (show ¬ (false = true) by decide)] at H; exact H
     clear H; have H := H1; clear H1; have H' := Aside0.mk H; clear H; have hcz19_0 := bc BK130.out 0 (.string a0_0) rfl; have hcz19_1 := bc BK130.out 1 (.int .i64 a0_1) rfl; have hcz19_2 := bc BK130.out 2 (.int .i64 a0_2) rfl; have hcz19_3 := bc BK130.out 3 (.int .i64 a0_3) rfl; have hcz19_4 := bc BK130.out 4 (.int .i64 a0_4) rfl; have hcz19_5 := bc BK130.out 5 (.int .i64 a0_5) rfl; have hcz19_6 := bc BK130.out 6 (.slice A0_6 l0_6.length c0_6) rfl; have hfz19_0 := blk_frozen BK130.out 0; have hfz19_1 := blk_frozen BK130.out 1; have hfz19_2 := blk_frozen BK130.out 2; have hfz19_3 := blk_frozen BK130.out 3; have hfz19_4 := blk_frozen BK130.out 4; have hfz19_5 := blk_frozen BK130.out 5; have hfz19_6 := blk_frozen BK130.out 6
     go_wp2_with (first | ((with_reducible refine gate_callee (f := 28) rfl ?_); refine goesA (some 10) rfl rfl Tryz.func28 (by kernel_rfl) rfl #[.int .i64 a0_2, .int .i64 1, .int .i64 1048576] rfl ?_; (with_reducible refine (garmentref27_in.calls a0_2 1 1048576 true _ A7.out).mono ?_); rintro e w' ⟨rfl, ⟨nd, rfl⟩⟩; refine ⟨_, rfl, ?_⟩) | (go_at_call 28; (with_reducible refine (garmentref27_in.calls a0_1 1 1048576 false _ A9.out).mono ?_); rintro e w' ⟨rfl, ⟨nd, rfl⟩⟩))
     go_meet
     case rel => exact ⟨_, (true), (by first | rfl | (simp; done) | (simp [*]; done)), H', ⟨by first | omega | exact Nat.le_refl _⟩, ⟨bu (BK130.out)⟩, ⟨be HB.out⟩⟩
   ·replace c8 := Bool.eq_false_iff.mpr c8; subst c8
    have H1 : (garmentref27_Check.j0 k true a0_0 a0_1 a0_2 a0_3 a0_4 a0_5 l0_6) = some r := by rw [if_neg (show ¬ (false = true) by decide)] at H; exact H
    clear H; have H := H1; clear H1; have H' := Aside0.mk H; clear H; have hcz20_0 := bc BK130.out 0 (.string a0_0) rfl; have hcz20_1 := bc BK130.out 1 (.int .i64 a0_1) rfl; have hcz20_2 := bc BK130.out 2 (.int .i64 a0_2) rfl; have hcz20_3 := bc BK130.out 3 (.int .i64 a0_3) rfl; have hcz20_4 := bc BK130.out 4 (.int .i64 a0_4) rfl; have hcz20_5 := bc BK130.out 5 (.int .i64 a0_5) rfl; have hcz20_6 := bc BK130.out 6 (.slice A0_6 l0_6.length c0_6) rfl; have hfz20_0 := blk_frozen BK130.out 0; have hfz20_1 := blk_frozen BK130.out 1; have hfz20_2 := blk_frozen BK130.out 2; have hfz20_3 := blk_frozen BK130.out 3; have hfz20_4 := blk_frozen BK130.out 4; have hfz20_5 := blk_frozen BK130.out 5; have hfz20_6 := blk_frozen BK130.out 6
    go_wp2_with (first | ((with_reducible refine gate_callee (f := 28) rfl ?_); refine goesA (some 10) rfl rfl Tryz.func28 (by kernel_rfl) rfl #[.int .i64 a0_2, .int .i64 1, .int .i64 1048576] rfl ?_; (with_reducible refine (garmentref27_in.calls a0_2 1 1048576 false _ A7.out).mono ?_); rintro e w' ⟨rfl, ⟨nd, rfl⟩⟩; refine ⟨_, rfl, ?_⟩))
    go_meet
    case rel => exact ⟨_, (true), (by first | rfl | (simp; done) | (simp [*]; done)), H', ⟨by first | omega | exact Nat.le_refl _⟩, ⟨bu (BK130.out)⟩, ⟨be HB.out⟩⟩
  case rest =>
   clear HC4
   try clear c1
   try clear c2
   try clear p2
   try clear c3
   try clear c8
   try clear c10
   try clear c12
   try clear c14
   try clear hcz16_0 hcz16_1 hcz16_2 hcz16_3 hcz16_4 hcz16_5 hcz16_6
   try clear hcz17_0 hcz17_1 hcz17_2 hcz17_3 hcz17_4 hcz17_5 hcz17_6
   try clear hcz18_0 hcz18_1 hcz18_2 hcz18_3 hcz18_4 hcz18_5 hcz18_6
   try clear hcz19_0 hcz19_1 hcz19_2 hcz19_3 hcz19_4 hcz19_5 hcz19_6
   try clear hcz20_0 hcz20_1 hcz20_2 hcz20_3 hcz20_4 hcz20_5 hcz20_6
   try clear hcz6_0 hcz6_1 hcz6_2 hcz6_3 hcz6_4 hcz6_5 hcz6_6
   try clear hfz16_0 hfz16_1 hfz16_2 hfz16_3 hfz16_4 hfz16_5 hfz16_6
   try clear hfz17_0 hfz17_1 hfz17_2 hfz17_3 hfz17_4 hfz17_5 hfz17_6
   try clear hfz18_0 hfz18_1 hfz18_2 hfz18_3 hfz18_4 hfz18_5 hfz18_6
   try clear hfz19_0 hfz19_1 hfz19_2 hfz19_3 hfz19_4 hfz19_5 hfz19_6
   try clear hfz20_0 hfz20_1 hfz20_2 hfz20_3 hfz20_4 hfz20_5 hfz20_6
   try clear hfz6_0 hfz6_1 hfz6_2 hfz6_3 hfz6_4 hfz6_5 hfz6_6
   obtain ⟨kq, x38_3, rfl, HA, HJ3, BK130, HB⟩ := hcut
   cases kq with
   | zero => exact absurd HA.out (by simp [garmentref27_Check.j0])
   | succ kj3 =>
    have H := HA.out; clear HA; simp only [garmentref27_Check.j0] at H
    by_cases c21 : x38_3 = true
    ·subst c21
     have H1 : (some 3) = some r := by rw [if_pos rfl] at H; exact H
     clear H; have H := H1; clear H1; obtain rfl := Option.some.inj H
     go_wp2
     go_ret
     exact ⟨by first | rfl | (simp [errW_none, errW_some] <;> rfl) | (simp [*, errW_none, errW_some] <;> rfl), be HB.out⟩
    ·replace c21 := Bool.eq_false_iff.mpr c21; subst c21
     have H1 : (if (l0_6.length : Int) > 20 then (some 5) else (garmentref27_Check.l0 kj3 0 a0_0 a0_1 a0_2 a0_3 a0_4 a0_5 l0_6)) = some r := by rw [if_neg (show ¬ (false = true) by decide)] at H; exact H
     clear H; have H := H1; clear H1
     by_cases c22 : (l0_6.length : Int) > 20
     ·rw [if_pos c22] at H; have c22b0 : decide (20 < (l0_6.length : Int)) = true := decide_eq_true c22; have c22b1 : decide (20 < l0_6.length) = true := decide_eq_true (by omega); clear c22; obtain rfl := Option.some.inj H; have hcz23_0 := bc BK130.out 0 (.string a0_0) rfl; have hcz23_1 := bc BK130.out 1 (.int .i64 a0_1) rfl; have hcz23_2 := bc BK130.out 2 (.int .i64 a0_2) rfl; have hcz23_3 := bc BK130.out 3 (.int .i64 a0_3) rfl; have hcz23_4 := bc BK130.out 4 (.int .i64 a0_4) rfl; have hcz23_5 := bc BK130.out 5 (.int .i64 a0_5) rfl; have hcz23_6 := bc BK130.out 6 (.slice A0_6 l0_6.length c0_6) rfl; have hfz23_0 := blk_frozen BK130.out 0; have hfz23_1 := blk_frozen BK130.out 1; have hfz23_2 := blk_frozen BK130.out 2; have hfz23_3 := blk_frozen BK130.out 3; have hfz23_4 := blk_frozen BK130.out 4; have hfz23_5 := blk_frozen BK130.out 5; have hfz23_6 := blk_frozen BK130.out 6
      go_wp2
      go_ret
      exact ⟨by first | rfl | (simp [errW_none, errW_some] <;> rfl) | (simp [*, errW_none, errW_some] <;> rfl), be HB.out⟩
     ·rw [if_neg c22] at H; have c22b0 : decide (20 < (l0_6.length : Int)) = false := decide_eq_false c22; have c22b1 : decide (20 < l0_6.length) = false := decide_eq_false (by omega); clear c22; have H' := Aside0.mk H; clear H; have hcz24_0 := bc BK130.out 0 (.string a0_0) rfl; have hcz24_1 := bc BK130.out 1 (.int .i64 a0_1) rfl; have hcz24_2 := bc BK130.out 2 (.int .i64 a0_2) rfl; have hcz24_3 := bc BK130.out 3 (.int .i64 a0_3) rfl; have hcz24_4 := bc BK130.out 4 (.int .i64 a0_4) rfl; have hcz24_5 := bc BK130.out 5 (.int .i64 a0_5) rfl; have hcz24_6 := bc BK130.out 6 (.slice A0_6 l0_6.length c0_6) rfl; have hfz24_0 := blk_frozen BK130.out 0; have hfz24_1 := blk_frozen BK130.out 1; have hfz24_2 := blk_frozen BK130.out 2; have hfz24_3 := blk_frozen BK130.out 3; have hfz24_4 := blk_frozen BK130.out 4; have hfz24_5 := blk_frozen BK130.out 5; have hfz24_6 := blk_frozen BK130.out 6
      go_wp2
      go_loopg [3] kj3 (fun kq v3 w' => ∃ (x3_2 : Int), v3 = .int .i64 x3_2 ∧ Aside0 (garmentref27_Check.l0 kq x3_2 a0_0 a0_1 a0_2 a0_3 a0_4 a0_5 l0_6 = some r) ∧ Aside0 (kq ≤ kj3) ∧ Aside0 (w'.heap[gb130]? = some (.cells #[.string a0_0, .int .i64 a0_1, .int .i64 a0_2, .int .i64 a0_3, .int .i64 a0_4, .int .i64 a0_5, (.slice A0_6 l0_6.length c0_6)] 26 (0, 0))) ∧ Aside0 (Below w.heap.size w w'))
      case atStart => exact ⟨(0), (by first | rfl | (simp; done) | (simp [*]; done)), H', ⟨Nat.le_refl _⟩, ⟨bu (BK130.out)⟩, ⟨be HB.out⟩⟩
      case round =>
       clear H'
       try clear c1
       try clear c2
       try clear p2
       try clear c3
       try clear c8
       try clear c10
       try clear c12
       try clear c14
       try clear c21
       try clear c22
       try clear c22b0
       try clear c22b1
       try clear hcz16_0 hcz16_1 hcz16_2 hcz16_3 hcz16_4 hcz16_5 hcz16_6
       try clear hcz17_0 hcz17_1 hcz17_2 hcz17_3 hcz17_4 hcz17_5 hcz17_6
       try clear hcz18_0 hcz18_1 hcz18_2 hcz18_3 hcz18_4 hcz18_5 hcz18_6
       try clear hcz19_0 hcz19_1 hcz19_2 hcz19_3 hcz19_4 hcz19_5 hcz19_6
       try clear hcz20_0 hcz20_1 hcz20_2 hcz20_3 hcz20_4 hcz20_5 hcz20_6
       try clear hcz23_0 hcz23_1 hcz23_2 hcz23_3 hcz23_4 hcz23_5 hcz23_6
       try clear hcz24_0 hcz24_1 hcz24_2 hcz24_3 hcz24_4 hcz24_5 hcz24_6
       try clear hcz6_0 hcz6_1 hcz6_2 hcz6_3 hcz6_4 hcz6_5 hcz6_6
       try clear hfz16_0 hfz16_1 hfz16_2 hfz16_3 hfz16_4 hfz16_5 hfz16_6
       try clear hfz17_0 hfz17_1 hfz17_2 hfz17_3 hfz17_4 hfz17_5 hfz17_6
       try clear hfz18_0 hfz18_1 hfz18_2 hfz18_3 hfz18_4 hfz18_5 hfz18_6
       try clear hfz19_0 hfz19_1 hfz19_2 hfz19_3 hfz19_4 hfz19_5 hfz19_6
       try clear hfz20_0 hfz20_1 hfz20_2 hfz20_3 hfz20_4 hfz20_5 hfz20_6
       try clear hfz23_0 hfz23_1 hfz23_2 hfz23_3 hfz23_4 hfz23_5 hfz23_6
       try clear hfz24_0 hfz24_1 hfz24_2 hfz24_3 hfz24_4 hfz24_5 hfz24_6
       try clear hfz6_0 hfz6_1 hfz6_2 hfz6_3 hfz6_4 hfz6_5 hfz6_6
       try clear p2
       obtain ⟨x3_2, rfl, HA, HK2, BK130, HB⟩ := hrel
       cases gk with
       | zero => exact absurd HA.out (by simp [garmentref27_Check.l0])
       | succ k2 =>
        have H := HA.out; clear HA; simp only [garmentref27_Check.l0] at H
        by_cases c25 : x3_2 < (l0_6.length : Int)
        ·rw [if_pos c25] at H; have c25b0 : decide (x3_2 < (l0_6.length : Int)) = true := decide_eq_true c25; clear c25
         by_cases c26 : 0 ≤ x3_2
         ·rw [if_pos c26] at H; have c26b0 : decide (0 ≤ x3_2) = true := decide_eq_true c26; clear c26; replace H := Option.bind_eq_some_iff.mp H; obtain ⟨t138, A270, H⟩ := H; replace H : (if t138 = true then (garmentref27_Check.l0 k2 (wrap64 (x3_2 + 1)) a0_0 a0_1 a0_2 a0_3 a0_4 a0_5 l0_6) else (some 3)) = some r := H; have A27 := Aside0.mk A270; clear A270
          by_cases c28 : t138 = true
          ·subst c28
           have H1 : (garmentref27_Check.l0 k2 (wrap64 (x3_2 + 1)) a0_0 a0_1 a0_2 a0_3 a0_4 a0_5 l0_6) = some r := by rw [if_pos rfl] at H; exact H
           clear H; have H := H1; clear H1; have H' := Aside0.mk H; clear H; have hcz29_0 := bc BK130.out 0 (.string a0_0) rfl; have hcz29_1 := bc BK130.out 1 (.int .i64 a0_1) rfl; have hcz29_2 := bc BK130.out 2 (.int .i64 a0_2) rfl; have hcz29_3 := bc BK130.out 3 (.int .i64 a0_3) rfl; have hcz29_4 := bc BK130.out 4 (.int .i64 a0_4) rfl; have hcz29_5 := bc BK130.out 5 (.int .i64 a0_5) rfl; have hcz29_6 := bc BK130.out 6 (.slice A0_6 l0_6.length c0_6) rfl; have hfz29_0 := blk_frozen BK130.out 0; have hfz29_1 := blk_frozen BK130.out 1; have hfz29_2 := blk_frozen BK130.out 2; have hfz29_3 := blk_frozen BK130.out 3; have hfz29_4 := blk_frozen BK130.out 4; have hfz29_5 := blk_frozen BK130.out 5; have hfz29_6 := blk_frozen BK130.out 6
           try go_wp2
           replace BK130 := Aside0.mk (blk_drew BK130.out); replace HB := Aside0.mk (below_drew1 HB.out); have p137 : 0 ≤ (x3_2 : Int) := oda; have q137 : x3_2 < (l0_6.length : Int) := oda; obtain ⟨ad137, e137, hx137_0, hx137_1, hx137_2, hx137_3⟩ := at_T46 HR0_6.out x3_2 p137 q137; have hw137_3 := hx137_3; have hw137_2 := hx137_2; have hw137_1 := hx137_1; have hw137_0 := hx137_0; cases e137; replace hx137_0 := (HB.out.cell (World.block_lt_of_cell? w _ hx137_0)).trans hx137_0; replace hx137_1 := (HB.out.cell (World.block_lt_of_cell? w _ hx137_1)).trans hx137_1; replace hx137_2 := (HB.out.cell (World.block_lt_of_cell? w _ hx137_2)).trans hx137_2; replace hx137_3 := (HB.out.cell (World.block_lt_of_cell? w _ hx137_3)).trans hx137_3; replace p137 := eq_true p137; replace q137 := eq_true q137
           refine start_ (n := 8) (S := fun w' => w'.cell? ⟨gb130, 0, none⟩ = some (.string a0_0) ∧ w'.cell? ⟨gb130, 1, none⟩ = some (.int .i64 a0_1) ∧ w'.cell? ⟨gb130, 2, none⟩ = some (.int .i64 a0_2) ∧ w'.cell? ⟨gb130, 3, none⟩ = some (.int .i64 a0_3) ∧ w'.cell? ⟨gb130, 4, none⟩ = some (.int .i64 a0_4) ∧ w'.cell? ⟨gb130, 5, none⟩ = some (.int .i64 a0_5) ∧ w'.cell? ⟨gb130, 6, none⟩ = some (.slice (some ad137) l0_6.length c0_6) ∧ w'.cell? (ad137.add ((x3_2).toNat * 4)) = some (.int .i64 ((rd_T46 l0_6 x3_2).f0)) ∧ w'.cell? ⟨(ad137.add ((x3_2).toNat * 4)).block, (ad137.add ((x3_2).toNat * 4)).off + 1, none⟩ = some (.int .i64 ((rd_T46 l0_6 x3_2).f1)) ∧ w'.cell? ⟨(ad137.add ((x3_2).toNat * 4)).block, (ad137.add ((x3_2).toNat * 4)).off + 2, none⟩ = some (.int .i64 ((rd_T46 l0_6 x3_2).f2)) ∧ w'.cell? ⟨(ad137.add ((x3_2).toNat * 4)).block, (ad137.add ((x3_2).toNat * 4)).off + 3, none⟩ = some (.int .i64 ((rd_T46 l0_6 x3_2).f3))) (ds := []) #[false, false, false, false, false, false, false, false] (by kernel_rfl) rfl rfl ⟨(blk_cell BK130.out 0).trans rfl, (blk_cell BK130.out 1).trans rfl, (blk_cell BK130.out 2).trans rfl, (blk_cell BK130.out 3).trans rfl, (blk_cell BK130.out 4).trans rfl, (blk_cell BK130.out 5).trans rfl, (blk_cell BK130.out 6).trans rfl, ((HB.out.cell (World.block_lt_of_cell? w _ hw137_0)).trans hw137_0), ((HB.out.cell (World.block_lt_of_cell? w _ hw137_1)).trans hw137_1), ((HB.out.cell (World.block_lt_of_cell? w _ hw137_2)).trans hw137_2), ((HB.out.cell (World.block_lt_of_cell? w _ hw137_3)).trans hw137_3)⟩ (fun hHeld => ?_); refine with_tabW garmentref27_Check.tab10 garmentref27_Check.bits10 (fun HT_ HW_ => ?_)
           generalize wr.drew = w30 at BK130 HB hx137_0 hx137_1 hx137_2 hx137_3 hHeld ⊢; refine pureA (i := 0) (N := some 50) #[true, false, false, false, false, false, false, false] rfl rfl HT_.out (by kernel_rfl) ?_; refine pureA (i := 2) (N := some 52) #[true, false, true, false, false, false, false, false] rfl rfl HT_.out (by kernel_rfl) ?_; refine take_ (i := 1) (N := some 51) (v := ?_) (a' := ?_) #[true, true, true, false, false, false, false, false] rfl rfl (take_ofW HT_.out HW_.out (by kernel_rfl)) (fun _ _ _ h => h) (Or.inl ⟨by rfl, ?_⟩) hHeld ?_ ?_
           rotate_left
           ·rintro w' ⟨s0, s1, s2, s3, s4, s5, s6, s7, s8, s9, s10⟩
            go_simp
            with_reducible rfl
           rotate_left
           ·simp only [Act.put, List.setIfInBounds_toArray, List.set_cons_zero, List.set_cons_succ, i64_w, i32_w]
            rfl
           refine pureA (i := 3) (N := some 53) #[true, true, true, true, false, false, false, false] rfl rfl HT_.out (by kernel_rfl) ?_; refine take_ (i := 4) (N := some 54) (v := ?_) (a' := ?_) #[true, true, true, true, true, false, false, false] rfl rfl (take_ofW HT_.out HW_.out (by kernel_rfl)) (fun _ _ _ h => h) (Or.inl ⟨by rfl, ?_⟩) hHeld ?_ ?_
           rotate_left
           ·rintro w' ⟨s0, s1, s2, s3, s4, s5, s6, s7, s8, s9, s10⟩
            go_simp
            with_reducible rfl
           rotate_left
           ·simp only [Act.put, List.setIfInBounds_toArray, List.set_cons_zero, List.set_cons_succ, i64_w, i32_w]
            rfl
           refine take_ (i := 5) (N := some 55) (v := ?_) (a' := ?_) #[true, true, true, true, true, true, false, false] rfl rfl (take_ofW HT_.out HW_.out (by kernel_rfl)) (fun _ _ _ h => h) (Or.inl ⟨by rfl, ?_⟩) hHeld ?_ ?_
           rotate_left
           ·rintro w' ⟨s0, s1, s2, s3, s4, s5, s6, s7, s8, s9, s10⟩
            go_simp
            with_reducible rfl
           rotate_left
           ·simp only [Act.put, List.setIfInBounds_toArray, List.set_cons_zero, List.set_cons_succ, i64_w, i32_w]
            rfl
           refine one_ (i := 6) (N := some 56) #[true, true, true, true, true, true, true, false] rfl rfl (one_of HT_.out (by kernel_rfl)) (by decide) (fun K hK => ?_); refine goes_ Tryz.func29 (by kernel_rfl) rfl #[.agg #[.int .i64 ((rd_T46 l0_6 x3_2).f0), .int .i64 ((rd_T46 l0_6 x3_2).f1), .int .i64 ((rd_T46 l0_6 x3_2).f2), .int .i64 ((rd_T46 l0_6 x3_2).f3)], .agg #[.string a0_0, .int .i64 a0_1, .int .i64 a0_2, .int .i64 a0_3, .int .i64 a0_4, .int .i64 a0_5, .slice (some ad137) l0_6.length c0_6]] (by rfl) rfl rfl (by (try simp only [List.map_toArray, List.map_cons, List.map_nil]); first | done | rfl | (simp only [List.length_drop, List.length_take]; rfl)) ?_
           with_reducible refine (garmentref27_fits.calls ((rd_T46 l0_6 x3_2).f0) ((rd_T46 l0_6 x3_2).f1) ((rd_T46 l0_6 x3_2).f2) ((rd_T46 l0_6 x3_2).f3) a0_0 a0_1 a0_2 a0_3 a0_4 a0_5 _ _ l0_6 true _ ?side1 ?side2 A27.out).mono ?_
           (case side1 => exact cu (Kd.C_below HR0_6.out HB.out))
           (case side2 => exact HC0_6.out)
           rintro e w31 ⟨rfl, hb⟩
           refine ⟨_, rfl, ?_⟩; replace BK130 := Aside0.mk (blk_below (bu BK130.out) hb); replace HB := Aside0.mk (below_step (be HB.out) hb)
           (try clear hb)
           (try clear hb2)
           (try clear hk)
           (try clear hi)
           refine hK.out _ _ ⟨(blk_cell BK130.out 0).trans rfl, (blk_cell BK130.out 1).trans rfl, (blk_cell BK130.out 2).trans rfl, (blk_cell BK130.out 3).trans rfl, (blk_cell BK130.out 4).trans rfl, (blk_cell BK130.out 5).trans rfl, (blk_cell BK130.out 6).trans rfl, ((HB.out.cell (World.block_lt_of_cell? w _ hw137_0)).trans hw137_0), ((HB.out.cell (World.block_lt_of_cell? w _ hw137_1)).trans hw137_1), ((HB.out.cell (World.block_lt_of_cell? w _ hw137_2)).trans hw137_2), ((HB.out.cell (World.block_lt_of_cell? w _ hw137_3)).trans hw137_3)⟩ (fun hHeld => ?_); clear hK K; refine norm_ (a' := ?_) ?_ ?_
           rotate_left
           ·show Act.put _ (some 56) _ = _
            simp only [Act.put, List.setIfInBounds_toArray, List.set_cons_zero, List.set_cons_succ, i64_w, i32_w]
            rfl
           refine pureA (i := 7) (N := some 57) #[true, true, true, true, true, true, true, true] rfl rfl HT_.out (by kernel_rfl) ?_; refine done_ (done_of HT_.out (by kernel_rfl)) ?_
           try go_wp2
           go_roundg k2
           case measure => have := HJ3.out; have := HK2.out; omega
           case rel => exact ⟨(wrap64 (x3_2 + 1)), (by first | rfl | (simp; done) | (simp [*]; done)), H', ⟨by have := HJ3.out; have := HK2.out; omega⟩, ⟨bu (BK130.out)⟩, ⟨be HB.out⟩⟩
          ·replace c28 := Bool.eq_false_iff.mpr c28; subst c28
           have H1 : (some 3) = some r := by rw [if_neg (show ¬ (false = true) by decide)] at H; exact H
           clear H; have H := H1; clear H1; obtain rfl := Option.some.inj H; have hcz32_0 := bc BK130.out 0 (.string a0_0) rfl; have hcz32_1 := bc BK130.out 1 (.int .i64 a0_1) rfl; have hcz32_2 := bc BK130.out 2 (.int .i64 a0_2) rfl; have hcz32_3 := bc BK130.out 3 (.int .i64 a0_3) rfl; have hcz32_4 := bc BK130.out 4 (.int .i64 a0_4) rfl; have hcz32_5 := bc BK130.out 5 (.int .i64 a0_5) rfl; have hcz32_6 := bc BK130.out 6 (.slice A0_6 l0_6.length c0_6) rfl; have hfz32_0 := blk_frozen BK130.out 0; have hfz32_1 := blk_frozen BK130.out 1; have hfz32_2 := blk_frozen BK130.out 2; have hfz32_3 := blk_frozen BK130.out 3; have hfz32_4 := blk_frozen BK130.out 4; have hfz32_5 := blk_frozen BK130.out 5; have hfz32_6 := blk_frozen BK130.out 6
           try go_wp2
           replace BK130 := Aside0.mk (blk_drew BK130.out); replace HB := Aside0.mk (below_drew1 HB.out); have p137 : 0 ≤ (x3_2 : Int) := oda; have q137 : x3_2 < (l0_6.length : Int) := oda; obtain ⟨ad137, e137, hx137_0, hx137_1, hx137_2, hx137_3⟩ := at_T46 HR0_6.out x3_2 p137 q137; have hw137_3 := hx137_3; have hw137_2 := hx137_2; have hw137_1 := hx137_1; have hw137_0 := hx137_0; cases e137; replace hx137_0 := (HB.out.cell (World.block_lt_of_cell? w _ hx137_0)).trans hx137_0; replace hx137_1 := (HB.out.cell (World.block_lt_of_cell? w _ hx137_1)).trans hx137_1; replace hx137_2 := (HB.out.cell (World.block_lt_of_cell? w _ hx137_2)).trans hx137_2; replace hx137_3 := (HB.out.cell (World.block_lt_of_cell? w _ hx137_3)).trans hx137_3; replace p137 := eq_true p137; replace q137 := eq_true q137
           refine start_ (n := 8) (S := fun w' => w'.cell? ⟨gb130, 0, none⟩ = some (.string a0_0) ∧ w'.cell? ⟨gb130, 1, none⟩ = some (.int .i64 a0_1) ∧ w'.cell? ⟨gb130, 2, none⟩ = some (.int .i64 a0_2) ∧ w'.cell? ⟨gb130, 3, none⟩ = some (.int .i64 a0_3) ∧ w'.cell? ⟨gb130, 4, none⟩ = some (.int .i64 a0_4) ∧ w'.cell? ⟨gb130, 5, none⟩ = some (.int .i64 a0_5) ∧ w'.cell? ⟨gb130, 6, none⟩ = some (.slice (some ad137) l0_6.length c0_6) ∧ w'.cell? (ad137.add ((x3_2).toNat * 4)) = some (.int .i64 ((rd_T46 l0_6 x3_2).f0)) ∧ w'.cell? ⟨(ad137.add ((x3_2).toNat * 4)).block, (ad137.add ((x3_2).toNat * 4)).off + 1, none⟩ = some (.int .i64 ((rd_T46 l0_6 x3_2).f1)) ∧ w'.cell? ⟨(ad137.add ((x3_2).toNat * 4)).block, (ad137.add ((x3_2).toNat * 4)).off + 2, none⟩ = some (.int .i64 ((rd_T46 l0_6 x3_2).f2)) ∧ w'.cell? ⟨(ad137.add ((x3_2).toNat * 4)).block, (ad137.add ((x3_2).toNat * 4)).off + 3, none⟩ = some (.int .i64 ((rd_T46 l0_6 x3_2).f3))) (ds := []) #[false, false, false, false, false, false, false, false] (by kernel_rfl) rfl rfl ⟨(blk_cell BK130.out 0).trans rfl, (blk_cell BK130.out 1).trans rfl, (blk_cell BK130.out 2).trans rfl, (blk_cell BK130.out 3).trans rfl, (blk_cell BK130.out 4).trans rfl, (blk_cell BK130.out 5).trans rfl, (blk_cell BK130.out 6).trans rfl, ((HB.out.cell (World.block_lt_of_cell? w _ hw137_0)).trans hw137_0), ((HB.out.cell (World.block_lt_of_cell? w _ hw137_1)).trans hw137_1), ((HB.out.cell (World.block_lt_of_cell? w _ hw137_2)).trans hw137_2), ((HB.out.cell (World.block_lt_of_cell? w _ hw137_3)).trans hw137_3)⟩ (fun hHeld => ?_); refine with_tabW garmentref27_Check.tab10 garmentref27_Check.bits10 (fun HT_ HW_ => ?_)
           generalize wr.drew = w33 at BK130 HB hx137_0 hx137_1 hx137_2 hx137_3 hHeld ⊢; refine pureA (i := 0) (N := some 50) #[true, false, false, false, false, false, false, false] rfl rfl HT_.out (by kernel_rfl) ?_; refine pureA (i := 2) (N := some 52) #[true, false, true, false, false, false, false, false] rfl rfl HT_.out (by kernel_rfl) ?_; refine take_ (i := 1) (N := some 51) (v := ?_) (a' := ?_) #[true, true, true, false, false, false, false, false] rfl rfl (take_ofW HT_.out HW_.out (by kernel_rfl)) (fun _ _ _ h => h) (Or.inl ⟨by rfl, ?_⟩) hHeld ?_ ?_
           rotate_left
           ·rintro w' ⟨s0, s1, s2, s3, s4, s5, s6, s7, s8, s9, s10⟩
            go_simp
            with_reducible rfl
           rotate_left
           ·simp only [Act.put, List.setIfInBounds_toArray, List.set_cons_zero, List.set_cons_succ, i64_w, i32_w]
            rfl
           refine pureA (i := 3) (N := some 53) #[true, true, true, true, false, false, false, false] rfl rfl HT_.out (by kernel_rfl) ?_; refine take_ (i := 4) (N := some 54) (v := ?_) (a' := ?_) #[true, true, true, true, true, false, false, false] rfl rfl (take_ofW HT_.out HW_.out (by kernel_rfl)) (fun _ _ _ h => h) (Or.inl ⟨by rfl, ?_⟩) hHeld ?_ ?_
           rotate_left
           ·rintro w' ⟨s0, s1, s2, s3, s4, s5, s6, s7, s8, s9, s10⟩
            go_simp
            with_reducible rfl
           rotate_left
           ·simp only [Act.put, List.setIfInBounds_toArray, List.set_cons_zero, List.set_cons_succ, i64_w, i32_w]
            rfl
           refine take_ (i := 5) (N := some 55) (v := ?_) (a' := ?_) #[true, true, true, true, true, true, false, false] rfl rfl (take_ofW HT_.out HW_.out (by kernel_rfl)) (fun _ _ _ h => h) (Or.inl ⟨by rfl, ?_⟩) hHeld ?_ ?_
           rotate_left
           ·rintro w' ⟨s0, s1, s2, s3, s4, s5, s6, s7, s8, s9, s10⟩
            go_simp
            with_reducible rfl
           rotate_left
           ·simp only [Act.put, List.setIfInBounds_toArray, List.set_cons_zero, List.set_cons_succ, i64_w, i32_w]
            rfl
           refine one_ (i := 6) (N := some 56) #[true, true, true, true, true, true, true, false] rfl rfl (one_of HT_.out (by kernel_rfl)) (by decide) (fun K hK => ?_); refine goes_ Tryz.func29 (by kernel_rfl) rfl #[.agg #[.int .i64 ((rd_T46 l0_6 x3_2).f0), .int .i64 ((rd_T46 l0_6 x3_2).f1), .int .i64 ((rd_T46 l0_6 x3_2).f2), .int .i64 ((rd_T46 l0_6 x3_2).f3)], .agg #[.string a0_0, .int .i64 a0_1, .int .i64 a0_2, .int .i64 a0_3, .int .i64 a0_4, .int .i64 a0_5, .slice (some ad137) l0_6.length c0_6]] (by rfl) rfl rfl (by (try simp only [List.map_toArray, List.map_cons, List.map_nil]); first | done | rfl | (simp only [List.length_drop, List.length_take]; rfl)) ?_
           with_reducible refine (garmentref27_fits.calls ((rd_T46 l0_6 x3_2).f0) ((rd_T46 l0_6 x3_2).f1) ((rd_T46 l0_6 x3_2).f2) ((rd_T46 l0_6 x3_2).f3) a0_0 a0_1 a0_2 a0_3 a0_4 a0_5 _ _ l0_6 false _ ?side1 ?side2 A27.out).mono ?_
           (case side1 => exact cu (Kd.C_below HR0_6.out HB.out))
           (case side2 => exact HC0_6.out)
           rintro e w34 ⟨rfl, hb⟩
           refine ⟨_, rfl, ?_⟩; replace BK130 := Aside0.mk (blk_below (bu BK130.out) hb); replace HB := Aside0.mk (below_step (be HB.out) hb)
           (try clear hb)
           (try clear hb2)
           (try clear hk)
           (try clear hi)
           refine hK.out _ _ ⟨(blk_cell BK130.out 0).trans rfl, (blk_cell BK130.out 1).trans rfl, (blk_cell BK130.out 2).trans rfl, (blk_cell BK130.out 3).trans rfl, (blk_cell BK130.out 4).trans rfl, (blk_cell BK130.out 5).trans rfl, (blk_cell BK130.out 6).trans rfl, ((HB.out.cell (World.block_lt_of_cell? w _ hw137_0)).trans hw137_0), ((HB.out.cell (World.block_lt_of_cell? w _ hw137_1)).trans hw137_1), ((HB.out.cell (World.block_lt_of_cell? w _ hw137_2)).trans hw137_2), ((HB.out.cell (World.block_lt_of_cell? w _ hw137_3)).trans hw137_3)⟩ (fun hHeld => ?_); clear hK K; refine norm_ (a' := ?_) ?_ ?_
           rotate_left
           ·show Act.put _ (some 56) _ = _
            simp only [Act.put, List.setIfInBounds_toArray, List.set_cons_zero, List.set_cons_succ, i64_w, i32_w]
            rfl
           refine pureA (i := 7) (N := some 57) #[true, true, true, true, true, true, true, true] rfl rfl HT_.out (by kernel_rfl) ?_; refine done_ (done_of HT_.out (by kernel_rfl)) ?_
           try go_wp2
           go_ret
           exact ⟨by first | rfl | (simp [errW_none, errW_some] <;> rfl) | (simp [*, errW_none, errW_some] <;> rfl), be HB.out⟩
         ·rw [if_neg c26] at H; exact absurd H (by simp)
        ·rw [if_neg c25] at H; have c25b0 : decide (x3_2 < (l0_6.length : Int)) = false := decide_eq_false c25; clear c25; obtain rfl := Option.some.inj H; have hcz35_0 := bc BK130.out 0 (.string a0_0) rfl; have hcz35_1 := bc BK130.out 1 (.int .i64 a0_1) rfl; have hcz35_2 := bc BK130.out 2 (.int .i64 a0_2) rfl; have hcz35_3 := bc BK130.out 3 (.int .i64 a0_3) rfl; have hcz35_4 := bc BK130.out 4 (.int .i64 a0_4) rfl; have hcz35_5 := bc BK130.out 5 (.int .i64 a0_5) rfl; have hcz35_6 := bc BK130.out 6 (.slice A0_6 l0_6.length c0_6) rfl; have hfz35_0 := blk_frozen BK130.out 0; have hfz35_1 := blk_frozen BK130.out 1; have hfz35_2 := blk_frozen BK130.out 2; have hfz35_3 := blk_frozen BK130.out 3; have hfz35_4 := blk_frozen BK130.out 4; have hfz35_5 := blk_frozen BK130.out 5; have hfz35_6 := blk_frozen BK130.out 6
         go_wp2
         go_ret
         exact ⟨by first | rfl | (simp [errW_none, errW_some] <;> rfl) | (simp [*, errW_none, errW_some] <;> rfl), be HB.out⟩
 ·replace c3 := Bool.eq_false_iff.mpr c3; subst c3
  have H1 : (some 1) = some r := by rw [if_neg (show ¬ (false = true) by decide)] at H; exact H
  clear H; have H := H1; clear H1; obtain rfl := Option.some.inj H
  go_enter Tryz.func12, Tryz.ntmps12
  go_wp2_with (first | ((with_reducible refine gate_dst (N := 1) rfl ?_); refine box_event ?hg (N := 1) ?hd (cs := #[.string a0_0, .int .i64 a0_1, .int .i64 a0_2, .int .i64 a0_3, .int .i64 a0_4, .int .i64 a0_5, .slice A0_6 l0_6.length c0_6]) (t := 26) ?hr ?_; (case hd => rfl); (case hg => rfl); (case hr => first | (go_simp; done) | (go_simp; rfl)); intro gb130 hg w36 hbox hb; have BK130 := Aside0.mk (hbox); have GW130 := Aside0.mk ((by rw [hg]; exact (below_size (be HB.out)) : w.heap.size ≤ gb130)); have GE130 := Aside0.mk ((by rw [hg]; exact (below_size (be HB.out)) : w.heap.size ≤ gb130)); replace HB := Aside0.mk (below_step (be HB.out) hb); clear hb hbox hg; have hcz37_0 := bc BK130.out 0 (.string a0_0) rfl; have hcz37_1 := bc BK130.out 1 (.int .i64 a0_1) rfl; have hcz37_2 := bc BK130.out 2 (.int .i64 a0_2) rfl; have hcz37_3 := bc BK130.out 3 (.int .i64 a0_3) rfl; have hcz37_4 := bc BK130.out 4 (.int .i64 a0_4) rfl; have hcz37_5 := bc BK130.out 5 (.int .i64 a0_5) rfl; have hcz37_6 := bc BK130.out 6 (.slice A0_6 l0_6.length c0_6) rfl; have hfz37_0 := blk_frozen BK130.out 0; have hfz37_1 := blk_frozen BK130.out 1; have hfz37_2 := blk_frozen BK130.out 2; have hfz37_3 := blk_frozen BK130.out 3; have hfz37_4 := blk_frozen BK130.out 4; have hfz37_5 := blk_frozen BK130.out 5; have hfz37_6 := blk_frozen BK130.out 6) | ((with_reducible refine gate_callee (f := 27) rfl ?_); refine goesA (some 6) rfl rfl Tryz.func27 (by kernel_rfl) rfl #[.string a0_0] rfl ?_; (with_reducible refine (garmentref27_id.calls k a0_0 false _ A2.out).mono ?_); rintro e w' ⟨rfl, ⟨nd, rfl⟩⟩; refine ⟨_, rfl, ?_⟩))
  go_ret
  exact ⟨by first | rfl | (simp [errW_none, errW_some] <;> rfl) | (simp [*, errW_none, errW_some] <;> rfl), be HB.out⟩

end Go.Proofs.YtdblkmnbkpphjaaGreatDoor.P
namespace Go.Proofs.YtdblkmnbkpphjaaGreatDoor.P
open Go.RowKit Go.Proofs.YtdblkmnbkpphjaaGreatDoorW.PrintWords Go.Proofs.YtdblkmnbkpphjaaGreatDoorW.PrintLast Go.Proofs.YtdblkmnbkpphjaaGreatDoorW.PrintMore Go.Proofs.YtdblkmnbkpphjaaGreatDoorW.PrintAuto
attribute [local go_sem] max2_int min2_int max_two min_two max_three min_three max_four min_four   -- for this text's walks alone
set_option linter.unusedVariables false
set_option linter.unusedSimpArgs false

--IMPORT Derived.Test.YtdblkmnbkpphjaaGreatDoorGL
def garmentlaw27_RollChecks.f (k : Nat) (a0_0 : ByteArray) (a0_1 : Int) (a0_2 : Int) (a0_3 : Int) (a0_4 : Int) (a0_5 : Int) (l0_6 : List (S46)) : Option (Bool) := (garmentlaw27_few.f k a0_0 a0_1 a0_2 a0_3 a0_4 a0_5 l0_6).bind fun t224 => (if t224 = true then ((roll_Check.f k a0_0 a0_1 a0_2 a0_3 a0_4 a0_5 l0_6).bind fun t225 => ((garmentref27_Check.f k a0_0 a0_1 a0_2 a0_3 a0_4 a0_5 l0_6).bind fun t226 => (if t225 = t226 then ((garmentlaw27_exampleHolds.f).bind fun t227 => (some t227)) else (some false)))) else ((garmentlaw27_exampleHolds.f).bind fun t228 => (some t228)))
theorem garmentlaw27_RollChecks.mono : ∀ a0 a1 a2 a3 a4 a5 a6 k, LeO (garmentlaw27_RollChecks.f k a0 a1 a2 a3 a4 a5 a6) (garmentlaw27_RollChecks.f (k + 1) a0 a1 a2 a3 a4 a5 a6) := by
 intro a0 a1 a2 a3 a4 a5 a6 k
 unfold garmentlaw27_RollChecks.f
 repeat' first
  | (with_reducible exact garmentlaw27_few.mono _ _ _ _ _ _ _ _)
  | (with_reducible exact garmentref27_Check.mono _ _ _ _ _ _ _ _)
  | (with_reducible exact roll_Check.mono _ _ _ _ _ _ _ _)
  | (with_reducible exact LeO.refl _)
  | (with_reducible exact LeO.none _)
  | (with_reducible refine LeO.ite ?_ ?_)
  | (with_reducible refine LeO.bind ?_ (fun _ => ?_))
  | exact garmentlaw27_few.mono _ _ _ _ _ _ _ _
  | exact garmentref27_Check.mono _ _ _ _ _ _ _ _
  | exact roll_Check.mono _ _ _ _ _ _ _ _
  | exact LeO.none _
  | refine LeO.ite ?_ ?_
  | refine LeO.bind ?_ (fun _ => ?_)
def garmentlaw27_RollChecks.T1 : Bool × List (List Nat × List Nat) := (true, [([], []), ([0], [0]), ([1], [1]), ([2, 1], [2]), ([3], [3]), ([4, 3, 3], [3, 4]), ([3], [3]), ([6, 5, 3], [3, 6]), ([5, 7, 3], [3, 5, 7]), ([3, 8], [3, 8]), ([9, 7], [9]), ([10, 10], [10]), ([10, 11], [10, 11]), ([12, 11, 0, 1, 2, 3, 4, 5, 6, 7, 8, 9, 10, 11, 12], [12])])
def garmentlaw27_RollChecks.B1 : List Nat := [0, 1, 3, 7, 15, 31, 15, 127, 255, 511, 1023, 2047, 4095, 8191]
theorem garmentlaw27_RollChecks.tab1 : rtab .any (opsOf Tryz.f3 1) = garmentlaw27_RollChecks.T1 := by kernel_rfl
theorem garmentlaw27_RollChecks.bits1 : waitsOk garmentlaw27_RollChecks.T1.2 garmentlaw27_RollChecks.B1 = true := by kernel_rfl
set_option maxHeartbeats 8000000 in
set_option maxRecDepth 100000 in
theorem garmentlaw27_RollChecks.calls (k : Nat) (a0_0 : ByteArray) (a0_1 : Int) (a0_2 : Int) (a0_3 : Int) (a0_4 : Int) (a0_5 : Int) (A0_6 : Option Addr) (c0_6 : Nat) (l0_6 : List (S46)) (r : Bool) (w : World) (hr0_6 : Kd.C k46 w A0_6 l0_6.length l0_6) (hc0_6 : l0_6.length ≤ c0_6) (h : garmentlaw27_RollChecks.f k a0_0 a0_1 a0_2 a0_3 a0_4 a0_5 l0_6 = some r) (hG : Aside0 (GL w)) :
  Calls Tryz.prog 3 #[.agg #[.string a0_0, .int .i64 a0_1, .int .i64 a0_2, .int .i64 a0_3, .int .i64 a0_4, .int .i64 a0_5, .slice A0_6 l0_6.length c0_6]] w fun e w' => e = .returned (.bool r) ∧ Below w.heap.size w w' := by
 have hu26 := Tryz.underlying26; have HR0_6 := Aside0.mk hr0_6; have HC0_6 := Aside0.mk hc0_6; clear hr0_6 hc0_6; have HB := Aside0.mk (Below.refl w.heap.size w); have H : ((garmentlaw27_few.f k a0_0 a0_1 a0_2 a0_3 a0_4 a0_5 l0_6).bind fun t224 => (if t224 = true then ((roll_Check.f k a0_0 a0_1 a0_2 a0_3 a0_4 a0_5 l0_6).bind fun t225 => ((garmentref27_Check.f k a0_0 a0_1 a0_2 a0_3 a0_4 a0_5 l0_6).bind fun t226 => (if t225 = t226 then ((garmentlaw27_exampleHolds.f).bind fun t227 => (some t227)) else (some false)))) else ((garmentlaw27_exampleHolds.f).bind fun t228 => (some t228)))) = some r := h; clear h; replace H := Option.bind_eq_some_iff.mp H; obtain ⟨t224, A20, H⟩ := H; replace H : (if t224 = true then ((roll_Check.f k a0_0 a0_1 a0_2 a0_3 a0_4 a0_5 l0_6).bind fun t225 => ((garmentref27_Check.f k a0_0 a0_1 a0_2 a0_3 a0_4 a0_5 l0_6).bind fun t226 => (if t225 = t226 then ((garmentlaw27_exampleHolds.f).bind fun t227 => (some t227)) else (some false)))) else ((garmentlaw27_exampleHolds.f).bind fun t228 => (some t228))) = some r := H; have A2 := Aside0.mk A20; clear A20
 by_cases c3 : t224 = true
 ·subst c3
  have H1 : ((roll_Check.f k a0_0 a0_1 a0_2 a0_3 a0_4 a0_5 l0_6).bind fun t225 => ((garmentref27_Check.f k a0_0 a0_1 a0_2 a0_3 a0_4 a0_5 l0_6).bind fun t226 => (if t225 = t226 then ((garmentlaw27_exampleHolds.f).bind fun t227 => (some t227)) else (some false)))) = some r := by rw [if_pos rfl] at H; exact H
  clear H; have H := H1; clear H1; replace H := Option.bind_eq_some_iff.mp H; obtain ⟨t225, A40, H⟩ := H; replace H : ((garmentref27_Check.f k a0_0 a0_1 a0_2 a0_3 a0_4 a0_5 l0_6).bind fun t226 => (if t225 = t226 then ((garmentlaw27_exampleHolds.f).bind fun t227 => (some t227)) else (some false))) = some r := H; have A4 := Aside0.mk A40; clear A40; replace H := Option.bind_eq_some_iff.mp H; obtain ⟨t226, A50, H⟩ := H; replace H : (if t225 = t226 then ((garmentlaw27_exampleHolds.f).bind fun t227 => (some t227)) else (some false)) = some r := H; have A5 := Aside0.mk A50; clear A50
  by_cases c6 : t225 = t226
  ·rw [if_pos c6] at H; have c6b0 : (t225 == t226) = true := beq_iff_eq.mpr c6; have c6b1 : (t225 != t226) = false := bne_eq_false_iff_eq.mpr c6; clear c6; replace H := Option.bind_eq_some_iff.mp H; obtain ⟨t227, A70, H⟩ := H; replace H : (some t227) = some r := H; have A7 := Aside0.mk A70; clear A70; obtain rfl := Option.some.inj H
   go_enter Tryz.func3, Tryz.ntmps3
   try go_wp2_with (first | ((with_reducible refine gate_dst (N := 1) rfl ?_); refine box_event ?hg (N := 1) ?hd (cs := #[.string a0_0, .int .i64 a0_1, .int .i64 a0_2, .int .i64 a0_3, .int .i64 a0_4, .int .i64 a0_5, .slice A0_6 l0_6.length c0_6]) (t := 26) ?hr ?_; (case hd => rfl); (case hg => rfl); (case hr => first | (go_simp; done) | (go_simp; rfl)); intro gb223 hg w8 hbox hb; have BK223 := Aside0.mk (hbox); have GW223 := Aside0.mk ((by rw [hg]; exact (below_size (be HB.out)) : w.heap.size ≤ gb223)); have GE223 := Aside0.mk ((by rw [hg]; exact (below_size (be HB.out)) : w.heap.size ≤ gb223)); replace HB := Aside0.mk (below_step (be HB.out) hb); clear hb hbox hg))
   replace BK223 := Aside0.mk (blk_drew BK223.out); replace HB := Aside0.mk (below_drew1 HB.out)
   refine start_ (n := 14) (S := fun w' => w'.cell? ⟨gb223, 0, none⟩ = some (.string a0_0) ∧ w'.cell? ⟨gb223, 1, none⟩ = some (.int .i64 a0_1) ∧ w'.cell? ⟨gb223, 2, none⟩ = some (.int .i64 a0_2) ∧ w'.cell? ⟨gb223, 3, none⟩ = some (.int .i64 a0_3) ∧ w'.cell? ⟨gb223, 4, none⟩ = some (.int .i64 a0_4) ∧ w'.cell? ⟨gb223, 5, none⟩ = some (.int .i64 a0_5) ∧ w'.cell? ⟨gb223, 6, none⟩ = some (.slice A0_6 l0_6.length c0_6)) (ds := []) #[false, false, false, false, false, false, false, false, false, false, false, false, false, false] (by kernel_rfl) rfl rfl ⟨(blk_cell BK223.out 0).trans rfl, (blk_cell BK223.out 1).trans rfl, (blk_cell BK223.out 2).trans rfl, (blk_cell BK223.out 3).trans rfl, (blk_cell BK223.out 4).trans rfl, (blk_cell BK223.out 5).trans rfl, (blk_cell BK223.out 6).trans rfl⟩ (fun hHeld => ?_); refine with_tabW garmentlaw27_RollChecks.tab1 garmentlaw27_RollChecks.bits1 (fun HT_ HW_ => ?_)
   generalize w8.drew = w9 at BK223 HB hHeld ⊢; refine take_ (i := 0) (N := some 3) (v := ?_) (a' := ?_) #[true, false, false, false, false, false, false, false, false, false, false, false, false, false] rfl rfl (take_ofW HT_.out HW_.out (by kernel_rfl)) (fun _ _ _ h => h) (Or.inl ⟨by rfl, ?_⟩) hHeld ?_ ?_
   rotate_left
   ·rintro w' ⟨s0, s1, s2, s3, s4, s5, s6⟩
    go_simp
    with_reducible rfl
   rotate_left
   ·simp only [Act.put, List.setIfInBounds_toArray, List.set_cons_zero, List.set_cons_succ, i64_w, i32_w]
    rfl
   refine one_ (i := 1) (N := some 4) #[true, true, false, false, false, false, false, false, false, false, false, false, false, false] rfl rfl (one_of HT_.out (by kernel_rfl)) (by decide) (fun K hK => ?_); refine goes_ Tryz.func10 (by kernel_rfl) rfl #[.agg #[.string a0_0, .int .i64 a0_1, .int .i64 a0_2, .int .i64 a0_3, .int .i64 a0_4, .int .i64 a0_5, .slice A0_6 l0_6.length c0_6]] (by rfl) rfl rfl (by (try simp only [List.map_toArray, List.map_cons, List.map_nil]); first | done | rfl | (simp only [List.length_drop, List.length_take]; rfl)) ?_
   with_reducible refine (garmentlaw27_few.calls k a0_0 a0_1 a0_2 a0_3 a0_4 a0_5 (fun k_ => k_ < w.heap.size) _ _ l0_6 true _ ?side1 A2.out).mono ?_
   (case side1 => exact Kd.V_mk HC0_6.out (Kd.F_below (Kd.C_F k46_heap HR0_6.out) (be HB.out)))
   rintro e w10 ⟨rfl, hb⟩
   refine ⟨_, rfl, ?_⟩; replace BK223 := Aside0.mk (blk_below (bu BK223.out) hb); replace HB := Aside0.mk (below_step (be HB.out) hb)
   (try clear hb)
   (try clear hb2)
   (try clear hk)
   (try clear hi)
   refine hK.out _ _ ⟨(blk_cell BK223.out 0).trans rfl, (blk_cell BK223.out 1).trans rfl, (blk_cell BK223.out 2).trans rfl, (blk_cell BK223.out 3).trans rfl, (blk_cell BK223.out 4).trans rfl, (blk_cell BK223.out 5).trans rfl, (blk_cell BK223.out 6).trans rfl⟩ (fun hHeld => ?_); clear hK K; refine norm_ (a' := ?_) ?_ ?_
   rotate_left
   ·show Act.put _ (some 4) _ = _
    simp only [Act.put, List.setIfInBounds_toArray, List.set_cons_zero, List.set_cons_succ, i64_w, i32_w]
    rfl
   refine pureA (i := 2) (N := some 5) #[true, true, true, false, false, false, false, false, false, false, false, false, false, false] rfl rfl HT_.out (by kernel_rfl) ?_; refine pureA (i := 3) (N := some 6) #[true, true, true, true, false, false, false, false, false, false, false, false, false, false] rfl rfl HT_.out (by kernel_rfl) ?_; refine take_ (i := 4) (N := some 7) (v := ?_) (a' := ?_) #[true, true, true, true, true, false, false, false, false, false, false, false, false, false] rfl rfl (take_ofW HT_.out HW_.out (by kernel_rfl)) (fun _ _ _ h => h) (Or.inl ⟨by rfl, ?_⟩) hHeld ?_ ?_
   rotate_left
   ·rintro w' ⟨s0, s1, s2, s3, s4, s5, s6⟩
    go_simp
    with_reducible rfl
   rotate_left
   ·simp only [Act.put, List.setIfInBounds_toArray, List.set_cons_zero, List.set_cons_succ, i64_w, i32_w]
    rfl
   refine take_ (i := 6) (N := some 9) (v := ?_) (a' := ?_) #[true, true, true, true, true, false, true, false, false, false, false, false, false, false] rfl rfl (take_ofW HT_.out HW_.out (by kernel_rfl)) (fun _ _ _ h => h) (Or.inl ⟨by rfl, ?_⟩) hHeld ?_ ?_
   rotate_left
   ·rintro w' ⟨s0, s1, s2, s3, s4, s5, s6⟩
    go_simp
    with_reducible rfl
   rotate_left
   ·simp only [Act.put, List.setIfInBounds_toArray, List.set_cons_zero, List.set_cons_succ, i64_w, i32_w]
    rfl
   refine one_ (i := 5) (N := some 8) #[true, true, true, true, true, true, true, false, false, false, false, false, false, false] rfl rfl (one_of HT_.out (by kernel_rfl)) (by decide) (fun K hK => ?_); refine goes_ Tryz.func11 (by kernel_rfl) rfl #[.agg #[.string a0_0, .int .i64 a0_1, .int .i64 a0_2, .int .i64 a0_3, .int .i64 a0_4, .int .i64 a0_5, .slice A0_6 l0_6.length c0_6]] (by rfl) rfl rfl (by (try simp only [List.map_toArray, List.map_cons, List.map_nil]); first | done | rfl | (simp only [List.length_drop, List.length_take]; rfl)) ?_
   with_reducible refine (roll_Check.calls k a0_0 a0_1 a0_2 a0_3 a0_4 a0_5 _ _ l0_6 t225 _ ?side1 ?side2 A4.out).mono ?_
   (case side1 => exact cu (Kd.C_below HR0_6.out HB.out))
   (case side2 => exact HC0_6.out)
   rintro e w11 ⟨rfl, hb⟩
   refine ⟨_, rfl, ?_⟩; replace BK223 := Aside0.mk (blk_below (bu BK223.out) hb); replace HB := Aside0.mk (below_step (be HB.out) hb)
   (try clear hb)
   (try clear hb2)
   (try clear hk)
   (try clear hi)
   refine hK.out _ _ ⟨(blk_cell BK223.out 0).trans rfl, (blk_cell BK223.out 1).trans rfl, (blk_cell BK223.out 2).trans rfl, (blk_cell BK223.out 3).trans rfl, (blk_cell BK223.out 4).trans rfl, (blk_cell BK223.out 5).trans rfl, (blk_cell BK223.out 6).trans rfl⟩ (fun hHeld => ?_); clear hK K; refine norm_ (a' := ?_) ?_ ?_
   rotate_left
   ·show Act.put _ (some 8) _ = _
    simp only [Act.put, List.setIfInBounds_toArray, List.set_cons_zero, List.set_cons_succ, i64_w, i32_w]
    rfl
   refine one_ (i := 7) (N := some 10) #[true, true, true, true, true, true, true, true, false, false, false, false, false, false] rfl rfl (one_of HT_.out (by kernel_rfl)) (by decide) (fun K hK => ?_); refine goes_ Tryz.func12 (by kernel_rfl) rfl #[.agg #[.string a0_0, .int .i64 a0_1, .int .i64 a0_2, .int .i64 a0_3, .int .i64 a0_4, .int .i64 a0_5, .slice A0_6 l0_6.length c0_6]] (by rfl) rfl rfl (by (try simp only [List.map_toArray, List.map_cons, List.map_nil]); first | done | rfl | (simp only [List.length_drop, List.length_take]; rfl)) ?_
   with_reducible refine (garmentref27_Check.calls k a0_0 a0_1 a0_2 a0_3 a0_4 a0_5 _ _ l0_6 t226 _ ?side1 ?side2 A5.out).mono ?_
   (case side1 => exact cu (Kd.C_below HR0_6.out HB.out))
   (case side2 => exact HC0_6.out)
   rintro e w12 ⟨rfl, hb⟩
   refine ⟨_, rfl, ?_⟩; replace BK223 := Aside0.mk (blk_below (bu BK223.out) hb); replace HB := Aside0.mk (below_step (be HB.out) hb)
   (try clear hb)
   (try clear hb2)
   (try clear hk)
   (try clear hi)
   refine hK.out _ _ ⟨(blk_cell BK223.out 0).trans rfl, (blk_cell BK223.out 1).trans rfl, (blk_cell BK223.out 2).trans rfl, (blk_cell BK223.out 3).trans rfl, (blk_cell BK223.out 4).trans rfl, (blk_cell BK223.out 5).trans rfl, (blk_cell BK223.out 6).trans rfl⟩ (fun hHeld => ?_); clear hK K; refine norm_ (a' := ?_) ?_ ?_
   rotate_left
   ·show Act.put _ (some 10) _ = _
    simp only [Act.put, List.setIfInBounds_toArray, List.set_cons_zero, List.set_cons_succ, i64_w, i32_w]
    rfl
   refine pureA (i := 8) (N := some 11) #[true, true, true, true, true, true, true, true, true, false, false, false, false, false] rfl rfl HT_.out (by kernel_rfl) ?_; refine pureA (i := 9) (N := some 12) #[true, true, true, true, true, true, true, true, true, true, false, false, false, false] rfl rfl HT_.out (by kernel_rfl) ?_; refine pureA (i := 10) (N := some 13) #[true, true, true, true, true, true, true, true, true, true, true, false, false, false] rfl rfl HT_.out (by kernel_rfl) ?_; refine one_ (i := 11) (N := some 14) #[true, true, true, true, true, true, true, true, true, true, true, true, false, false] rfl rfl (one_of HT_.out (by kernel_rfl)) (by decide) (fun K hK => ?_); refine goes_ Tryz.func13 (by kernel_rfl) rfl #[] (by rfl) rfl rfl (by (try simp only [List.map_toArray, List.map_cons, List.map_nil]); first | done | rfl | (simp only [List.length_drop, List.length_take]; rfl)) ?_
   with_reducible refine (garmentlaw27_exampleHolds.calls  t227 _ A7.out (by first | exact Aside0.mk (GL.below hG.out (be HB.out)) | exact hG)).mono ?_
   rintro e w13 ⟨rfl, hb⟩
   refine ⟨_, rfl, ?_⟩; replace BK223 := Aside0.mk (blk_below (bu BK223.out) hb); replace HB := Aside0.mk (below_step (be HB.out) hb)
   (try clear hb)
   (try clear hb2)
   (try clear hk)
   (try clear hi)
   refine hK.out _ _ ⟨(blk_cell BK223.out 0).trans rfl, (blk_cell BK223.out 1).trans rfl, (blk_cell BK223.out 2).trans rfl, (blk_cell BK223.out 3).trans rfl, (blk_cell BK223.out 4).trans rfl, (blk_cell BK223.out 5).trans rfl, (blk_cell BK223.out 6).trans rfl⟩ (fun hHeld => ?_); clear hK K; refine norm_ (a' := ?_) ?_ ?_
   rotate_left
   ·show Act.put _ (some 14) _ = _
    simp only [Act.put, List.setIfInBounds_toArray, List.set_cons_zero, List.set_cons_succ, i64_w, i32_w]
    rfl
   refine pureA (i := 12) (N := some 15) #[true, true, true, true, true, true, true, true, true, true, true, true, true, false] rfl rfl HT_.out (by kernel_rfl) ?_; refine pureA (i := 13) (N := some 2) #[true, true, true, true, true, true, true, true, true, true, true, true, true, true] rfl rfl HT_.out (by kernel_rfl) ?_; refine done_ (done_of HT_.out (by kernel_rfl)) ?_
   try go_wp2
   go_ret
   exact ⟨by first | rfl | (simp [errW_none, errW_some] <;> rfl) | (simp [*, errW_none, errW_some] <;> rfl), be HB.out⟩
  ·rw [if_neg c6] at H; have c6b0 : (t225 == t226) = false := beq_eq_false_iff_ne.mpr c6; have c6b1 : (t225 != t226) = true := bne_iff_ne.mpr c6; obtain rfl := Option.some.inj H
   go_enter Tryz.func3, Tryz.ntmps3
   try go_wp2_with (first | ((with_reducible refine gate_dst (N := 1) rfl ?_); refine box_event ?hg (N := 1) ?hd (cs := #[.string a0_0, .int .i64 a0_1, .int .i64 a0_2, .int .i64 a0_3, .int .i64 a0_4, .int .i64 a0_5, .slice A0_6 l0_6.length c0_6]) (t := 26) ?hr ?_; (case hd => rfl); (case hg => rfl); (case hr => first | (go_simp; done) | (go_simp; rfl)); intro gb223 hg w14 hbox hb; have BK223 := Aside0.mk (hbox); have GW223 := Aside0.mk ((by rw [hg]; exact (below_size (be HB.out)) : w.heap.size ≤ gb223)); have GE223 := Aside0.mk ((by rw [hg]; exact (below_size (be HB.out)) : w.heap.size ≤ gb223)); replace HB := Aside0.mk (below_step (be HB.out) hb); clear hb hbox hg))
   replace BK223 := Aside0.mk (blk_drew BK223.out); replace HB := Aside0.mk (below_drew1 HB.out)
   refine start_ (n := 14) (S := fun w' => w'.cell? ⟨gb223, 0, none⟩ = some (.string a0_0) ∧ w'.cell? ⟨gb223, 1, none⟩ = some (.int .i64 a0_1) ∧ w'.cell? ⟨gb223, 2, none⟩ = some (.int .i64 a0_2) ∧ w'.cell? ⟨gb223, 3, none⟩ = some (.int .i64 a0_3) ∧ w'.cell? ⟨gb223, 4, none⟩ = some (.int .i64 a0_4) ∧ w'.cell? ⟨gb223, 5, none⟩ = some (.int .i64 a0_5) ∧ w'.cell? ⟨gb223, 6, none⟩ = some (.slice A0_6 l0_6.length c0_6)) (ds := []) #[false, false, false, false, false, false, false, false, false, false, false, false, false, false] (by kernel_rfl) rfl rfl ⟨(blk_cell BK223.out 0).trans rfl, (blk_cell BK223.out 1).trans rfl, (blk_cell BK223.out 2).trans rfl, (blk_cell BK223.out 3).trans rfl, (blk_cell BK223.out 4).trans rfl, (blk_cell BK223.out 5).trans rfl, (blk_cell BK223.out 6).trans rfl⟩ (fun hHeld => ?_); refine with_tabW garmentlaw27_RollChecks.tab1 garmentlaw27_RollChecks.bits1 (fun HT_ HW_ => ?_)
   generalize w14.drew = w15 at BK223 HB hHeld ⊢; refine take_ (i := 0) (N := some 3) (v := ?_) (a' := ?_) #[true, false, false, false, false, false, false, false, false, false, false, false, false, false] rfl rfl (take_ofW HT_.out HW_.out (by kernel_rfl)) (fun _ _ _ h => h) (Or.inl ⟨by rfl, ?_⟩) hHeld ?_ ?_
   rotate_left
   ·rintro w' ⟨s0, s1, s2, s3, s4, s5, s6⟩
    go_simp
    with_reducible rfl
   rotate_left
   ·simp only [Act.put, List.setIfInBounds_toArray, List.set_cons_zero, List.set_cons_succ, i64_w, i32_w]
    rfl
   refine one_ (i := 1) (N := some 4) #[true, true, false, false, false, false, false, false, false, false, false, false, false, false] rfl rfl (one_of HT_.out (by kernel_rfl)) (by decide) (fun K hK => ?_); refine goes_ Tryz.func10 (by kernel_rfl) rfl #[.agg #[.string a0_0, .int .i64 a0_1, .int .i64 a0_2, .int .i64 a0_3, .int .i64 a0_4, .int .i64 a0_5, .slice A0_6 l0_6.length c0_6]] (by rfl) rfl rfl (by (try simp only [List.map_toArray, List.map_cons, List.map_nil]); first | done | rfl | (simp only [List.length_drop, List.length_take]; rfl)) ?_
   with_reducible refine (garmentlaw27_few.calls k a0_0 a0_1 a0_2 a0_3 a0_4 a0_5 (fun k_ => k_ < w.heap.size) _ _ l0_6 true _ ?side1 A2.out).mono ?_
   (case side1 => exact Kd.V_mk HC0_6.out (Kd.F_below (Kd.C_F k46_heap HR0_6.out) (be HB.out)))
   rintro e w16 ⟨rfl, hb⟩
   refine ⟨_, rfl, ?_⟩; replace BK223 := Aside0.mk (blk_below (bu BK223.out) hb); replace HB := Aside0.mk (below_step (be HB.out) hb)
   (try clear hb)
   (try clear hb2)
   (try clear hk)
   (try clear hi)
   refine hK.out _ _ ⟨(blk_cell BK223.out 0).trans rfl, (blk_cell BK223.out 1).trans rfl, (blk_cell BK223.out 2).trans rfl, (blk_cell BK223.out 3).trans rfl, (blk_cell BK223.out 4).trans rfl, (blk_cell BK223.out 5).trans rfl, (blk_cell BK223.out 6).trans rfl⟩ (fun hHeld => ?_); clear hK K; refine norm_ (a' := ?_) ?_ ?_
   rotate_left
   ·show Act.put _ (some 4) _ = _
    simp only [Act.put, List.setIfInBounds_toArray, List.set_cons_zero, List.set_cons_succ, i64_w, i32_w]
    rfl
   refine pureA (i := 2) (N := some 5) #[true, true, true, false, false, false, false, false, false, false, false, false, false, false] rfl rfl HT_.out (by kernel_rfl) ?_; refine pureA (i := 3) (N := some 6) #[true, true, true, true, false, false, false, false, false, false, false, false, false, false] rfl rfl HT_.out (by kernel_rfl) ?_; refine take_ (i := 4) (N := some 7) (v := ?_) (a' := ?_) #[true, true, true, true, true, false, false, false, false, false, false, false, false, false] rfl rfl (take_ofW HT_.out HW_.out (by kernel_rfl)) (fun _ _ _ h => h) (Or.inl ⟨by rfl, ?_⟩) hHeld ?_ ?_
   rotate_left
   ·rintro w' ⟨s0, s1, s2, s3, s4, s5, s6⟩
    go_simp
    with_reducible rfl
   rotate_left
   ·simp only [Act.put, List.setIfInBounds_toArray, List.set_cons_zero, List.set_cons_succ, i64_w, i32_w]
    rfl
   refine take_ (i := 6) (N := some 9) (v := ?_) (a' := ?_) #[true, true, true, true, true, false, true, false, false, false, false, false, false, false] rfl rfl (take_ofW HT_.out HW_.out (by kernel_rfl)) (fun _ _ _ h => h) (Or.inl ⟨by rfl, ?_⟩) hHeld ?_ ?_
   rotate_left
   ·rintro w' ⟨s0, s1, s2, s3, s4, s5, s6⟩
    go_simp
    with_reducible rfl
   rotate_left
   ·simp only [Act.put, List.setIfInBounds_toArray, List.set_cons_zero, List.set_cons_succ, i64_w, i32_w]
    rfl
   refine one_ (i := 5) (N := some 8) #[true, true, true, true, true, true, true, false, false, false, false, false, false, false] rfl rfl (one_of HT_.out (by kernel_rfl)) (by decide) (fun K hK => ?_); refine goes_ Tryz.func11 (by kernel_rfl) rfl #[.agg #[.string a0_0, .int .i64 a0_1, .int .i64 a0_2, .int .i64 a0_3, .int .i64 a0_4, .int .i64 a0_5, .slice A0_6 l0_6.length c0_6]] (by rfl) rfl rfl (by (try simp only [List.map_toArray, List.map_cons, List.map_nil]); first | done | rfl | (simp only [List.length_drop, List.length_take]; rfl)) ?_
   with_reducible refine (roll_Check.calls k a0_0 a0_1 a0_2 a0_3 a0_4 a0_5 _ _ l0_6 t225 _ ?side1 ?side2 A4.out).mono ?_
   (case side1 => exact cu (Kd.C_below HR0_6.out HB.out))
   (case side2 => exact HC0_6.out)
   rintro e w17 ⟨rfl, hb⟩
   refine ⟨_, rfl, ?_⟩; replace BK223 := Aside0.mk (blk_below (bu BK223.out) hb); replace HB := Aside0.mk (below_step (be HB.out) hb)
   (try clear hb)
   (try clear hb2)
   (try clear hk)
   (try clear hi)
   refine hK.out _ _ ⟨(blk_cell BK223.out 0).trans rfl, (blk_cell BK223.out 1).trans rfl, (blk_cell BK223.out 2).trans rfl, (blk_cell BK223.out 3).trans rfl, (blk_cell BK223.out 4).trans rfl, (blk_cell BK223.out 5).trans rfl, (blk_cell BK223.out 6).trans rfl⟩ (fun hHeld => ?_); clear hK K; refine norm_ (a' := ?_) ?_ ?_
   rotate_left
   ·show Act.put _ (some 8) _ = _
    simp only [Act.put, List.setIfInBounds_toArray, List.set_cons_zero, List.set_cons_succ, i64_w, i32_w]
    rfl
   refine one_ (i := 7) (N := some 10) #[true, true, true, true, true, true, true, true, false, false, false, false, false, false] rfl rfl (one_of HT_.out (by kernel_rfl)) (by decide) (fun K hK => ?_); refine goes_ Tryz.func12 (by kernel_rfl) rfl #[.agg #[.string a0_0, .int .i64 a0_1, .int .i64 a0_2, .int .i64 a0_3, .int .i64 a0_4, .int .i64 a0_5, .slice A0_6 l0_6.length c0_6]] (by rfl) rfl rfl (by (try simp only [List.map_toArray, List.map_cons, List.map_nil]); first | done | rfl | (simp only [List.length_drop, List.length_take]; rfl)) ?_
   with_reducible refine (garmentref27_Check.calls k a0_0 a0_1 a0_2 a0_3 a0_4 a0_5 _ _ l0_6 t226 _ ?side1 ?side2 A5.out).mono ?_
   (case side1 => exact cu (Kd.C_below HR0_6.out HB.out))
   (case side2 => exact HC0_6.out)
   rintro e w18 ⟨rfl, hb⟩
   refine ⟨_, rfl, ?_⟩; replace BK223 := Aside0.mk (blk_below (bu BK223.out) hb); replace HB := Aside0.mk (below_step (be HB.out) hb)
   (try clear hb)
   (try clear hb2)
   (try clear hk)
   (try clear hi)
   refine hK.out _ _ ⟨(blk_cell BK223.out 0).trans rfl, (blk_cell BK223.out 1).trans rfl, (blk_cell BK223.out 2).trans rfl, (blk_cell BK223.out 3).trans rfl, (blk_cell BK223.out 4).trans rfl, (blk_cell BK223.out 5).trans rfl, (blk_cell BK223.out 6).trans rfl⟩ (fun hHeld => ?_); clear hK K; refine norm_ (a' := ?_) ?_ ?_
   rotate_left
   ·show Act.put _ (some 10) _ = _
    simp only [Act.put, List.setIfInBounds_toArray, List.set_cons_zero, List.set_cons_succ, i64_w, i32_w]
    rfl
   refine pureA (i := 8) (N := some 11) #[true, true, true, true, true, true, true, true, true, false, false, false, false, false] rfl rfl HT_.out (by kernel_rfl) ?_; refine pureA (i := 9) (N := some 12) #[true, true, true, true, true, true, true, true, true, true, false, false, false, false] rfl rfl HT_.out (by kernel_rfl) ?_; refine pureA (i := 10) (N := some 13) #[true, true, true, true, true, true, true, true, true, true, true, false, false, false] rfl rfl HT_.out (by kernel_rfl) ?_; refine pure_ (i := 11) (N := some 14) (v := undef) (a' := ?_) #[true, true, true, true, true, true, true, true, true, true, true, true, false, false] rfl rfl (any_of HT_.out (by kernel_rfl)) (fun _ _ _ h => h) (Or.inr ⟨by rfl, rfl⟩) ?_ ?_
   rotate_left
   ·simp only [Act.put, List.setIfInBounds_toArray, List.set_cons_zero, List.set_cons_succ, i64_w, i32_w]
    rfl
   refine pureA (i := 12) (N := some 15) #[true, true, true, true, true, true, true, true, true, true, true, true, true, false] rfl rfl HT_.out (by kernel_rfl) ?_; refine pureA (i := 13) (N := some 2) #[true, true, true, true, true, true, true, true, true, true, true, true, true, true] rfl rfl HT_.out (by kernel_rfl) ?_; refine done_ (done_of HT_.out (by kernel_rfl)) ?_
   try go_wp2
   go_ret
   exact ⟨by first | rfl | (simp [errW_none, errW_some] <;> rfl) | (simp [*, errW_none, errW_some] <;> rfl), be HB.out⟩
 ·replace c3 := Bool.eq_false_iff.mpr c3; subst c3
  have H1 : ((garmentlaw27_exampleHolds.f).bind fun t228 => (some t228)) = some r := by rw [if_neg (show ¬ (false = true) by decide)] at H; exact H
  clear H; have H := H1; clear H1; replace H := Option.bind_eq_some_iff.mp H; obtain ⟨t228, A190, H⟩ := H; replace H : (some t228) = some r := H; have A19 := Aside0.mk A190; clear A190; obtain rfl := Option.some.inj H
  go_enter Tryz.func3, Tryz.ntmps3
  try go_wp2_with (first | ((with_reducible refine gate_dst (N := 1) rfl ?_); refine box_event ?hg (N := 1) ?hd (cs := #[.string a0_0, .int .i64 a0_1, .int .i64 a0_2, .int .i64 a0_3, .int .i64 a0_4, .int .i64 a0_5, .slice A0_6 l0_6.length c0_6]) (t := 26) ?hr ?_; (case hd => rfl); (case hg => rfl); (case hr => first | (go_simp; done) | (go_simp; rfl)); intro gb223 hg w20 hbox hb; have BK223 := Aside0.mk (hbox); have GW223 := Aside0.mk ((by rw [hg]; exact (below_size (be HB.out)) : w.heap.size ≤ gb223)); have GE223 := Aside0.mk ((by rw [hg]; exact (below_size (be HB.out)) : w.heap.size ≤ gb223)); replace HB := Aside0.mk (below_step (be HB.out) hb); clear hb hbox hg))
  replace BK223 := Aside0.mk (blk_drew BK223.out); replace HB := Aside0.mk (below_drew1 HB.out)
  refine start_ (n := 14) (S := fun w' => w'.cell? ⟨gb223, 0, none⟩ = some (.string a0_0) ∧ w'.cell? ⟨gb223, 1, none⟩ = some (.int .i64 a0_1) ∧ w'.cell? ⟨gb223, 2, none⟩ = some (.int .i64 a0_2) ∧ w'.cell? ⟨gb223, 3, none⟩ = some (.int .i64 a0_3) ∧ w'.cell? ⟨gb223, 4, none⟩ = some (.int .i64 a0_4) ∧ w'.cell? ⟨gb223, 5, none⟩ = some (.int .i64 a0_5) ∧ w'.cell? ⟨gb223, 6, none⟩ = some (.slice A0_6 l0_6.length c0_6)) (ds := []) #[false, false, false, false, false, false, false, false, false, false, false, false, false, false] (by kernel_rfl) rfl rfl ⟨(blk_cell BK223.out 0).trans rfl, (blk_cell BK223.out 1).trans rfl, (blk_cell BK223.out 2).trans rfl, (blk_cell BK223.out 3).trans rfl, (blk_cell BK223.out 4).trans rfl, (blk_cell BK223.out 5).trans rfl, (blk_cell BK223.out 6).trans rfl⟩ (fun hHeld => ?_); refine with_tabW garmentlaw27_RollChecks.tab1 garmentlaw27_RollChecks.bits1 (fun HT_ HW_ => ?_)
  generalize w20.drew = w21 at BK223 HB hHeld ⊢; refine take_ (i := 0) (N := some 3) (v := ?_) (a' := ?_) #[true, false, false, false, false, false, false, false, false, false, false, false, false, false] rfl rfl (take_ofW HT_.out HW_.out (by kernel_rfl)) (fun _ _ _ h => h) (Or.inl ⟨by rfl, ?_⟩) hHeld ?_ ?_
  rotate_left
  ·rintro w' ⟨s0, s1, s2, s3, s4, s5, s6⟩
   go_simp
   with_reducible rfl
  rotate_left
  ·simp only [Act.put, List.setIfInBounds_toArray, List.set_cons_zero, List.set_cons_succ, i64_w, i32_w]
   rfl
  refine one_ (i := 1) (N := some 4) #[true, true, false, false, false, false, false, false, false, false, false, false, false, false] rfl rfl (one_of HT_.out (by kernel_rfl)) (by decide) (fun K hK => ?_); refine goes_ Tryz.func10 (by kernel_rfl) rfl #[.agg #[.string a0_0, .int .i64 a0_1, .int .i64 a0_2, .int .i64 a0_3, .int .i64 a0_4, .int .i64 a0_5, .slice A0_6 l0_6.length c0_6]] (by rfl) rfl rfl (by (try simp only [List.map_toArray, List.map_cons, List.map_nil]); first | done | rfl | (simp only [List.length_drop, List.length_take]; rfl)) ?_
  with_reducible refine (garmentlaw27_few.calls k a0_0 a0_1 a0_2 a0_3 a0_4 a0_5 (fun k_ => k_ < w.heap.size) _ _ l0_6 false _ ?side1 A2.out).mono ?_
  (case side1 => exact Kd.V_mk HC0_6.out (Kd.F_below (Kd.C_F k46_heap HR0_6.out) (be HB.out)))
  rintro e w22 ⟨rfl, hb⟩
  refine ⟨_, rfl, ?_⟩; replace BK223 := Aside0.mk (blk_below (bu BK223.out) hb); replace HB := Aside0.mk (below_step (be HB.out) hb)
  (try clear hb)
  (try clear hb2)
  (try clear hk)
  (try clear hi)
  refine hK.out _ _ ⟨(blk_cell BK223.out 0).trans rfl, (blk_cell BK223.out 1).trans rfl, (blk_cell BK223.out 2).trans rfl, (blk_cell BK223.out 3).trans rfl, (blk_cell BK223.out 4).trans rfl, (blk_cell BK223.out 5).trans rfl, (blk_cell BK223.out 6).trans rfl⟩ (fun hHeld => ?_); clear hK K; refine norm_ (a' := ?_) ?_ ?_
  rotate_left
  ·show Act.put _ (some 4) _ = _
   simp only [Act.put, List.setIfInBounds_toArray, List.set_cons_zero, List.set_cons_succ, i64_w, i32_w]
   rfl
  refine pureA (i := 2) (N := some 5) #[true, true, true, false, false, false, false, false, false, false, false, false, false, false] rfl rfl HT_.out (by kernel_rfl) ?_; refine pureA (i := 3) (N := some 6) #[true, true, true, true, false, false, false, false, false, false, false, false, false, false] rfl rfl HT_.out (by kernel_rfl) ?_; refine pure_ (i := 4) (N := some 7) (v := undef) (a' := ?_) #[true, true, true, true, true, false, false, false, false, false, false, false, false, false] rfl rfl (any_of HT_.out (by kernel_rfl)) (fun _ _ _ h => h) (Or.inr ⟨by rfl, rfl⟩) ?_ ?_
  rotate_left
  ·simp only [Act.put, List.setIfInBounds_toArray, List.set_cons_zero, List.set_cons_succ, i64_w, i32_w]
   rfl
  refine pure_ (i := 5) (N := some 8) (v := undef) (a' := ?_) #[true, true, true, true, true, true, false, false, false, false, false, false, false, false] rfl rfl (any_of HT_.out (by kernel_rfl)) (fun _ _ _ h => h) (Or.inr ⟨by rfl, rfl⟩) ?_ ?_
  rotate_left
  ·simp only [Act.put, List.setIfInBounds_toArray, List.set_cons_zero, List.set_cons_succ, i64_w, i32_w]
   rfl
  refine pure_ (i := 6) (N := some 9) (v := undef) (a' := ?_) #[true, true, true, true, true, true, true, false, false, false, false, false, false, false] rfl rfl (any_of HT_.out (by kernel_rfl)) (fun _ _ _ h => h) (Or.inr ⟨by rfl, rfl⟩) ?_ ?_
  rotate_left
  ·simp only [Act.put, List.setIfInBounds_toArray, List.set_cons_zero, List.set_cons_succ, i64_w, i32_w]
   rfl
  refine pure_ (i := 7) (N := some 10) (v := undef) (a' := ?_) #[true, true, true, true, true, true, true, true, false, false, false, false, false, false] rfl rfl (any_of HT_.out (by kernel_rfl)) (fun _ _ _ h => h) (Or.inr ⟨by rfl, rfl⟩) ?_ ?_
  rotate_left
  ·simp only [Act.put, List.setIfInBounds_toArray, List.set_cons_zero, List.set_cons_succ, i64_w, i32_w]
   rfl
  refine pure_ (i := 8) (N := some 11) (v := undef) (a' := ?_) #[true, true, true, true, true, true, true, true, true, false, false, false, false, false] rfl rfl (any_of HT_.out (by kernel_rfl)) (fun _ _ _ h => h) (Or.inr ⟨by rfl, rfl⟩) ?_ ?_
  rotate_left
  ·simp only [Act.put, List.setIfInBounds_toArray, List.set_cons_zero, List.set_cons_succ, i64_w, i32_w]
   rfl
  refine pureA (i := 9) (N := some 12) #[true, true, true, true, true, true, true, true, true, true, false, false, false, false] rfl rfl HT_.out (by kernel_rfl) ?_; refine pureA (i := 10) (N := some 13) #[true, true, true, true, true, true, true, true, true, true, true, false, false, false] rfl rfl HT_.out (by kernel_rfl) ?_; refine one_ (i := 11) (N := some 14) #[true, true, true, true, true, true, true, true, true, true, true, true, false, false] rfl rfl (one_of HT_.out (by kernel_rfl)) (by decide) (fun K hK => ?_); refine goes_ Tryz.func13 (by kernel_rfl) rfl #[] (by rfl) rfl rfl (by (try simp only [List.map_toArray, List.map_cons, List.map_nil]); first | done | rfl | (simp only [List.length_drop, List.length_take]; rfl)) ?_
  with_reducible refine (garmentlaw27_exampleHolds.calls  t228 _ A19.out (by first | exact Aside0.mk (GL.below hG.out (be HB.out)) | exact hG)).mono ?_
  rintro e w23 ⟨rfl, hb⟩
  refine ⟨_, rfl, ?_⟩; replace BK223 := Aside0.mk (blk_below (bu BK223.out) hb); replace HB := Aside0.mk (below_step (be HB.out) hb)
  (try clear hb)
  (try clear hb2)
  (try clear hk)
  (try clear hi)
  refine hK.out _ _ ⟨(blk_cell BK223.out 0).trans rfl, (blk_cell BK223.out 1).trans rfl, (blk_cell BK223.out 2).trans rfl, (blk_cell BK223.out 3).trans rfl, (blk_cell BK223.out 4).trans rfl, (blk_cell BK223.out 5).trans rfl, (blk_cell BK223.out 6).trans rfl⟩ (fun hHeld => ?_); clear hK K; refine norm_ (a' := ?_) ?_ ?_
  rotate_left
  ·show Act.put _ (some 14) _ = _
   simp only [Act.put, List.setIfInBounds_toArray, List.set_cons_zero, List.set_cons_succ, i64_w, i32_w]
   rfl
  refine pureA (i := 12) (N := some 15) #[true, true, true, true, true, true, true, true, true, true, true, true, true, false] rfl rfl HT_.out (by kernel_rfl) ?_; refine pureA (i := 13) (N := some 2) #[true, true, true, true, true, true, true, true, true, true, true, true, true, true] rfl rfl HT_.out (by kernel_rfl) ?_; refine done_ (done_of HT_.out (by kernel_rfl)) ?_
  try go_wp2
  go_ret
  exact ⟨by first | rfl | (simp [errW_none, errW_some] <;> rfl) | (simp [*, errW_none, errW_some] <;> rfl), be HB.out⟩

end Go.Proofs.YtdblkmnbkpphjaaGreatDoor.P
