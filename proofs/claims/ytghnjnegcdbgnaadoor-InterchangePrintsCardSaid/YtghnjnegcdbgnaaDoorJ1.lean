/- The functions that the law reaches: what each computes, and that its code computes it. -/
import Derived.Test.YtghnjnegcdbgnaaDoorBP0
import Derived.Test.YtghnjnegcdbgnaaDoorBAuto
import Derived.Test.YtghnjnegcdbgnaaDoorBGL
namespace Go.Proofs.YtghnjnegcdbgnaaDoor.P
open Go.RowKit Go.Proofs.YtghnjnegcdbgnaaDoorW.PrintWords Go.Proofs.YtghnjnegcdbgnaaDoorW.PrintLast Go.Proofs.YtghnjnegcdbgnaaDoorW.PrintMore Go.Proofs.YtghnjnegcdbgnaaDoorW.PrintAuto
attribute [local go_sem] max2_int min2_int max_two min_two max_three min_three max_four min_four   -- for this text's walks alone
set_option linter.unusedVariables false
set_option linter.unusedSimpArgs false

def garmentlaw34_few.f (a0_0 : Int) (a0_1 : Int) (a0_2 : Int) (a0_3 : Int) (l0_4 : List Int) (l0_5 : List (S46)) : Option (Bool) := if (l0_4.length : Int) ≤ 20 then (some (decide ((l0_5.length : Int) ≤ 70))) else (some false)
set_option maxHeartbeats 8000000 in
set_option maxRecDepth 100000 in
theorem garmentlaw34_few.calls (a0_0 : Int) (a0_1 : Int) (a0_2 : Int) (a0_3 : Int) (A0_4 : Option Addr) (c0_4 : Nat) (l0_4 : List Int) (A0_5 : Option Addr) (c0_5 : Nat) (l0_5 : List (S46)) (r : Bool) (w : World) (hr0_4 : Kd.C (Kd.int .i64) w A0_4 l0_4.length l0_4) (hc0_4 : l0_4.length ≤ c0_4) (hr0_5 : Kd.C k46 w A0_5 l0_5.length l0_5) (hc0_5 : l0_5.length ≤ c0_5) (h : garmentlaw34_few.f a0_0 a0_1 a0_2 a0_3 l0_4 l0_5 = some r) :
  Calls Tryd.prog 8 #[.agg #[.int .i64 a0_0, .int .i64 a0_1, .int .i64 a0_2, .int .i64 a0_3, .slice A0_4 l0_4.length c0_4, .slice A0_5 l0_5.length c0_5]] w fun e w' => e = .returned (.bool r) ∧ Below w.heap.size w w' := by
 have hu27 := Tryd.underlying27; have HR0_4 := Aside0.mk hr0_4; have HC0_4 := Aside0.mk hc0_4; clear hr0_4 hc0_4; have HR0_5 := Aside0.mk hr0_5; have HC0_5 := Aside0.mk hc0_5; clear hr0_5 hc0_5; have HB := Aside0.mk (Below.refl w.heap.size w); have H : (if (l0_4.length : Int) ≤ 20 then (some (decide ((l0_5.length : Int) ≤ 70))) else (some false)) = some r := h; clear h
 by_cases c2 : (l0_4.length : Int) ≤ 20
 ·rw [if_pos c2] at H; have c2b0 : decide ((l0_4.length : Int) ≤ 20) = true := decide_eq_true c2; have c2b1 : decide (l0_4.length ≤ 20) = true := decide_eq_true (by omega); clear c2; obtain rfl := Option.some.inj H
  go_enter Tryd.func8, Tryd.ntmps8
  go_wp2_with (first | ((with_reducible refine gate_dst (N := 1) rfl ?_); (try (refine gate_guard (by rfl) ?_; dsimp only)); refine box_event ?hg (N := 1) ?hd (cs := #[.int .i64 a0_0, .int .i64 a0_1, .int .i64 a0_2, .int .i64 a0_3, .slice A0_4 l0_4.length c0_4, .slice A0_5 l0_5.length c0_5]) (t := 27) ?hr ?_; (case hd => rfl); (case hg => rfl); (case hr => first | (go_simp; done) | (go_simp; rfl)); intro gb101 hg w3 hbox hb; have BK101 := Aside0.mk (hbox); have GW101 := Aside0.mk ((by rw [hg]; exact (below_size (be HB.out)) : w.heap.size ≤ gb101)); have GE101 := Aside0.mk ((by rw [hg]; exact (below_size (be HB.out)) : w.heap.size ≤ gb101)); replace HB := Aside0.mk (below_step (be HB.out) hb); clear hb hbox hg; have hcz4_0 := bc BK101.out 0 (.int .i64 a0_0) rfl; have hcz4_1 := bc BK101.out 1 (.int .i64 a0_1) rfl; have hcz4_2 := bc BK101.out 2 (.int .i64 a0_2) rfl; have hcz4_3 := bc BK101.out 3 (.int .i64 a0_3) rfl; have hcz4_4 := bc BK101.out 4 (.slice A0_4 l0_4.length c0_4) rfl; have hcz4_5 := bc BK101.out 5 (.slice A0_5 l0_5.length c0_5) rfl; have hfz4_0 := blk_frozen BK101.out 0; have hfz4_1 := blk_frozen BK101.out 1; have hfz4_2 := blk_frozen BK101.out 2; have hfz4_3 := blk_frozen BK101.out 3; have hfz4_4 := blk_frozen BK101.out 4; have hfz4_5 := blk_frozen BK101.out 5))
  go_ret
  exact ⟨by first | rfl | (simp [errW_none, errW_some] <;> rfl) | (simp [*, errW_none, errW_some] <;> rfl), be HB.out⟩
 ·rw [if_neg c2] at H; have c2b0 : decide ((l0_4.length : Int) ≤ 20) = false := decide_eq_false c2; have c2b1 : decide (l0_4.length ≤ 20) = false := decide_eq_false (by omega); clear c2; obtain rfl := Option.some.inj H
  go_enter Tryd.func8, Tryd.ntmps8
  go_wp2_with (first | ((with_reducible refine gate_dst (N := 1) rfl ?_); (try (refine gate_guard (by rfl) ?_; dsimp only)); refine box_event ?hg (N := 1) ?hd (cs := #[.int .i64 a0_0, .int .i64 a0_1, .int .i64 a0_2, .int .i64 a0_3, .slice A0_4 l0_4.length c0_4, .slice A0_5 l0_5.length c0_5]) (t := 27) ?hr ?_; (case hd => rfl); (case hg => rfl); (case hr => first | (go_simp; done) | (go_simp; rfl)); intro gb101 hg w5 hbox hb; have BK101 := Aside0.mk (hbox); have GW101 := Aside0.mk ((by rw [hg]; exact (below_size (be HB.out)) : w.heap.size ≤ gb101)); have GE101 := Aside0.mk ((by rw [hg]; exact (below_size (be HB.out)) : w.heap.size ≤ gb101)); replace HB := Aside0.mk (below_step (be HB.out) hb); clear hb hbox hg; have hcz6_0 := bc BK101.out 0 (.int .i64 a0_0) rfl; have hcz6_1 := bc BK101.out 1 (.int .i64 a0_1) rfl; have hcz6_2 := bc BK101.out 2 (.int .i64 a0_2) rfl; have hcz6_3 := bc BK101.out 3 (.int .i64 a0_3) rfl; have hcz6_4 := bc BK101.out 4 (.slice A0_4 l0_4.length c0_4) rfl; have hcz6_5 := bc BK101.out 5 (.slice A0_5 l0_5.length c0_5) rfl; have hfz6_0 := blk_frozen BK101.out 0; have hfz6_1 := blk_frozen BK101.out 1; have hfz6_2 := blk_frozen BK101.out 2; have hfz6_3 := blk_frozen BK101.out 3; have hfz6_4 := blk_frozen BK101.out 4; have hfz6_5 := blk_frozen BK101.out 5))
  go_ret
  exact ⟨by first | rfl | (simp [errW_none, errW_some] <;> rfl) | (simp [*, errW_none, errW_some] <;> rfl), be HB.out⟩

end Go.Proofs.YtghnjnegcdbgnaaDoor.P
namespace Go.Proofs.YtghnjnegcdbgnaaDoor.P
open Go.RowKit Go.Proofs.YtghnjnegcdbgnaaDoorW.PrintWords Go.Proofs.YtghnjnegcdbgnaaDoorW.PrintLast Go.Proofs.YtghnjnegcdbgnaaDoorW.PrintMore Go.Proofs.YtghnjnegcdbgnaaDoorW.PrintAuto
attribute [local go_sem] max2_int min2_int max_two min_two max_three min_three max_four min_four   -- for this text's walks alone
set_option linter.unusedVariables false
set_option linter.unusedSimpArgs false

def interchange_span_holds.f (a0_0 : Int) (a0_1 : Int) (a1 : Int) : Option (Bool) := if a0_0 ≤ a1 then (some (decide (a1 ≤ a0_1))) else (some false)
set_option maxHeartbeats 8000000 in
set_option maxRecDepth 100000 in
theorem interchange_span_holds.calls (a0_0 : Int) (a0_1 : Int) (a1 : Int) (r : Bool) (w : World) (h : interchange_span_holds.f a0_0 a0_1 a1 = some r) :
  Calls Tryd.prog 28 #[.agg #[.int .i64 a0_0, .int .i64 a0_1], .int .i64 a1] w fun e w' => e = .returned (.bool r) ∧ Below w.heap.size w w' := by
 have hu49 := Tryd.underlying49; have HB := Aside0.mk (Below.refl w.heap.size w); have H : (if a0_0 ≤ a1 then (some (decide (a1 ≤ a0_1))) else (some false)) = some r := h; clear h
 by_cases c3 : a0_0 ≤ a1
 ·rw [if_pos c3] at H; have c3b0 : decide (a0_0 ≤ a1) = true := decide_eq_true c3; clear c3; obtain rfl := Option.some.inj H
  go_enter Tryd.func28, Tryd.ntmps28
  go_wp2_with (first | ((with_reducible refine gate_dst (N := 2) rfl ?_); refine box_event ?hg (N := 2) ?hd (cs := #[.int .i64 a0_0, .int .i64 a0_1]) (t := 49) ?hr ?_; (case hd => rfl); (case hg => rfl); (case hr => first | (go_simp; done) | (go_simp; rfl)); intro gb102 hg w4 hbox hb; have BK102 := Aside0.mk (hbox); have GW102 := Aside0.mk ((by rw [hg]; exact (below_size (be HB.out)) : w.heap.size ≤ gb102)); have GE102 := Aside0.mk ((by rw [hg]; exact (below_size (be HB.out)) : w.heap.size ≤ gb102)); replace HB := Aside0.mk (below_step (be HB.out) hb); clear hb hbox hg; have hcz5_0 := bc BK102.out 0 (.int .i64 a0_0) rfl; have hcz5_1 := bc BK102.out 1 (.int .i64 a0_1) rfl; have hfz5_0 := blk_frozen BK102.out 0; have hfz5_1 := blk_frozen BK102.out 1))
  go_ret
  exact ⟨by first | rfl | (simp [errW_none, errW_some] <;> rfl) | (simp [*, errW_none, errW_some] <;> rfl), be HB.out⟩
 ·rw [if_neg c3] at H; have c3b0 : decide (a0_0 ≤ a1) = false := decide_eq_false c3; clear c3; obtain rfl := Option.some.inj H
  go_enter Tryd.func28, Tryd.ntmps28
  go_wp2_with (first | ((with_reducible refine gate_dst (N := 2) rfl ?_); refine box_event ?hg (N := 2) ?hd (cs := #[.int .i64 a0_0, .int .i64 a0_1]) (t := 49) ?hr ?_; (case hd => rfl); (case hg => rfl); (case hr => first | (go_simp; done) | (go_simp; rfl)); intro gb102 hg w6 hbox hb; have BK102 := Aside0.mk (hbox); have GW102 := Aside0.mk ((by rw [hg]; exact (below_size (be HB.out)) : w.heap.size ≤ gb102)); have GE102 := Aside0.mk ((by rw [hg]; exact (below_size (be HB.out)) : w.heap.size ≤ gb102)); replace HB := Aside0.mk (below_step (be HB.out) hb); clear hb hbox hg; have hcz7_0 := bc BK102.out 0 (.int .i64 a0_0) rfl; have hcz7_1 := bc BK102.out 1 (.int .i64 a0_1) rfl; have hfz7_0 := blk_frozen BK102.out 0; have hfz7_1 := blk_frozen BK102.out 1))
  go_ret
  exact ⟨by first | rfl | (simp [errW_none, errW_some] <;> rfl) | (simp [*, errW_none, errW_some] <;> rfl), be HB.out⟩

end Go.Proofs.YtghnjnegcdbgnaaDoor.P
namespace Go.Proofs.YtghnjnegcdbgnaaDoor.P
open Go.RowKit Go.Proofs.YtghnjnegcdbgnaaDoorW.PrintWords Go.Proofs.YtghnjnegcdbgnaaDoorW.PrintLast Go.Proofs.YtghnjnegcdbgnaaDoorW.PrintMore Go.Proofs.YtghnjnegcdbgnaaDoorW.PrintAuto
attribute [local go_sem] max2_int min2_int max_two min_two max_three min_three max_four min_four   -- for this text's walks alone
set_option linter.unusedVariables false
set_option linter.unusedSimpArgs false

def interchange_within.l0 : Nat → List (S49) → List Int → Int → Int → Option (Bool)
 | 0, _, _, _, _ => none
 | k + 1, x1, x7, x8, x9 => if x9 < x8 then (if 0 ≤ x9 then (if x9 < (x7.length : Int) then (if 0 ≤ (mn x9 (wrap64 ((x1.length : Int) - 1))) then (if (mn x9 (wrap64 ((x1.length : Int) - 1))) < (x1.length : Int) then ((interchange_span_holds.f ((rd_T49 x1 (mn x9 (wrap64 ((x1.length : Int) - 1)))).f0) ((rd_T49 x1 (mn x9 (wrap64 ((x1.length : Int) - 1)))).f1) (rd x7 x9)).bind fun t105 => (if t105 = true then (interchange_within.l0 k x1 x7 x8 (wrap64 (x9 + 1))) else (some false))) else (none)) else (none)) else (none)) else (none)) else (some true)
def interchange_within.f (k : Nat) (l0 : List Int) (l1 : List (S49)) : Option (Bool) := interchange_within.l0 k l1 l0 (l0.length : Int) 0
theorem interchange_within.mono_l : ∀ k, (∀ y0 y1 y2 y3, LeO (interchange_within.l0 k y0 y1 y2 y3) (interchange_within.l0 (k + 1) y0 y1 y2 y3))
 | 0 => fun _ _ _ _ r h => by simp [interchange_within.l0] at h
 | k + 1 => by
  have ih0 := interchange_within.mono_l k
  ·intro y0 y1 y2 y3
   unfold interchange_within.l0
   repeat' first
   | (with_reducible exact ih0 _ _ _ _)
   | (with_reducible exact LeO.refl _)
   | (with_reducible exact LeO.none _)
   | (with_reducible refine LeO.ite ?_ ?_)
   | (with_reducible refine LeO.bind ?_ (fun _ => ?_))
   | exact ih0 _ _ _ _
   | exact LeO.none _
   | refine LeO.ite ?_ ?_
   | refine LeO.bind ?_ (fun _ => ?_)
theorem interchange_within.mono : ∀ a0 a1 k, LeO (interchange_within.f k a0 a1) (interchange_within.f (k + 1) a0 a1) := by
 intro a0 a1 k; have ih0 := interchange_within.mono_l k
 unfold interchange_within.f
 repeat' first
  | (with_reducible exact ih0 _ _ _ _)
  | (with_reducible exact LeO.refl _)
  | (with_reducible exact LeO.none _)
  | (with_reducible refine LeO.ite ?_ ?_)
  | (with_reducible refine LeO.bind ?_ (fun _ => ?_))
  | exact ih0 _ _ _ _
  | exact LeO.none _
  | refine LeO.ite ?_ ?_
  | refine LeO.bind ?_ (fun _ => ?_)
set_option maxHeartbeats 8000000 in
set_option maxRecDepth 100000 in
theorem interchange_within.calls (k : Nat) (A0 : Option Addr) (c0 : Nat) (l0 : List Int) (A1 : Option Addr) (c1 : Nat) (l1 : List (S49)) (r : Bool) (w : World) (hr0 : Kd.C (Kd.int .i64) w A0 l0.length l0) (hc0 : l0.length ≤ c0) (hr1 : Kd.C k49 w A1 l1.length l1) (hc1 : l1.length ≤ c1) (h : interchange_within.f k l0 l1 = some r) :
  Calls Tryd.prog 16 #[.slice A0 l0.length c0, .slice A1 l1.length c1] w fun e w' => e = .returned (.bool r) ∧ Below w.heap.size w w' := by
 have hu49 := Tryd.underlying49; have HR0 := Aside0.mk hr0; have HC0 := Aside0.mk hc0; clear hr0 hc0; have HR1 := Aside0.mk hr1; have HC1 := Aside0.mk hc1; clear hr1 hc1; have HB := Aside0.mk (Below.refl w.heap.size w); have H : (interchange_within.l0 k l1 l0 (l0.length : Int) 0) = some r := h; clear h; have H' := Aside0.mk H; clear H
 go_enter Tryd.func16, Tryd.ntmps16
 go_wp2
 go_loopg [9] k (fun kq v9 w' => ∃ (x9_1 : Int), v9 = .int .i64 x9_1 ∧ Aside0 (interchange_within.l0 kq l1 l0 (l0.length : Int) x9_1 = some r) ∧ Aside0 (kq ≤ k) ∧ Aside0 (Below w.heap.size w w'))
 case atStart => exact ⟨(0), (by first | rfl | (simp; done) | (simp [*]; done)), H', ⟨Nat.le_refl _⟩, ⟨be HB.out⟩⟩
 case round =>
  clear H'
  try clear c1
  try clear p2
  obtain ⟨x9_1, rfl, HA, HK1, HB⟩ := hrel
  cases gk with
  | zero => exact absurd HA.out (by simp [interchange_within.l0])
  | succ k1 =>
   have H := HA.out; clear HA; simp only [interchange_within.l0] at H
   by_cases c3 : x9_1 < (l0.length : Int)
   ·rw [if_pos c3] at H; have c3b0 : decide (x9_1 < (l0.length : Int)) = true := decide_eq_true c3; clear c3
    by_cases c4 : 0 ≤ x9_1
    ·rw [if_pos c4] at H; have c4b0 : decide (0 ≤ x9_1) = true := decide_eq_true c4; clear c4
     by_cases c5 : x9_1 < (l0.length : Int)
     ·rw [if_pos c5] at H; have c5b0 : decide (x9_1 < (l0.length : Int)) = true := decide_eq_true c5; clear c5; obtain ⟨ji6, hji6⟩ : ∃ j_ : Int, (mn x9_1 (wrap64 ((l1.length : Int) - 1))) = j_ := ⟨_, rfl⟩
      replace H : (if 0 ≤ (ji6) then (if (ji6) < (l1.length : Int) then ((interchange_span_holds.f ((rd_T49 l1 (ji6)).f0) ((rd_T49 l1 (ji6)).f1) (rd l0 x9_1)).bind fun t105 => (if t105 = true then (interchange_within.l0 k1 l1 l0 (l0.length : Int) (wrap64 (x9_1 + 1))) else (some false))) else (none)) else (none)) = some r := by first | (rw [hji6] at H; exact H) | (simp only [hji6] at H ⊢; exact H)
      have hji6_ : (if (wrap64 ((l1.length : Int) - 1)) < x9_1 then (wrap64 ((l1.length : Int) - 1)) else x9_1) = ji6 := hji6
      by_cases c7 : 0 ≤ (ji6)
      ·rw [if_pos c7] at H; have c7b0 : decide (0 ≤ (ji6)) = true := decide_eq_true c7; clear c7
       by_cases c8 : (ji6) < (l1.length : Int)
       ·rw [if_pos c8] at H; have c8b0 : decide ((ji6) < (l1.length : Int)) = true := decide_eq_true c8; clear c8; replace H := Option.bind_eq_some_iff.mp H; obtain ⟨t105, A90, H⟩ := H; replace H : (if t105 = true then (interchange_within.l0 k1 l1 l0 (l0.length : Int) (wrap64 (x9_1 + 1))) else (some false)) = some r := H; have A9 := Aside0.mk A90; clear A90
        by_cases c10 : t105 = true
        ·subst c10
         have H1 : (interchange_within.l0 k1 l1 l0 (l0.length : Int) (wrap64 (x9_1 + 1))) = some r := by rw [if_pos rfl] at H; exact H
         clear H; have H := H1; clear H1; have H' := Aside0.mk H; clear H; have p103 : 0 ≤ (x9_1 : Int) := oda; have q103 : x9_1 < (l0.length : Int) := oda; obtain ⟨ad103, e103, hx103_0⟩ := Kd.at_int HR0.out x9_1 p103 q103; cases e103; replace hx103_0 := (HB.out.cell (World.block_lt_of_cell? w _ hx103_0)).trans hx103_0; replace p103 := eq_true p103; replace q103 := eq_true q103; have p104 : 0 ≤ ((ji6) : Int) := oda; have q104 : (ji6) < (l1.length : Int) := oda; obtain ⟨ad104, e104, hx104_0, hx104_1⟩ := at_T49 HR1.out (ji6) p104 q104; cases e104; replace hx104_0 := (HB.out.cell (World.block_lt_of_cell? w _ hx104_0)).trans hx104_0; replace hx104_1 := (HB.out.cell (World.block_lt_of_cell? w _ hx104_1)).trans hx104_1; replace p104 := eq_true p104; replace q104 := eq_true q104
         go_wp2_with (first | ((with_reducible refine gate_callee (f := 28) rfl ?_); refine goesL_ (some 23) rfl rfl Tryd.func28 (by kernel_rfl) rfl #[.agg #[.int .i64 ((rd_T49 l1 (ji6)).f0), .int .i64 ((rd_T49 l1 (ji6)).f1)], .int .i64 (rd l0 x9_1)] rfl (by (try simp only [List.map_toArray, List.map_cons, List.map_nil]); first | done | (simp only [hji6]; rfl) | rfl | (simp only [List.length_drop, List.length_take]; rfl)) ?_; (with_reducible refine (interchange_span_holds.calls ((rd_T49 l1 (ji6)).f0) ((rd_T49 l1 (ji6)).f1) (rd l0 x9_1) true _ A9.out).mono ?_); rintro e w11 ⟨rfl, hb⟩; refine ⟨_, rfl, ?_⟩; replace HB := Aside0.mk (below_step (be HB.out) hb); (try clear hb)))
         go_roundg k1
         case measure => have := HK1.out; omega
         case rel => exact ⟨(wrap64 (x9_1 + 1)), (by first | rfl | (simp; done) | (simp [*]; done)), H', ⟨by have := HK1.out; omega⟩, ⟨be HB.out⟩⟩
        ·replace c10 := Bool.eq_false_iff.mpr c10; subst c10
         have H1 : (some false) = some r := by rw [if_neg (show ¬ (false = true) by decide)] at H; exact H
         clear H; have H := H1; clear H1; obtain rfl := Option.some.inj H; have p103 : 0 ≤ (x9_1 : Int) := oda; have q103 : x9_1 < (l0.length : Int) := oda; obtain ⟨ad103, e103, hx103_0⟩ := Kd.at_int HR0.out x9_1 p103 q103; cases e103; replace hx103_0 := (HB.out.cell (World.block_lt_of_cell? w _ hx103_0)).trans hx103_0; replace p103 := eq_true p103; replace q103 := eq_true q103; have p104 : 0 ≤ ((ji6) : Int) := oda; have q104 : (ji6) < (l1.length : Int) := oda; obtain ⟨ad104, e104, hx104_0, hx104_1⟩ := at_T49 HR1.out (ji6) p104 q104; cases e104; replace hx104_0 := (HB.out.cell (World.block_lt_of_cell? w _ hx104_0)).trans hx104_0; replace hx104_1 := (HB.out.cell (World.block_lt_of_cell? w _ hx104_1)).trans hx104_1; replace p104 := eq_true p104; replace q104 := eq_true q104
         go_wp2_with (first | ((with_reducible refine gate_callee (f := 28) rfl ?_); refine goesL_ (some 23) rfl rfl Tryd.func28 (by kernel_rfl) rfl #[.agg #[.int .i64 ((rd_T49 l1 (ji6)).f0), .int .i64 ((rd_T49 l1 (ji6)).f1)], .int .i64 (rd l0 x9_1)] rfl (by (try simp only [List.map_toArray, List.map_cons, List.map_nil]); first | done | (simp only [hji6]; rfl) | rfl | (simp only [List.length_drop, List.length_take]; rfl)) ?_; (with_reducible refine (interchange_span_holds.calls ((rd_T49 l1 (ji6)).f0) ((rd_T49 l1 (ji6)).f1) (rd l0 x9_1) false _ A9.out).mono ?_); rintro e w12 ⟨rfl, hb⟩; refine ⟨_, rfl, ?_⟩; replace HB := Aside0.mk (below_step (be HB.out) hb); (try clear hb)))
         go_ret
         exact ⟨by first | rfl | (simp [errW_none, errW_some] <;> rfl) | (simp only [← hji6]; first | rfl | (simp [errW_none, errW_some] <;> rfl)) | (simp [*, errW_none, errW_some] <;> rfl), be HB.out⟩
       ·rw [if_neg c8] at H; exact absurd H (by simp)
      ·rw [if_neg c7] at H; exact absurd H (by simp)
     ·rw [if_neg c5] at H; exact absurd H (by simp)
    ·rw [if_neg c4] at H; exact absurd H (by simp)
   ·rw [if_neg c3] at H; have c3b0 : decide (x9_1 < (l0.length : Int)) = false := decide_eq_false c3; clear c3; obtain rfl := Option.some.inj H
    go_wp2
    go_ret
    exact ⟨by first | rfl | (simp [errW_none, errW_some] <;> rfl) | (simp [*, errW_none, errW_some] <;> rfl), be HB.out⟩

end Go.Proofs.YtghnjnegcdbgnaaDoor.P
namespace Go.Proofs.YtghnjnegcdbgnaaDoor.P
open Go.RowKit Go.Proofs.YtghnjnegcdbgnaaDoorW.PrintWords Go.Proofs.YtghnjnegcdbgnaaDoorW.PrintLast Go.Proofs.YtghnjnegcdbgnaaDoorW.PrintMore Go.Proofs.YtghnjnegcdbgnaaDoorW.PrintAuto
attribute [local go_sem] max2_int min2_int max_two min_two max_three min_three max_four min_four   -- for this text's walks alone
set_option linter.unusedVariables false
set_option linter.unusedSimpArgs false

def interchange_plain.f  : Option (Int × Int) := some (0, 1048576)
set_option maxHeartbeats 8000000 in
set_option maxRecDepth 100000 in
theorem interchange_plain.calls  (r1 : Int) (r2 : Int) (w : World) (h : interchange_plain.f  = some (r1, r2)) :
  Calls Tryd.prog 17 #[] w fun e w' => e = .returned (.agg #[.int .i64 r1, .int .i64 r2]) ∧ Below w.heap.size w w' := by
 have hu49 := Tryd.underlying49; have HB := Aside0.mk (Below.refl w.heap.size w); have H : (some (0, 1048576)) = some (r1, r2) := h; clear h; simp only [Option.some.injEq, Prod.mk.injEq] at H; obtain ⟨rfl, rfl⟩ := H
 go_enter Tryd.func17, Tryd.ntmps17
 go_wp2_with (first | ((with_reducible refine gate_dst (N := 0) rfl ?_); refine box_event ?hg (N := 0) ?hd (cs := #[.int .i64 0, .int .i64 0]) (t := 49) ?hr ?_; (case hd => rfl); (case hg => rfl); (case hr => first | (go_simp; done) | (go_simp; rfl)); intro gb106 hg w1 hbox hb; have BK106 := Aside0.mk (hbox); have GW106 := Aside0.mk ((by rw [hg]; exact (below_size (be HB.out)) : w.heap.size ≤ gb106)); have GE106 := Aside0.mk ((by rw [hg]; exact (below_size (be HB.out)) : w.heap.size ≤ gb106)); replace HB := Aside0.mk (below_step (be HB.out) hb); clear hb hbox hg; have hcz2_0 := bc BK106.out 0 (.int .i64 0) rfl; have hcz2_1 := bc BK106.out 1 (.int .i64 0) rfl; have hfz2_0 := blk_frozen BK106.out 0; have hfz2_1 := blk_frozen BK106.out 1))
 refine bodyPost_ret (results_cell_row rfl _ _ gb106 49 #[.int .i64 0, .int .i64 1048576] (0, 0) _ rfl (by (with_reducible repeat (first | refine blk_drewN ?_ _ | refine blk_drew ?_ | refine blk_alloc ?_ _)); refine blk_put (cs := #[.int .i64 0, .int .i64 0]) ?_ 1 _ rfl; (with_reducible repeat (first | refine blk_drewN ?_ _ | refine blk_drew ?_ | refine blk_alloc ?_ _)); refine blk_put (cs := #[.int .i64 0, .int .i64 0]) ?_ 0 _ rfl; (with_reducible repeat (first | refine blk_drewN ?_ _ | refine blk_drew ?_ | refine blk_alloc ?_ _)); exact BK106.out) Tryd.underlying49 rfl (by kernel_rfl)) rfl ?_; exact ⟨by first | rfl | (simp [errW_none, errW_some] <;> rfl) | (simp [*, errW_none, errW_some] <;> rfl), be HB.out⟩

end Go.Proofs.YtghnjnegcdbgnaaDoor.P
namespace Go.Proofs.YtghnjnegcdbgnaaDoor.P
open Go.RowKit Go.Proofs.YtghnjnegcdbgnaaDoorW.PrintWords Go.Proofs.YtghnjnegcdbgnaaDoorW.PrintLast Go.Proofs.YtghnjnegcdbgnaaDoorW.PrintMore Go.Proofs.YtghnjnegcdbgnaaDoorW.PrintAuto
attribute [local go_sem] max2_int min2_int max_two min_two max_three min_three max_four min_four   -- for this text's walks alone
set_option linter.unusedVariables false
set_option linter.unusedSimpArgs false

--FLAGS making laid
--IMPORT Derived.Test.YtghnjnegcdbgnaaDoorGL
def strconv_Itoa_30.f (a0 : Int) : Option (ByteArray) := if -9223372036854775808 ≤ a0 ∧ a0 ≤ 9223372036854775807 then some ⟨(itoaL a0).toArray⟩ else none
theorem strconv_Itoa_30.calls (a0 : Int) (r : ByteArray) (w : World) (h : strconv_Itoa_30.f a0 = some r) (hG : Aside0 (GL w)) :
  Calls Tryd.prog 30 #[.int .i64 a0] w fun e w' => e = .returned (.string r) ∧ Below w.heap.size w w' := by
 unfold strconv_Itoa_30.f at h
 split at h
 ·rename_i hb
  obtain rfl := Option.some.inj h; rw [itoaL_eq a0 hb.1 hb.2]; refine (Tryd.strconv_Itoa a0 hb.1 hb.2 w hG.out.p10).mono ?_
  rintro e w' ⟨rfl, k, os, rfl⟩
  exact ⟨rfl, Lib.below_grow _ w (Nat.le_refl _) k os⟩
 ·cases h

end Go.Proofs.YtghnjnegcdbgnaaDoor.P
namespace Go.Proofs.YtghnjnegcdbgnaaDoor.P
open Go.RowKit Go.Proofs.YtghnjnegcdbgnaaDoorW.PrintWords Go.Proofs.YtghnjnegcdbgnaaDoorW.PrintLast Go.Proofs.YtghnjnegcdbgnaaDoorW.PrintMore Go.Proofs.YtghnjnegcdbgnaaDoorW.PrintAuto
attribute [local go_sem] max2_int min2_int max_two min_two max_three min_three max_four min_four   -- for this text's walks alone
set_option linter.unusedVariables false
set_option linter.unusedSimpArgs false

--FLAGS making laid
--IMPORT Derived.Test.YtghnjnegcdbgnaaDoorGL
def interchange_text.f (l0 : List Int) : Option (ByteArray) := if l0.length ≤ 1000000 ∧ l0.all in64 = true then some ⟨(textL l0).toArray⟩ else none
set_option maxHeartbeats 4000000 in
theorem interchange_text.calls (A0 : Option Addr) (c0 : Nat) (l0 : List Int) (r : ByteArray) (w : World) (hr0 : Kd.C (Kd.int .i64) w A0 l0.length l0) (hc0 : l0.length ≤ c0) (h : interchange_text.f l0 = some r) (hG : Aside0 (GL w)) :
  Calls Tryd.prog 18 #[.slice A0 l0.length c0] w fun e w' => e = .returned (.string r) ∧ Below w.heap.size w w' := by
 unfold interchange_text.f at h
 split at h
 ·rename_i hb
  obtain rfl := Option.some.inj h; obtain ⟨hlen, hall⟩ := hb; clear h; have HR0 := Aside0.mk hr0; have HA := Aside0.mk hall; clear hr0 hall
  go_enter Tryd.func18, Tryd.ntmps18
  go_wp2
  go_loopw [8] (fun i wr => ∃ k : Nat, k ≤ l0.length ∧ i = .int .i64 k ∧ Aside0 (Lib.IsBuilder 66 5 w.heap.size w.heap.size (Lib.byteCells (textL (l0.take k))) wr) ∧ Aside0 (Below w.heap.size w wr)) (fun i _ => l0.length - (intOf i).toNat)
  case atStart => exact ⟨0, Nat.zero_le _, rfl, ⟨Lib.fresh_isBuilder _ _ w⟩, ⟨below_alloc (Below.refl _ _) _⟩⟩
  case round =>
   obtain ⟨k, hk, rfl, HBu, HB⟩ := hrel
   by_cases hlt : k < l0.length
   ·obtain ⟨ad, e1, hx0⟩ := Kd.at_int HR0.out (k : Int) (by omega) (by omega); cases e1; replace hx0 := (HB.out.cell (World.block_lt_of_cell? w _ hx0)).trans hx0; rw [Int.toNat_natCast] at hx0
    have hn : in64 (rd l0 (k : Int)) = true := by
     have e : rd l0 (k : Int) = l0[k] := by simp [rd, hlt]
     rw [e]; exact List.all_eq_true.1 HA.out _ (List.getElem_mem hlt)
    have HS : Hid (textL (l0.take (k + 1)) = textL (l0.take k) ++ (32 :: itoaL (rd l0 (k : Int)))) := by
     rw [take_snoc_getD l0 0 k hlt, textL_snoc]; rfl
    have hI : ∀ W : World, Aside0 (GL W) → Calls Tryd.prog 30 #[.int .i64 (rd l0 (k : Int))] W fun e w' => e = .returned (.string ⟨(itoaL (rd l0 (k : Int))).toArray⟩) ∧ Below W.heap.size W w' := fun W hW =>
     strconv_Itoa_30.calls (rd l0 (k : Int)) _ W (by unfold strconv_Itoa_30.f; rw [if_pos (by simpa [in64] using hn)]) hW
    have HI := Lib.hid hI; have hxl := itoaL_length (rd l0 (k : Int)); have htl := textL_length (l0.take k)
    have htk : (l0.take k).length ≤ l0.length := by rw [List.length_take]; omega
    clear hn hI; generalize rd l0 (k : Int) = n at *; generalize itoaL n = x at *
    have hs1 : 1 + (⟨x.toArray⟩ : ByteArray).size ≤ 9223372036854775807 := by rw [Lib.size_mk]; omega
    have hs2 := eq_true hs1; have hs3 : decide (1 + (⟨x.toArray⟩ : ByteArray).size ≤ 9223372036854775807) = true := decide_eq_true hs1; have hs4 : (9223372036854775807 < 1 + (⟨x.toArray⟩ : ByteArray).size) = False := eq_false (Nat.not_lt.2 hs1)
    go_wp2_with (first | (go_at_call 30; refine (HI.out _ (by exact Aside0.mk (GL.below hG.out HB.out))).mono ?_; rintro e w2 ⟨rfl, hb2⟩; have HB2 := Aside0.mk (below_step HB.out hb2); have HBu2 := Aside0.mk (builder_below HBu.out hb2); clear hb2) | (go_at_call 29; refine (Tryd.Builder_WriteString _ _ _ _ _ HBu2.out (by rw [Lib.byteCells_length]; simp only [ByteArray.size_append, Lib.size_mk]; simp; omega) HB2.out.size).mono ?_; rintro e w3 ⟨rfl, hbu3, hb3⟩; have HBu3 := Aside0.mk (show Lib.IsBuilder _ _ _ _ _ _ from .inr hbu3); have HB3 := Aside0.mk (HB2.out.trans hb3); clear hbu3 hb3))
    go_roundw
    case rel => exact ⟨k + 1, by omega, by go_num, ⟨by rw [HS.out, Lib.byteCells_append]; exact HBu3.out⟩, HB3⟩
    case measure => simp [intOf]; omega
   ·obtain rfl : k = l0.length := by omega
    go_wp2_with (go_at_call 31; refine (Tryd.Builder_String_any _ _ _ _ HBu.out HB.out.size).mono ?_; rintro e w3 ⟨rfl, hb3⟩; have HB3 := Aside0.mk (HB.out.trans hb3); clear hb3)
    go_ret
    exact ⟨rfl, HB3.out⟩
 ·cases h

end Go.Proofs.YtghnjnegcdbgnaaDoor.P
namespace Go.Proofs.YtghnjnegcdbgnaaDoor.P
open Go.RowKit Go.Proofs.YtghnjnegcdbgnaaDoorW.PrintWords Go.Proofs.YtghnjnegcdbgnaaDoorW.PrintLast Go.Proofs.YtghnjnegcdbgnaaDoorW.PrintMore Go.Proofs.YtghnjnegcdbgnaaDoorW.PrintAuto
attribute [local go_sem] max2_int min2_int max_two min_two max_three min_three max_four min_four   -- for this text's walks alone
set_option linter.unusedVariables false
set_option linter.unusedSimpArgs false

def interchange_numbers.f (a0_0 : Int) (a0_1 : Int) (a0_2 : Int) (a0_3 : Bool) (a0_4 : Int) (a0_5 : Int) (a0_6 : Int) : Option (List Int) := some (([a0_0, a0_1, a0_2, a0_4, a0_5, a0_6] : List Int))
set_option maxHeartbeats 8000000 in
set_option maxRecDepth 100000 in
theorem interchange_numbers.calls (a0_0 : Int) (a0_1 : Int) (a0_2 : Int) (a0_3 : Bool) (a0_4 : Int) (a0_5 : Int) (a0_6 : Int) (r : List Int) (w : World) (h : interchange_numbers.f a0_0 a0_1 a0_2 a0_3 a0_4 a0_5 a0_6 = some r) :
  Calls Tryd.prog 19 #[.agg #[.int .i64 a0_0, .int .i64 a0_1, .int .i64 a0_2, .bool a0_3, .int .i64 a0_4, .int .i64 a0_5, .int .i64 a0_6]] w fun e w' => ∃ v0_ : Value, e = .returned (v0_) ∧ Kd.R (Kd.int .i64) 3 w' w.heap.size (fun _ => True) v0_ r ∧ Below w.heap.size w w' := by
 have hu46 := Tryd.underlying46; have HB := Aside0.mk (Below.refl w.heap.size w); have H : (some (([a0_0, a0_1, a0_2, a0_4, a0_5, a0_6] : List Int))) = some r := h; clear h; obtain ⟨y126, hy126⟩ : ∃ y_ : List Int, y_ = (([a0_0, a0_1, a0_2, a0_4, a0_5, a0_6] : List Int)) := ⟨_, rfl⟩
 replace H : (some y126) = some r := by first | (rw [hy126]; with_reducible exact H) | (have H2_ := (Option.bind_some _ _).symm.trans H; rw [hy126]; with_reducible exact H2_) | (have H2_ := (Option.bind_some _ _).symm.trans H; with_reducible exact H2_) | with_reducible exact H | (rw [hy126]; exact H) | exact H
 have Ny126 := Aside0.mk hy126; clear hy126; obtain rfl := Option.some.inj H
 go_enter Tryd.func19, Tryd.ntmps19
 go_wp2_with (first | ((with_reducible refine gate_dst (N := 1) rfl ?_); refine box_event ?hg (N := 1) ?hd (cs := #[.int .i64 a0_0, .int .i64 a0_1, .int .i64 a0_2, .bool a0_3, .int .i64 a0_4, .int .i64 a0_5, .int .i64 a0_6]) (t := 46) ?hr ?_; (case hd => rfl); (case hg => rfl); (case hr => first | (go_simp; done) | (go_simp; rfl)); intro gb125 hg w2 hbox hb; have BK125 := Aside0.mk (hbox); have GW125 := Aside0.mk ((by rw [hg]; exact (below_size (be HB.out)) : w.heap.size ≤ gb125)); have GE125 := Aside0.mk ((by rw [hg]; exact (below_size (be HB.out)) : w.heap.size ≤ gb125)); replace HB := Aside0.mk (below_step (be HB.out) hb); clear hb hbox hg; have hcz3_0 := bc BK125.out 0 (.int .i64 a0_0) rfl; have hcz3_1 := bc BK125.out 1 (.int .i64 a0_1) rfl; have hcz3_2 := bc BK125.out 2 (.int .i64 a0_2) rfl; have hcz3_3 := bc BK125.out 3 (.bool a0_3) rfl; have hcz3_4 := bc BK125.out 4 (.int .i64 a0_4) rfl; have hcz3_5 := bc BK125.out 5 (.int .i64 a0_5) rfl; have hcz3_6 := bc BK125.out 6 (.int .i64 a0_6) rfl; have hfz3_0 := blk_frozen BK125.out 0; have hfz3_1 := blk_frozen BK125.out 1; have hfz3_2 := blk_frozen BK125.out 2; have hfz3_3 := blk_frozen BK125.out 3; have hfz3_4 := blk_frozen BK125.out 4; have hfz3_5 := blk_frozen BK125.out 5; have hfz3_6 := blk_frozen BK125.out 6) | ((with_reducible refine gate_dst (N := 18) rfl ?_); refine Kd.R_lit (Kd.int .i64) _ 3 ?hg (N := 18) ?hd (xs := ([a0_0, a0_1, a0_2, a0_4, a0_5, a0_6] : List Int)) (inner := [.int .i64 a0_0, .int .i64 a0_1, .int .i64 a0_2, .int .i64 a0_4, .int .i64 a0_5, .int .i64 a0_6]) (ok := fun _ => True) (okp := fun _ => True) ?hr ?hp (fun _ hk => hk) trivial (Below.refl _ _) (Nat.le_refl _) (by simp) ?_; (case hd => rfl); (case hg => rfl); (case hr => first | (go_simp; done) | (go_simp; rfl)); (case hp => exact (Reps.one (show Kd.M (Kd.int .i64) _ _ _ a0_0 [.int .i64 a0_0] from rfl) (Reps.one (show Kd.M (Kd.int .i64) _ _ _ a0_1 [.int .i64 a0_1] from rfl) (Reps.one (show Kd.M (Kd.int .i64) _ _ _ a0_2 [.int .i64 a0_2] from rfl) (Reps.one (show Kd.M (Kd.int .i64) _ _ _ a0_4 [.int .i64 a0_4] from rfl) (Reps.one (show Kd.M (Kd.int .i64) _ _ _ a0_5 [.int .i64 a0_5] from rfl) (Reps.one (show Kd.M (Kd.int .i64) _ _ _ a0_6 [.int .i64 a0_6] from rfl) (Reps.none _ _)))))))); intro v127 w4 ho5 hb hg_ hnew_; clear hg_ hnew_; (first | rw [← Ny126.out] at ho5 | (simp only [Int.reduceToNat] at ho5; rw [← Ny126.out] at ho5)); have HO128 := Aside0.mk (Kd.R_lower ho5 (below_size (be HB.out))); replace BK125 := Aside0.mk (blk_below (bu BK125.out) hb); replace HB := Aside0.mk (below_step (be HB.out) hb); clear hb ho5))
 go_ret
 exact ⟨_, by first | rfl | (simp [errW_none, errW_some] <;> rfl) | (simp [*, errW_none, errW_some] <;> rfl), ku (HO128.out), be HB.out⟩

end Go.Proofs.YtghnjnegcdbgnaaDoor.P
namespace Go.Proofs.YtghnjnegcdbgnaaDoor.P
open Go.RowKit Go.Proofs.YtghnjnegcdbgnaaDoorW.PrintWords Go.Proofs.YtghnjnegcdbgnaaDoorW.PrintLast Go.Proofs.YtghnjnegcdbgnaaDoorW.PrintMore Go.Proofs.YtghnjnegcdbgnaaDoorW.PrintAuto
attribute [local go_sem] max2_int min2_int max_two min_two max_three min_three max_four min_four   -- for this text's walks alone
set_option linter.unusedVariables false
set_option linter.unusedSimpArgs false

def interchange_placed.f  : Option ((List (S49))) := (interchange_plain.f).bind fun bt129 => (some (([(⟨bt129.1, bt129.2⟩ : S49), (⟨bt129.1, bt129.2⟩ : S49), (⟨bt129.1, bt129.2⟩ : S49), (⟨0, 3⟩ : S49), (⟨(-1048576), 1048576⟩ : S49), (⟨(-1048576), 1048576⟩ : S49)] : List (S49))))
set_option maxHeartbeats 8000000 in
set_option maxRecDepth 100000 in
theorem interchange_placed.calls  (r : List (S49)) (w : World) (h : interchange_placed.f  = some r) :
  Calls Tryd.prog 20 #[] w fun e w' => ∃ v0_ : Value, e = .returned (v0_) ∧ Kd.R k49 49 w' w.heap.size (fun _ => True) v0_ r ∧ Below w.heap.size w w' := by
 have hu49 := Tryd.underlying49; have HB := Aside0.mk (Below.refl w.heap.size w); have H : ((interchange_plain.f).bind fun bt129 => (some (([(⟨bt129.1, bt129.2⟩ : S49), (⟨bt129.1, bt129.2⟩ : S49), (⟨bt129.1, bt129.2⟩ : S49), (⟨0, 3⟩ : S49), (⟨(-1048576), 1048576⟩ : S49), (⟨(-1048576), 1048576⟩ : S49)] : List (S49))))) = some r := h; clear h; replace H := Option.bind_eq_some_iff.mp H; obtain ⟨⟨t129, t130⟩, A10, H⟩ := H; replace H : (some (([(⟨t129, t130⟩ : S49), (⟨t129, t130⟩ : S49), (⟨t129, t130⟩ : S49), (⟨0, 3⟩ : S49), (⟨(-1048576), 1048576⟩ : S49), (⟨(-1048576), 1048576⟩ : S49)] : List (S49)))) = some r := H; have A1 := Aside0.mk A10; clear A10; obtain ⟨y133, hy133⟩ : ∃ y_ : List (S49), y_ = (([(⟨t129, t130⟩ : S49), (⟨t129, t130⟩ : S49), (⟨t129, t130⟩ : S49), (⟨0, 3⟩ : S49), (⟨(-1048576), 1048576⟩ : S49), (⟨(-1048576), 1048576⟩ : S49)] : List (S49))) := ⟨_, rfl⟩
 replace H : (some y133) = some r := by first | (rw [hy133]; with_reducible exact H) | (have H2_ := (Option.bind_some _ _).symm.trans H; rw [hy133]; with_reducible exact H2_) | (have H2_ := (Option.bind_some _ _).symm.trans H; with_reducible exact H2_) | with_reducible exact H | (rw [hy133]; exact H) | exact H
 have Ny133 := Aside0.mk hy133; clear hy133; obtain rfl := Option.some.inj H
 go_enter Tryd.func20, Tryd.ntmps20
 go_wp2_with (first | ((with_reducible refine gate_callee (f := 17) rfl ?_); refine goesA (some 3) rfl rfl Tryd.func17 (by kernel_rfl) rfl #[] rfl ?_; (with_reducible refine (interchange_plain.calls  t129 t130 _ A1.out).mono ?_); rintro e w2 ⟨rfl, hb⟩; refine ⟨_, rfl, ?_⟩; replace HB := Aside0.mk (below_step (be HB.out) hb); (try clear hb); (try clear hk)) | ((with_reducible refine gate_dst (N := 1) rfl ?_); refine box_event ?hg (N := 1) ?hd (cs := #[.int .i64 0, .int .i64 0]) (t := 49) ?hr ?_; (case hd => rfl); (case hg => rfl); (case hr => first | (go_simp; done) | (go_simp; rfl)); intro gb131 hg w3 hbox hb; have BK131 := Aside0.mk (hbox); have GW131 := Aside0.mk ((by rw [hg]; exact (below_size (be HB.out)) : w.heap.size ≤ gb131)); have GE131 := Aside0.mk ((by rw [hg]; exact (below_size (be HB.out)) : w.heap.size ≤ gb131)); replace HB := Aside0.mk (below_step (be HB.out) hb); clear hb hbox hg) | ((with_reducible refine gate_dst (N := 2) rfl ?_); refine box_event ?hg (N := 2) ?hd (cs := #[.int .i64 0, .int .i64 0]) (t := 49) ?hr ?_; (case hd => rfl); (case hg => rfl); (case hr => first | (go_simp; done) | (go_simp; rfl)); intro gb132 hg w4 hbox hb; have BK132 := Aside0.mk (hbox); have GW132 := Aside0.mk ((by rw [hg]; exact (below_size (be HB.out)) : w.heap.size ≤ gb132)); have GE132 := Aside0.mk ((by rw [hg]; exact (below_size (be HB.out)) : w.heap.size ≤ gb132)); have NB131_132 := Aside0.mk ((by rw [hg]; exact Nat.ne_of_lt (blk_lt (g := gb131) (o := .cells #[.int .i64 0, .int .i64 0] 49 (0, 0)) (bu BK131.out)) : gb131 ≠ gb132)); have NB132_131 := Aside0.mk ((by rw [hg]; exact Nat.ne_of_gt (blk_lt (g := gb131) (o := .cells #[.int .i64 0, .int .i64 0] 49 (0, 0)) (bu BK131.out)) : gb132 ≠ gb131)); replace BK131 := Aside0.mk (blk_below (bu BK131.out) hb); replace HB := Aside0.mk (below_step (be HB.out) hb); clear hb hbox hg; have hnb5 := NB131_132.out; have hnc5 := NB132_131.out; have hcz6_0 := bc BK131.out 0 (.int .i64 0) rfl; have hcz6_1 := bc BK131.out 1 (.int .i64 0) rfl; have hfz6_0 := blk_frozen BK131.out 0; have hfz6_1 := blk_frozen BK131.out 1; have hcz7_0 := bc BK132.out 0 (.int .i64 0) rfl; have hcz7_1 := bc BK132.out 1 (.int .i64 0) rfl; have hfz7_0 := blk_frozen BK132.out 0; have hfz7_1 := blk_frozen BK132.out 1) | ((with_reducible refine gate_dst (N := 11) rfl ?_); refine Kd.R_lit k49 _ 49 ?hg (N := 11) ?hd (xs := ([(⟨t129, t130⟩ : S49), (⟨t129, t130⟩ : S49), (⟨t129, t130⟩ : S49), (⟨0, 3⟩ : S49), (⟨(-1048576), 1048576⟩ : S49), (⟨(-1048576), 1048576⟩ : S49)] : List (S49))) (inner := [.int .i64 t129, .int .i64 t130, .int .i64 t129, .int .i64 t130, .int .i64 t129, .int .i64 t130, .int .i64 0, .int .i64 3, .int .i64 (-1048576), .int .i64 1048576, .int .i64 (-1048576), .int .i64 1048576]) (ok := fun _ => True) (okp := fun _ => True) ?hr ?hp (fun _ hk => hk) trivial (Below.refl _ _) (Nat.le_refl _) (by simp) ?_; (case hd => rfl); (case hg => rfl); (case hr => first | (go_simp; done) | (go_simp; rfl)); (case hp => exact (Reps.c2 (show Kd.M k49 _ _ _ (⟨t129, t130⟩ : S49) [.int .i64 t129, .int .i64 t130] from (k49_mkM _ _ _ (⟨t129, t130⟩ : S49) )) (Reps.c2 (show Kd.M k49 _ _ _ (⟨t129, t130⟩ : S49) [.int .i64 t129, .int .i64 t130] from (k49_mkM _ _ _ (⟨t129, t130⟩ : S49) )) (Reps.c2 (show Kd.M k49 _ _ _ (⟨t129, t130⟩ : S49) [.int .i64 t129, .int .i64 t130] from (k49_mkM _ _ _ (⟨t129, t130⟩ : S49) )) (Reps.c2 (show Kd.M k49 _ _ _ (⟨0, 3⟩ : S49) [.int .i64 0, .int .i64 3] from (k49_mkM _ _ _ (⟨0, 3⟩ : S49) )) (Reps.c2 (show Kd.M k49 _ _ _ (⟨(-1048576), 1048576⟩ : S49) [.int .i64 (-1048576), .int .i64 1048576] from (k49_mkM _ _ _ (⟨(-1048576), 1048576⟩ : S49) )) (Reps.c2 (show Kd.M k49 _ _ _ (⟨(-1048576), 1048576⟩ : S49) [.int .i64 (-1048576), .int .i64 1048576] from (k49_mkM _ _ _ (⟨(-1048576), 1048576⟩ : S49) )) (Reps.none _ _)))))))); intro v134 w8 ho9 hb hg_ hnew_; clear hg_ hnew_; (first | rw [← Ny133.out] at ho9 | (simp only [Int.reduceToNat] at ho9; rw [← Ny133.out] at ho9)); have HO135 := Aside0.mk (Kd.R_lower (Kd.R_newB (Kd.R_newB ho9 (g := gb131) (o := .cells #[.int .i64 t129, .int .i64 t130] 49 (0, 0)) (by (with_reducible repeat (first | refine blk_drewN ?_ _ | refine blk_drew ?_ | refine blk_alloc ?_ _)); refine blk_far ?_ NB131_132.out _; (with_reducible repeat (first | refine blk_drewN ?_ _ | refine blk_drew ?_ | refine blk_alloc ?_ _)); refine blk_far ?_ NB131_132.out _; (with_reducible repeat (first | refine blk_drewN ?_ _ | refine blk_drew ?_ | refine blk_alloc ?_ _)); refine blk_put (cs := #[.int .i64 t129, .int .i64 0]) ?_ 1 _ rfl; (with_reducible repeat (first | refine blk_drewN ?_ _ | refine blk_drew ?_ | refine blk_alloc ?_ _)); refine blk_put (cs := #[.int .i64 0, .int .i64 0]) ?_ 0 _ rfl; (with_reducible repeat (first | refine blk_drewN ?_ _ | refine blk_drew ?_ | refine blk_alloc ?_ _)); exact BK131.out)) (g := gb132) (o := .cells #[.int .i64 (-1048576), .int .i64 1048576] 49 (0, 0)) (by (with_reducible repeat (first | refine blk_drewN ?_ _ | refine blk_drew ?_ | refine blk_alloc ?_ _)); refine blk_put (cs := #[.int .i64 (-1048576), .int .i64 0]) ?_ 1 _ rfl; (with_reducible repeat (first | refine blk_drewN ?_ _ | refine blk_drew ?_ | refine blk_alloc ?_ _)); refine blk_put (cs := #[.int .i64 0, .int .i64 0]) ?_ 0 _ rfl; (with_reducible repeat (first | refine blk_drewN ?_ _ | refine blk_drew ?_ | refine blk_alloc ?_ _)); refine blk_far ?_ NB132_131.out _; (with_reducible repeat (first | refine blk_drewN ?_ _ | refine blk_drew ?_ | refine blk_alloc ?_ _)); refine blk_far ?_ NB132_131.out _; (with_reducible repeat (first | refine blk_drewN ?_ _ | refine blk_drew ?_ | refine blk_alloc ?_ _)); exact BK132.out)) (below_size (be HB.out))); replace BK131 := Aside0.mk (blk_below (g := gb131) (o := .cells #[.int .i64 t129, .int .i64 t130] 49 (0, 0)) (by (with_reducible repeat (first | refine blk_drewN ?_ _ | refine blk_drew ?_ | refine blk_alloc ?_ _)); refine blk_far ?_ NB131_132.out _; (with_reducible repeat (first | refine blk_drewN ?_ _ | refine blk_drew ?_ | refine blk_alloc ?_ _)); refine blk_far ?_ NB131_132.out _; (with_reducible repeat (first | refine blk_drewN ?_ _ | refine blk_drew ?_ | refine blk_alloc ?_ _)); refine blk_put (cs := #[.int .i64 t129, .int .i64 0]) ?_ 1 _ rfl; (with_reducible repeat (first | refine blk_drewN ?_ _ | refine blk_drew ?_ | refine blk_alloc ?_ _)); refine blk_put (cs := #[.int .i64 0, .int .i64 0]) ?_ 0 _ rfl; (with_reducible repeat (first | refine blk_drewN ?_ _ | refine blk_drew ?_ | refine blk_alloc ?_ _)); exact BK131.out) hb); replace BK132 := Aside0.mk (blk_below (g := gb132) (o := .cells #[.int .i64 (-1048576), .int .i64 1048576] 49 (0, 0)) (by (with_reducible repeat (first | refine blk_drewN ?_ _ | refine blk_drew ?_ | refine blk_alloc ?_ _)); refine blk_put (cs := #[.int .i64 (-1048576), .int .i64 0]) ?_ 1 _ rfl; (with_reducible repeat (first | refine blk_drewN ?_ _ | refine blk_drew ?_ | refine blk_alloc ?_ _)); refine blk_put (cs := #[.int .i64 0, .int .i64 0]) ?_ 0 _ rfl; (with_reducible repeat (first | refine blk_drewN ?_ _ | refine blk_drew ?_ | refine blk_alloc ?_ _)); refine blk_far ?_ NB132_131.out _; (with_reducible repeat (first | refine blk_drewN ?_ _ | refine blk_drew ?_ | refine blk_alloc ?_ _)); refine blk_far ?_ NB132_131.out _; (with_reducible repeat (first | refine blk_drewN ?_ _ | refine blk_drew ?_ | refine blk_alloc ?_ _)); exact BK132.out) hb); replace HB := Aside0.mk (below_step (be HB.out) hb); clear hb ho9))
 go_ret
 exact ⟨_, by first | rfl | (simp [errW_none, errW_some] <;> rfl) | (simp [*, errW_none, errW_some] <;> rfl), ku (Kd.R_mono HO135.out (fun _ hk => trivial)), be HB.out⟩

end Go.Proofs.YtghnjnegcdbgnaaDoor.P
namespace Go.Proofs.YtghnjnegcdbgnaaDoor.P
open Go.RowKit Go.Proofs.YtghnjnegcdbgnaaDoorW.PrintWords Go.Proofs.YtghnjnegcdbgnaaDoorW.PrintLast Go.Proofs.YtghnjnegcdbgnaaDoorW.PrintMore Go.Proofs.YtghnjnegcdbgnaaDoorW.PrintAuto
attribute [local go_sem] max2_int min2_int max_two min_two max_three min_three max_four min_four   -- for this text's walks alone
set_option linter.unusedVariables false
set_option linter.unusedSimpArgs false

--IMPORT Derived.Test.YtghnjnegcdbgnaaDoorGL
mutual
def interchange_Print.j0 : Nat → Bool → Int → Int → Int → Int → List Int → List (S46) → Option (ByteArray × Int)
 | 0, _, _, _, _, _, _, _ => none
 | k + 1, x20, x137000, x137001, x137002, x137003, x137004, x137005 => if x20 = true then (some ((⟨#[]⟩ : ByteArray), 5)) else ((some (([x137000, x137001, x137002, x137003] : List Int) : List Int)).bind fun y137 => ((interchange_plain.f).bind fun bt140 => ((interchange_within.f k y137 (([(⟨bt140.1, bt140.2⟩ : S49)] : List (S49)))).bind fun t145 => (if t145 = true then ((interchange_plain.f).bind fun bt146 => ((interchange_within.f k x137004 (([(⟨bt146.1, bt146.2⟩ : S49)] : List (S49)))).bind fun t151 => (interchange_Print.j1 k y137 t151 x137000 x137001 x137002 x137003 x137004 x137005))) else (interchange_Print.j1 k y137 false x137000 x137001 x137002 x137003 x137004 x137005)))))
def interchange_Print.j1 : Nat → List Int → Bool → Int → Int → Int → Int → List Int → List (S46) → Option (ByteArray × Int)
 | 0, _, _, _, _, _, _, _, _ => none
 | k + 1, x4, x5, x137000, x137001, x137002, x137003, x137004, x137005 => (interchange_text.f x4).bind fun t152 => (if 6 + t152.size ≤ 9223372036854775807 then (if 6 + t152.size + 6 ≤ 9223372036854775807 then ((interchange_text.f x137004).bind fun t153 => (if 6 + t152.size + 6 + t153.size ≤ 9223372036854775807 then (if 6 + t152.size + 6 + t153.size + 1 ≤ 9223372036854775807 then (interchange_Print.l0 k x5 (((((⟨#[109, 97, 114, 107, 101, 114]⟩ : ByteArray) ++ t152) ++ (⟨#[10, 115, 105, 122, 101, 115]⟩ : ByteArray)) ++ t153) ++ (⟨#[10]⟩ : ByteArray)) x137005 (x137005.length : Int) 0) else (none)) else (none))) else (none)) else (none))
def interchange_Print.l0 : Nat → Bool → ByteArray → List (S46) → Int → Int → Option (ByteArray × Int)
 | 0, _, _, _, _, _ => none
 | k + 1, x5, x6, x53, x54, x55 => if x55 < x54 then (if 0 ≤ x55 then (if x55 < (x53.length : Int) then ((interchange_numbers.f ((rd_T46 x53 x55).f0) ((rd_T46 x53 x55).f1) ((rd_T46 x53 x55).f2) ((rd_T46 x53 x55).f3.f0) ((rd_T46 x53 x55).f3.f1) ((rd_T46 x53 x55).f4.f0) ((rd_T46 x53 x55).f4.f1)).bind fun t156 => (if x5 = true then ((interchange_placed.f).bind fun t159 => ((interchange_within.f k t156 t159).bind fun t162 => (interchange_Print.j3 k t162 x6 t156 x53 x54 x55 ((rd_T46 x53 x55).f0) ((rd_T46 x53 x55).f1) ((rd_T46 x53 x55).f2) ((rd_T46 x53 x55).f3.f0) ((rd_T46 x53 x55).f3.f1) ((rd_T46 x53 x55).f4.f0) ((rd_T46 x53 x55).f4.f1)))) else (interchange_Print.j3 k false x6 t156 x53 x54 x55 ((rd_T46 x53 x55).f0) ((rd_T46 x53 x55).f1) ((rd_T46 x53 x55).f2) ((rd_T46 x53 x55).f3.f0) ((rd_T46 x53 x55).f3.f1) ((rd_T46 x53 x55).f4.f0) ((rd_T46 x53 x55).f4.f1)))) else (none)) else (none)) else (if x5 = true then (some (x6, 0)) else (some ((⟨#[]⟩ : ByteArray), 3)))
def interchange_Print.j3 : Nat → Bool → ByteArray → List Int → List (S46) → Int → Int → Int → Int → Int → Bool → Int → Int → Int → Option (ByteArray × Int)
 | 0, _, _, _, _, _, _, _, _, _, _, _, _, _ => none
 | k + 1, x5, x6, x9, x53, x54, x55, x156000, x156001, x156002, x156003, x156004, x156005, x156006 => if x156003 = true then (interchange_Print.j4 k x5 x6 x9 (⟨#[32, 102, 108, 105, 112]⟩ : ByteArray) x53 x54 x55) else (interchange_Print.j4 k x5 x6 x9 (⟨#[]⟩ : ByteArray) x53 x54 x55)
def interchange_Print.j4 : Nat → Bool → ByteArray → List Int → ByteArray → List (S46) → Int → Int → Option (ByteArray × Int)
 | 0, _, _, _, _, _, _, _ => none
 | k + 1, x5, x6, x9, x10, x53, x54, x55 => if 3 ≤ (x9.length : Int) then ((interchange_text.f (x9.take 3)).bind fun t167 => (if 5 + t167.size ≤ 9223372036854775807 then (if 5 + t167.size + x10.size ≤ 9223372036854775807 then ((interchange_text.f (x9.drop 3)).bind fun t172 => (if 5 + t167.size + x10.size + t172.size ≤ 9223372036854775807 then (if 5 + t167.size + x10.size + t172.size + 1 ≤ 9223372036854775807 then (if x6.size + (5 + t167.size + x10.size + t172.size + 1) ≤ 9223372036854775807 then (interchange_Print.l0 k x5 (x6 ++ (((((⟨#[112, 108, 97, 99, 101]⟩ : ByteArray) ++ t167) ++ x10) ++ t172) ++ (⟨#[10]⟩ : ByteArray))) x53 x54 (wrap64 (x55 + 1))) else (none)) else (none)) else (none))) else (none)) else (none))) else (none)
end
def interchange_Print.f (k : Nat) (a0_0 : Int) (a0_1 : Int) (a0_2 : Int) (a0_3 : Int) (l0_4 : List Int) (l0_5 : List (S46)) : Option (ByteArray × Int) := if (l0_4.length : Int) > 6 then (interchange_Print.j0 k true a0_0 a0_1 a0_2 a0_3 l0_4 l0_5) else (interchange_Print.j0 k (decide ((l0_5.length : Int) > 60)) a0_0 a0_1 a0_2 a0_3 l0_4 l0_5)
theorem interchange_Print.mono_l : ∀ k, (∀ y0 y1 y2 y3 y4 y5 y6, LeO (interchange_Print.j0 k y0 y1 y2 y3 y4 y5 y6) (interchange_Print.j0 (k + 1) y0 y1 y2 y3 y4 y5 y6)) ∧ (∀ y0 y1 y2 y3 y4 y5 y6 y7, LeO (interchange_Print.j1 k y0 y1 y2 y3 y4 y5 y6 y7) (interchange_Print.j1 (k + 1) y0 y1 y2 y3 y4 y5 y6 y7)) ∧ (∀ y0 y1 y2 y3 y4, LeO (interchange_Print.l0 k y0 y1 y2 y3 y4) (interchange_Print.l0 (k + 1) y0 y1 y2 y3 y4)) ∧ (∀ y0 y1 y2 y3 y4 y5 y6 y7 y8 y9 y10 y11 y12, LeO (interchange_Print.j3 k y0 y1 y2 y3 y4 y5 y6 y7 y8 y9 y10 y11 y12) (interchange_Print.j3 (k + 1) y0 y1 y2 y3 y4 y5 y6 y7 y8 y9 y10 y11 y12)) ∧ (∀ y0 y1 y2 y3 y4 y5 y6, LeO (interchange_Print.j4 k y0 y1 y2 y3 y4 y5 y6) (interchange_Print.j4 (k + 1) y0 y1 y2 y3 y4 y5 y6))
 | 0 => ⟨fun _ _ _ _ _ _ _ r h => by simp [interchange_Print.j0] at h, fun _ _ _ _ _ _ _ _ r h => by simp [interchange_Print.j1] at h, fun _ _ _ _ _ r h => by simp [interchange_Print.l0] at h, fun _ _ _ _ _ _ _ _ _ _ _ _ _ r h => by simp [interchange_Print.j3] at h, fun _ _ _ _ _ _ _ r h => by simp [interchange_Print.j4] at h⟩
 | k + 1 => by
  obtain ⟨ih0, ih1, ih2, ih3, ih4⟩ := interchange_Print.mono_l k
  refine ⟨?_, ?_, ?_, ?_, ?_⟩
  ·intro y0 y1 y2 y3 y4 y5 y6
   unfold interchange_Print.j0
   repeat' first
   | (with_reducible exact ih0 _ _ _ _ _ _ _)
   | (with_reducible exact ih1 _ _ _ _ _ _ _ _)
   | (with_reducible exact ih2 _ _ _ _ _)
   | (with_reducible exact ih3 _ _ _ _ _ _ _ _ _ _ _ _ _)
   | (with_reducible exact ih4 _ _ _ _ _ _ _)
   | (with_reducible exact interchange_within.mono _ _ _)
   | (with_reducible exact LeO.refl _)
   | (with_reducible exact LeO.none _)
   | (with_reducible refine LeO.ite ?_ ?_)
   | (with_reducible refine LeO.bind ?_ (fun _ => ?_))
   | exact ih0 _ _ _ _ _ _ _
   | exact ih1 _ _ _ _ _ _ _ _
   | exact ih2 _ _ _ _ _
   | exact ih3 _ _ _ _ _ _ _ _ _ _ _ _ _
   | exact ih4 _ _ _ _ _ _ _
   | exact interchange_within.mono _ _ _
   | exact LeO.none _
   | refine LeO.ite ?_ ?_
   | refine LeO.bind ?_ (fun _ => ?_)
  ·intro y0 y1 y2 y3 y4 y5 y6 y7
   unfold interchange_Print.j1
   repeat' first
   | (with_reducible exact ih0 _ _ _ _ _ _ _)
   | (with_reducible exact ih1 _ _ _ _ _ _ _ _)
   | (with_reducible exact ih2 _ _ _ _ _)
   | (with_reducible exact ih3 _ _ _ _ _ _ _ _ _ _ _ _ _)
   | (with_reducible exact ih4 _ _ _ _ _ _ _)
   | (with_reducible exact interchange_within.mono _ _ _)
   | (with_reducible exact LeO.refl _)
   | (with_reducible exact LeO.none _)
   | (with_reducible refine LeO.ite ?_ ?_)
   | (with_reducible refine LeO.bind ?_ (fun _ => ?_))
   | exact ih0 _ _ _ _ _ _ _
   | exact ih1 _ _ _ _ _ _ _ _
   | exact ih2 _ _ _ _ _
   | exact ih3 _ _ _ _ _ _ _ _ _ _ _ _ _
   | exact ih4 _ _ _ _ _ _ _
   | exact interchange_within.mono _ _ _
   | exact LeO.none _
   | refine LeO.ite ?_ ?_
   | refine LeO.bind ?_ (fun _ => ?_)
  ·intro y0 y1 y2 y3 y4
   unfold interchange_Print.l0
   repeat' first
   | (with_reducible exact ih0 _ _ _ _ _ _ _)
   | (with_reducible exact ih1 _ _ _ _ _ _ _ _)
   | (with_reducible exact ih2 _ _ _ _ _)
   | (with_reducible exact ih3 _ _ _ _ _ _ _ _ _ _ _ _ _)
   | (with_reducible exact ih4 _ _ _ _ _ _ _)
   | (with_reducible exact interchange_within.mono _ _ _)
   | (with_reducible exact LeO.refl _)
   | (with_reducible exact LeO.none _)
   | (with_reducible refine LeO.ite ?_ ?_)
   | (with_reducible refine LeO.bind ?_ (fun _ => ?_))
   | exact ih0 _ _ _ _ _ _ _
   | exact ih1 _ _ _ _ _ _ _ _
   | exact ih2 _ _ _ _ _
   | exact ih3 _ _ _ _ _ _ _ _ _ _ _ _ _
   | exact ih4 _ _ _ _ _ _ _
   | exact interchange_within.mono _ _ _
   | exact LeO.none _
   | refine LeO.ite ?_ ?_
   | refine LeO.bind ?_ (fun _ => ?_)
  ·intro y0 y1 y2 y3 y4 y5 y6 y7 y8 y9 y10 y11 y12
   unfold interchange_Print.j3
   repeat' first
   | (with_reducible exact ih0 _ _ _ _ _ _ _)
   | (with_reducible exact ih1 _ _ _ _ _ _ _ _)
   | (with_reducible exact ih2 _ _ _ _ _)
   | (with_reducible exact ih3 _ _ _ _ _ _ _ _ _ _ _ _ _)
   | (with_reducible exact ih4 _ _ _ _ _ _ _)
   | (with_reducible exact interchange_within.mono _ _ _)
   | (with_reducible exact LeO.refl _)
   | (with_reducible exact LeO.none _)
   | (with_reducible refine LeO.ite ?_ ?_)
   | (with_reducible refine LeO.bind ?_ (fun _ => ?_))
   | exact ih0 _ _ _ _ _ _ _
   | exact ih1 _ _ _ _ _ _ _ _
   | exact ih2 _ _ _ _ _
   | exact ih3 _ _ _ _ _ _ _ _ _ _ _ _ _
   | exact ih4 _ _ _ _ _ _ _
   | exact interchange_within.mono _ _ _
   | exact LeO.none _
   | refine LeO.ite ?_ ?_
   | refine LeO.bind ?_ (fun _ => ?_)
  ·intro y0 y1 y2 y3 y4 y5 y6
   unfold interchange_Print.j4
   repeat' first
   | (with_reducible exact ih0 _ _ _ _ _ _ _)
   | (with_reducible exact ih1 _ _ _ _ _ _ _ _)
   | (with_reducible exact ih2 _ _ _ _ _)
   | (with_reducible exact ih3 _ _ _ _ _ _ _ _ _ _ _ _ _)
   | (with_reducible exact ih4 _ _ _ _ _ _ _)
   | (with_reducible exact interchange_within.mono _ _ _)
   | (with_reducible exact LeO.refl _)
   | (with_reducible exact LeO.none _)
   | (with_reducible refine LeO.ite ?_ ?_)
   | (with_reducible refine LeO.bind ?_ (fun _ => ?_))
   | exact ih0 _ _ _ _ _ _ _
   | exact ih1 _ _ _ _ _ _ _ _
   | exact ih2 _ _ _ _ _
   | exact ih3 _ _ _ _ _ _ _ _ _ _ _ _ _
   | exact ih4 _ _ _ _ _ _ _
   | exact interchange_within.mono _ _ _
   | exact LeO.none _
   | refine LeO.ite ?_ ?_
   | refine LeO.bind ?_ (fun _ => ?_)
theorem interchange_Print.mono : ∀ a0 a1 a2 a3 a4 a5 k, LeO (interchange_Print.f k a0 a1 a2 a3 a4 a5) (interchange_Print.f (k + 1) a0 a1 a2 a3 a4 a5) := by
 intro a0 a1 a2 a3 a4 a5 k; obtain ⟨ih0, ih1, ih2, ih3, ih4⟩ := interchange_Print.mono_l k
 unfold interchange_Print.f
 repeat' first
  | (with_reducible exact ih0 _ _ _ _ _ _ _)
  | (with_reducible exact ih1 _ _ _ _ _ _ _ _)
  | (with_reducible exact ih2 _ _ _ _ _)
  | (with_reducible exact ih3 _ _ _ _ _ _ _ _ _ _ _ _ _)
  | (with_reducible exact ih4 _ _ _ _ _ _ _)
  | (with_reducible exact interchange_within.mono _ _ _)
  | (with_reducible exact LeO.refl _)
  | (with_reducible exact LeO.none _)
  | (with_reducible refine LeO.ite ?_ ?_)
  | (with_reducible refine LeO.bind ?_ (fun _ => ?_))
  | exact ih0 _ _ _ _ _ _ _
  | exact ih1 _ _ _ _ _ _ _ _
  | exact ih2 _ _ _ _ _
  | exact ih3 _ _ _ _ _ _ _ _ _ _ _ _ _
  | exact ih4 _ _ _ _ _ _ _
  | exact interchange_within.mono _ _ _
  | exact LeO.none _
  | refine LeO.ite ?_ ?_
  | refine LeO.bind ?_ (fun _ => ?_)
def interchange_Print.T4 : Bool × List (List Nat × List Nat) := (true, [([], []), ([], []), ([1], [1]), ([0, 2, 1], [0, 2]), ([3, 3], [3]), ([4], [4]), ([5, 4], [4, 5]), ([4, 4], [4]), ([7, 4], [4, 7]), ([6, 8, 7, 4], [4, 6, 8]), ([4, 9], [4, 9]), ([10, 9, 0, 1, 2, 3, 4, 5, 6, 7, 8, 9, 10], [10])])
def interchange_Print.B4 : List Nat := [0, 0, 2, 7, 15, 31, 63, 31, 159, 511, 1023, 2047]
theorem interchange_Print.tab4 : rtab .any (opsOf Tryd.f10 4) = interchange_Print.T4 := by kernel_rfl
theorem interchange_Print.bits4 : waitsOk interchange_Print.T4.2 interchange_Print.B4 = true := by kernel_rfl
def interchange_Print.T5 : Bool × List (List Nat × List Nat) := (true, [([], []), ([0], [0]), ([1], [1]), ([2], [2]), ([], []), ([4], [4]), ([5, 1], [5]), ([3, 6], [3, 6]), ([7], [7]), ([8, 6, 0, 1, 2, 3, 4, 5, 6, 7, 8], [8])])
def interchange_Print.B5 : List Nat := [0, 1, 3, 7, 0, 16, 51, 127, 255, 511]
theorem interchange_Print.tab5 : rtab .any (opsOf Tryd.f10 5) = interchange_Print.T5 := by kernel_rfl
theorem interchange_Print.bits5 : waitsOk interchange_Print.T5.2 interchange_Print.B5 = true := by kernel_rfl
def interchange_Print.T14 : Bool × List (List Nat × List Nat) := (true, [([], []), ([], []), ([1], [1]), ([2], [2]), ([3], [3]), ([], []), ([4, 5], [4, 5]), ([], []), ([7], [7]), ([8, 3], [8]), ([6, 9], [6, 9]), ([10], [10]), ([0, 11], [0, 11]), ([12, 9, 0, 1, 2, 3, 4, 5, 6, 7, 8, 9, 10, 11, 12], [0, 12])])
def interchange_Print.B14 : List Nat := [0, 0, 2, 6, 14, 0, 62, 0, 128, 398, 1022, 2046, 4095, 8191]
theorem interchange_Print.tab14 : rtab .any (opsOf Tryd.f10 14) = interchange_Print.T14 := by kernel_rfl
theorem interchange_Print.bits14 : waitsOk interchange_Print.T14.2 interchange_Print.B14 = true := by kernel_rfl
set_option maxHeartbeats 8000000 in
set_option maxRecDepth 100000 in
theorem interchange_Print.calls (k : Nat) (a0_0 : Int) (a0_1 : Int) (a0_2 : Int) (a0_3 : Int) (A0_4 : Option Addr) (c0_4 : Nat) (l0_4 : List Int) (A0_5 : Option Addr) (c0_5 : Nat) (l0_5 : List (S46)) (r1 : ByteArray) (r2 : Int) (w : World) (hr0_4 : Kd.C (Kd.int .i64) w A0_4 l0_4.length l0_4) (hc0_4 : l0_4.length ≤ c0_4) (hr0_5 : Kd.C k46 w A0_5 l0_5.length l0_5) (hc0_5 : l0_5.length ≤ c0_5) (h : interchange_Print.f k a0_0 a0_1 a0_2 a0_3 l0_4 l0_5 = some (r1, r2)) (hG : Aside0 (GL w)) :
  Calls Tryd.prog 10 #[.agg #[.int .i64 a0_0, .int .i64 a0_1, .int .i64 a0_2, .int .i64 a0_3, .slice A0_4 l0_4.length c0_4, .slice A0_5 l0_5.length c0_5]] w fun e w' => e = .returned (.tuple #[.string r1, .int .i64 r2]) ∧ Below w.heap.size w w' := by
 have hu27 := Tryd.underlying27; have hu46 := Tryd.underlying46; have HR0_4 := Aside0.mk hr0_4; have HC0_4 := Aside0.mk hc0_4; clear hr0_4 hc0_4; have HR0_5 := Aside0.mk hr0_5; have HC0_5 := Aside0.mk hc0_5; clear hr0_5 hc0_5; have HB := Aside0.mk (Below.refl w.heap.size w); have H : (if (l0_4.length : Int) > 6 then (interchange_Print.j0 k true a0_0 a0_1 a0_2 a0_3 l0_4 l0_5) else (interchange_Print.j0 k (decide ((l0_5.length : Int) > 60)) a0_0 a0_1 a0_2 a0_3 l0_4 l0_5)) = some (r1, r2) := h; clear h; have HC2 := Aside0.mk H; clear H
 go_enter Tryd.func10, Tryd.ntmps10
 go_upto_region 1 with (first | ((with_reducible refine gate_dst (N := 1) rfl ?_); (try (refine gate_guard (by rfl) ?_; dsimp only)); refine box_event ?hg (N := 1) ?hd (cs := #[.int .i64 a0_0, .int .i64 a0_1, .int .i64 a0_2, .int .i64 a0_3, .slice A0_4 l0_4.length c0_4, .slice A0_5 l0_5.length c0_5]) (t := 27) ?hr ?_; (case hd => rfl); (case hg => rfl); (case hr => first | (go_simp; done) | (go_simp; rfl)); intro gb136 hg w3 hbox hb; have BK136 := Aside0.mk (hbox); have GW136 := Aside0.mk ((by rw [hg]; exact (below_size (be HB.out)) : w.heap.size ≤ gb136)); have GE136 := Aside0.mk ((by rw [hg]; exact (below_size (be HB.out)) : w.heap.size ≤ gb136)); replace HB := Aside0.mk (below_step (be HB.out) hb); clear hb hbox hg))
 (try simp only [Act.put, List.setIfInBounds_toArray, List.set_cons_zero, List.set_cons_succ])
 go_cut [20] (fun v20 wc => ∃ (kq : Nat) (x20_1 : Bool), v20 = .bool x20_1 ∧ Aside0 (interchange_Print.j0 kq x20_1 a0_0 a0_1 a0_2 a0_3 l0_4 l0_5 = some (r1, r2)) ∧ Aside0 (kq ≤ k) ∧ Aside0 (wc.heap[gb136]? = some (.cells #[.int .i64 a0_0, .int .i64 a0_1, .int .i64 a0_2, .int .i64 a0_3, (.slice A0_4 l0_4.length c0_4), (.slice A0_5 l0_5.length c0_5)] 27 (0, 0))) ∧ Aside0 (Below w.heap.size w wc))
 case first =>
  have H := HC2.out; clear HC2
  by_cases c4 : (l0_4.length : Int) > 6
  ·rw [if_pos c4] at H; have c4b0 : decide (6 < (l0_4.length : Int)) = true := decide_eq_true c4; have c4b1 : decide (6 < l0_4.length) = true := decide_eq_true (by omega); clear c4
   (first | rw [c4b0] | (simp only [i64_w, i32_w]; rw [c4b0]) | skip)
   have H' := Aside0.mk H; clear H; have hcz5_0 := bc BK136.out 0 (.int .i64 a0_0) rfl; have hcz5_1 := bc BK136.out 1 (.int .i64 a0_1) rfl; have hcz5_2 := bc BK136.out 2 (.int .i64 a0_2) rfl; have hcz5_3 := bc BK136.out 3 (.int .i64 a0_3) rfl; have hcz5_4 := bc BK136.out 4 (.slice A0_4 l0_4.length c0_4) rfl; have hcz5_5 := bc BK136.out 5 (.slice A0_5 l0_5.length c0_5) rfl; have hfz5_0 := blk_frozen BK136.out 0; have hfz5_1 := blk_frozen BK136.out 1; have hfz5_2 := blk_frozen BK136.out 2; have hfz5_3 := blk_frozen BK136.out 3; have hfz5_4 := blk_frozen BK136.out 4; have hfz5_5 := blk_frozen BK136.out 5
   go_wp2
   go_meet
   case rel => exact ⟨_, (true), (by first | rfl | (simp; done) | (simp [*]; done)), H', ⟨by first | omega | exact Nat.le_refl _⟩, ⟨bu (BK136.out)⟩, ⟨be HB.out⟩⟩
  ·rw [if_neg c4] at H; have c4b0 : decide (6 < (l0_4.length : Int)) = false := decide_eq_false c4; have c4b1 : decide (6 < l0_4.length) = false := decide_eq_false (by omega); clear c4
   (first | rw [c4b0] | (simp only [i64_w, i32_w]; rw [c4b0]) | skip)
   have H' := Aside0.mk H; clear H; have hcz6_0 := bc BK136.out 0 (.int .i64 a0_0) rfl; have hcz6_1 := bc BK136.out 1 (.int .i64 a0_1) rfl; have hcz6_2 := bc BK136.out 2 (.int .i64 a0_2) rfl; have hcz6_3 := bc BK136.out 3 (.int .i64 a0_3) rfl; have hcz6_4 := bc BK136.out 4 (.slice A0_4 l0_4.length c0_4) rfl; have hcz6_5 := bc BK136.out 5 (.slice A0_5 l0_5.length c0_5) rfl; have hfz6_0 := blk_frozen BK136.out 0; have hfz6_1 := blk_frozen BK136.out 1; have hfz6_2 := blk_frozen BK136.out 2; have hfz6_3 := blk_frozen BK136.out 3; have hfz6_4 := blk_frozen BK136.out 4; have hfz6_5 := blk_frozen BK136.out 5
   go_wp2
   go_meet
   case rel => exact ⟨_, (decide ((l0_5.length : Int) > 60)), (by first | rfl | (simp; done) | (simp [*]; done)), H', ⟨by first | omega | exact Nat.le_refl _⟩, ⟨bu (BK136.out)⟩, ⟨be HB.out⟩⟩
 case rest =>
  clear HC2
  try clear c1
  try clear p2
  try clear c4
  try clear c4b0
  try clear c4b1
  try clear hcz5_0 hcz5_1 hcz5_2 hcz5_3 hcz5_4 hcz5_5
  try clear hcz6_0 hcz6_1 hcz6_2 hcz6_3 hcz6_4 hcz6_5
  try clear hfz5_0 hfz5_1 hfz5_2 hfz5_3 hfz5_4 hfz5_5
  try clear hfz6_0 hfz6_1 hfz6_2 hfz6_3 hfz6_4 hfz6_5
  obtain ⟨kq, x20_1, rfl, HA, HJ1, BK136, HB⟩ := hcut
  cases kq with
  | zero => exact absurd HA.out (by simp [interchange_Print.j0])
  | succ kj1 =>
   have H := HA.out; clear HA; simp only [interchange_Print.j0] at H
   by_cases c7 : x20_1 = true
   ·subst c7
    have H1 : (some ((⟨#[]⟩ : ByteArray), 5)) = some (r1, r2) := by rw [if_pos rfl] at H; exact H
    clear H; have H := H1; clear H1; simp only [Option.some.injEq, Prod.mk.injEq] at H; obtain ⟨rfl, rfl⟩ := H
    go_wp2
    go_ret2
    exact ⟨by first | rfl | (simp [errW_none, errW_some] <;> rfl) | (simp [*, errW_none, errW_some] <;> rfl), be HB.out⟩
   ·replace c7 := Bool.eq_false_iff.mpr c7; subst c7
    have H1 : ((some (([a0_0, a0_1, a0_2, a0_3] : List Int) : List Int)).bind fun y137 => ((interchange_plain.f).bind fun bt140 => ((interchange_within.f kj1 y137 (([(⟨bt140.1, bt140.2⟩ : S49)] : List (S49)))).bind fun t145 => (if t145 = true then ((interchange_plain.f).bind fun bt146 => ((interchange_within.f kj1 l0_4 (([(⟨bt146.1, bt146.2⟩ : S49)] : List (S49)))).bind fun t151 => (interchange_Print.j1 kj1 y137 t151 a0_0 a0_1 a0_2 a0_3 l0_4 l0_5))) else (interchange_Print.j1 kj1 y137 false a0_0 a0_1 a0_2 a0_3 l0_4 l0_5))))) = some (r1, r2) := by rw [if_neg (show ¬ (false = true) by decide)] at H; exact H
    clear H; have H := H1; clear H1; obtain ⟨y137, hy137⟩ : ∃ y_ : List Int, y_ = (([a0_0, a0_1, a0_2, a0_3] : List Int)) := ⟨_, rfl⟩
    replace H : ((interchange_plain.f).bind fun bt140 => ((interchange_within.f kj1 y137 (([(⟨bt140.1, bt140.2⟩ : S49)] : List (S49)))).bind fun t145 => (if t145 = true then ((interchange_plain.f).bind fun bt146 => ((interchange_within.f kj1 l0_4 (([(⟨bt146.1, bt146.2⟩ : S49)] : List (S49)))).bind fun t151 => (interchange_Print.j1 kj1 y137 t151 a0_0 a0_1 a0_2 a0_3 l0_4 l0_5))) else (interchange_Print.j1 kj1 y137 false a0_0 a0_1 a0_2 a0_3 l0_4 l0_5)))) = some (r1, r2) := by first | (rw [hy137]; with_reducible exact H) | (have H2_ := (Option.bind_some _ _).symm.trans H; rw [hy137]; with_reducible exact H2_) | (have H2_ := (Option.bind_some _ _).symm.trans H; with_reducible exact H2_) | with_reducible exact H | (rw [hy137]; exact H) | exact H
    have Ny137 := Aside0.mk hy137; clear hy137; have HC8 := Aside0.mk H; clear H; have hcz9_0 := bc BK136.out 0 (.int .i64 a0_0) rfl; have hcz9_1 := bc BK136.out 1 (.int .i64 a0_1) rfl; have hcz9_2 := bc BK136.out 2 (.int .i64 a0_2) rfl; have hcz9_3 := bc BK136.out 3 (.int .i64 a0_3) rfl; have hcz9_4 := bc BK136.out 4 (.slice A0_4 l0_4.length c0_4) rfl; have hcz9_5 := bc BK136.out 5 (.slice A0_5 l0_5.length c0_5) rfl; have hfz9_0 := blk_frozen BK136.out 0; have hfz9_1 := blk_frozen BK136.out 1; have hfz9_2 := blk_frozen BK136.out 2; have hfz9_3 := blk_frozen BK136.out 3; have hfz9_4 := blk_frozen BK136.out 4; have hfz9_5 := blk_frozen BK136.out 5
    go_upto_region 4 with (first | ((with_reducible refine gate_dst (N := 31) rfl ?_); (try (refine gate_guard (by rfl) ?_; dsimp only)); refine Kd.R_lit (Kd.int .i64) _ 3 ?hg (N := 31) ?hd (xs := ([a0_0, a0_1, a0_2, a0_3] : List Int)) (inner := [.int .i64 a0_0, .int .i64 a0_1, .int .i64 a0_2, .int .i64 a0_3]) (ok := fun _ => True) (okp := fun _ => True) ?hr ?hp (fun _ hk => hk) trivial (Below.refl _ _) (Nat.le_refl _) (by simp) ?_; (case hd => rfl); (case hg => rfl); (case hr => first | (go_simp; done) | (go_simp; rfl)); (case hp => exact (Reps.one (show Kd.M (Kd.int .i64) _ _ _ a0_0 [.int .i64 a0_0] from rfl) (Reps.one (show Kd.M (Kd.int .i64) _ _ _ a0_1 [.int .i64 a0_1] from rfl) (Reps.one (show Kd.M (Kd.int .i64) _ _ _ a0_2 [.int .i64 a0_2] from rfl) (Reps.one (show Kd.M (Kd.int .i64) _ _ _ a0_3 [.int .i64 a0_3] from rfl) (Reps.none _ _)))))); intro v138 w10 ho11 hb hg_ hnew_; clear hg_ hnew_; (first | rw [← Ny137.out] at ho11 | (simp only [Int.reduceToNat] at ho11; rw [← Ny137.out] at ho11)); have HO139 := Aside0.mk (Kd.R_lower ho11 (below_size (be HB.out))); replace BK136 := Aside0.mk (blk_below (bu BK136.out) hb); replace HB := Aside0.mk (below_step (be HB.out) hb); clear hb ho11))
    (try simp only [Act.put, List.setIfInBounds_toArray, List.set_cons_zero, List.set_cons_succ])
    go_cut [5] (fun v5 wc => ∃ (kq : Nat) (x5_7 : Bool), v5 = .bool x5_7 ∧ Aside0 (interchange_Print.j1 kq y137 x5_7 a0_0 a0_1 a0_2 a0_3 l0_4 l0_5 = some (r1, r2)) ∧ Aside0 (kq ≤ kj1) ∧ Aside0 (Kd.R (Kd.int .i64) 3 wc w.heap.size (fun _ => True) v138 y137) ∧ Aside0 (wc.heap[gb136]? = some (.cells #[.int .i64 a0_0, .int .i64 a0_1, .int .i64 a0_2, .int .i64 a0_3, (.slice A0_4 l0_4.length c0_4), (.slice A0_5 l0_5.length c0_5)] 27 (0, 0))) ∧ Aside0 (Below w.heap.size w wc))
    case first =>
     have H := HC8.out; clear HC8; replace H := Option.bind_eq_some_iff.mp H; obtain ⟨⟨t140, t141⟩, A120, H⟩ := H; replace H : ((interchange_within.f kj1 y137 (([(⟨t140, t141⟩ : S49)] : List (S49)))).bind fun t145 => (if t145 = true then ((interchange_plain.f).bind fun bt146 => ((interchange_within.f kj1 l0_4 (([(⟨bt146.1, bt146.2⟩ : S49)] : List (S49)))).bind fun t151 => (interchange_Print.j1 kj1 y137 t151 a0_0 a0_1 a0_2 a0_3 l0_4 l0_5))) else (interchange_Print.j1 kj1 y137 false a0_0 a0_1 a0_2 a0_3 l0_4 l0_5))) = some (r1, r2) := H; have A12 := Aside0.mk A120; clear A120; obtain ⟨y142, hy142⟩ : ∃ y_ : List (S49), y_ = (([(⟨t140, t141⟩ : S49)] : List (S49))) := ⟨_, rfl⟩
     replace H : ((interchange_within.f kj1 y137 y142).bind fun t145 => (if t145 = true then ((interchange_plain.f).bind fun bt146 => ((interchange_within.f kj1 l0_4 (([(⟨bt146.1, bt146.2⟩ : S49)] : List (S49)))).bind fun t151 => (interchange_Print.j1 kj1 y137 t151 a0_0 a0_1 a0_2 a0_3 l0_4 l0_5))) else (interchange_Print.j1 kj1 y137 false a0_0 a0_1 a0_2 a0_3 l0_4 l0_5))) = some (r1, r2) := by first | (rw [hy142]; with_reducible exact H) | (have H2_ := (Option.bind_some _ _).symm.trans H; rw [hy142]; with_reducible exact H2_) | (have H2_ := (Option.bind_some _ _).symm.trans H; with_reducible exact H2_) | with_reducible exact H | (rw [hy142]; exact H) | exact H
     have Ny142 := Aside0.mk hy142; clear hy142; replace H := Option.bind_eq_some_iff.mp H; obtain ⟨t145, A130, H⟩ := H; replace H : (if t145 = true then ((interchange_plain.f).bind fun bt146 => ((interchange_within.f kj1 l0_4 (([(⟨bt146.1, bt146.2⟩ : S49)] : List (S49)))).bind fun t151 => (interchange_Print.j1 kj1 y137 t151 a0_0 a0_1 a0_2 a0_3 l0_4 l0_5))) else (interchange_Print.j1 kj1 y137 false a0_0 a0_1 a0_2 a0_3 l0_4 l0_5)) = some (r1, r2) := H; have A13 := Aside0.mk A130; clear A130
     by_cases c14 : t145 = true
     ·subst c14
      have H1 : ((interchange_plain.f).bind fun bt146 => ((interchange_within.f kj1 l0_4 (([(⟨bt146.1, bt146.2⟩ : S49)] : List (S49)))).bind fun t151 => (interchange_Print.j1 kj1 y137 t151 a0_0 a0_1 a0_2 a0_3 l0_4 l0_5))) = some (r1, r2) := by rw [if_pos rfl] at H; exact H
      clear H; have H := H1; clear H1; replace H := Option.bind_eq_some_iff.mp H; obtain ⟨⟨t146, t147⟩, A150, H⟩ := H; replace H : ((interchange_within.f kj1 l0_4 (([(⟨t146, t147⟩ : S49)] : List (S49)))).bind fun t151 => (interchange_Print.j1 kj1 y137 t151 a0_0 a0_1 a0_2 a0_3 l0_4 l0_5)) = some (r1, r2) := H; have A15 := Aside0.mk A150; clear A150; obtain ⟨y148, hy148⟩ : ∃ y_ : List (S49), y_ = (([(⟨t146, t147⟩ : S49)] : List (S49))) := ⟨_, rfl⟩
      replace H : ((interchange_within.f kj1 l0_4 y148).bind fun t151 => (interchange_Print.j1 kj1 y137 t151 a0_0 a0_1 a0_2 a0_3 l0_4 l0_5)) = some (r1, r2) := by first | (rw [hy148]; with_reducible exact H) | (have H2_ := (Option.bind_some _ _).symm.trans H; rw [hy148]; with_reducible exact H2_) | (have H2_ := (Option.bind_some _ _).symm.trans H; with_reducible exact H2_) | with_reducible exact H | (rw [hy148]; exact H) | exact H
      have Ny148 := Aside0.mk hy148; clear hy148; replace H := Option.bind_eq_some_iff.mp H; obtain ⟨t151, A160, H⟩ := H; replace H : (interchange_Print.j1 kj1 y137 t151 a0_0 a0_1 a0_2 a0_3 l0_4 l0_5) = some (r1, r2) := H; have A16 := Aside0.mk A160; clear A160; have H' := Aside0.mk H; clear H
      try go_wp2
      replace HO139 := Aside0.mk (Kd.R_drew HO139.out); replace BK136 := Aside0.mk (blk_drew BK136.out); replace HB := Aside0.mk (below_drew1 HB.out)
      refine start_ (n := 12) (S := fun w' => w'.cell? ⟨gb136, 0, none⟩ = some (.int .i64 a0_0) ∧ w'.cell? ⟨gb136, 1, none⟩ = some (.int .i64 a0_1) ∧ w'.cell? ⟨gb136, 2, none⟩ = some (.int .i64 a0_2) ∧ w'.cell? ⟨gb136, 3, none⟩ = some (.int .i64 a0_3) ∧ w'.cell? ⟨gb136, 4, none⟩ = some (.slice A0_4 l0_4.length c0_4) ∧ w'.cell? ⟨gb136, 5, none⟩ = some (.slice A0_5 l0_5.length c0_5)) (ds := []) #[false, false, false, false, false, false, false, false, false, false, false, false] (by kernel_rfl) rfl rfl ⟨(blk_cell BK136.out 0).trans rfl, (blk_cell BK136.out 1).trans rfl, (blk_cell BK136.out 2).trans rfl, (blk_cell BK136.out 3).trans rfl, (blk_cell BK136.out 4).trans rfl, (blk_cell BK136.out 5).trans rfl⟩ (fun hHeld => ?_); refine with_tabW interchange_Print.tab4 interchange_Print.bits4 (fun HT_ HW_ => ?_)
      generalize w10.drew = w17 at HO139 BK136 HB hHeld ⊢; refine pureA (i := 0) (N := some 32) #[true, false, false, false, false, false, false, false, false, false, false, false] rfl rfl HT_.out (by kernel_rfl) ?_; refine one_ (i := 1) (N := some 33) #[true, true, false, false, false, false, false, false, false, false, false, false] rfl rfl (one_of HT_.out (by kernel_rfl)) (by decide) (fun K hK => ?_); refine goes_ Tryd.func17 (by kernel_rfl) rfl #[] (by rfl) rfl rfl (by (try simp only [List.map_toArray, List.map_cons, List.map_nil]); first | done | rfl | (simp only [List.length_drop, List.length_take]; rfl)) ?_
      with_reducible refine (interchange_plain.calls  t140 t141 _ A12.out).mono ?_
      rintro e w18 ⟨rfl, hb⟩
      refine ⟨_, rfl, ?_⟩; replace HO139 := Aside0.mk (Kd.R_below (ku HO139.out) hb); replace BK136 := Aside0.mk (blk_below (bu BK136.out) hb); replace HB := Aside0.mk (below_step (be HB.out) hb)
      (try clear hb)
      (try clear hb2)
      (try clear hk)
      (try clear hi)
      refine hK.out _ _ ⟨(blk_cell BK136.out 0).trans rfl, (blk_cell BK136.out 1).trans rfl, (blk_cell BK136.out 2).trans rfl, (blk_cell BK136.out 3).trans rfl, (blk_cell BK136.out 4).trans rfl, (blk_cell BK136.out 5).trans rfl⟩ (fun hHeld => ?_); clear hK K; refine norm_ (a' := ?_) ?_ ?_
      rotate_left
      ·show Act.put _ (some 33) _ = _
       simp only [Act.put, List.setIfInBounds_toArray, List.set_cons_zero, List.set_cons_succ, i64_w, i32_w]
       rfl
      refine one_ (i := 2) (N := some 34) #[true, true, true, false, false, false, false, false, false, false, false, false] rfl rfl (one_of HT_.out (by kernel_rfl)) (by decide) (fun K hK => ?_); refine Kd.R_lit_step k49 _ 49 ?hg (N := 34) ?hd (xs := ([(⟨t140, t141⟩ : S49)] : List (S49))) (inner := [.int .i64 t140, .int .i64 t141]) (ok := fun _ => True) (okp := fun _ => True) ?hr ?hp (fun _ hk => hk) trivial (Below.refl _ _) (Nat.le_refl _) (by simp) ?_; (case hd => rfl); (case hg => rfl); (case hr => first | (go_simp; done) | (go_simp; rfl)); (case hp => exact (Reps.c2 (show Kd.M k49 _ _ _ (⟨t140, t141⟩ : S49) [.int .i64 t140, .int .i64 t141] from (k49_mkM _ _ _ (⟨t140, t141⟩ : S49) )) (Reps.none _ _))); intro v143 w19 ho20 hb hg_ hnew_; clear hg_ hnew_
      (first | rw [← Ny142.out] at ho20 | (simp only [Int.reduceToNat] at ho20; rw [← Ny142.out] at ho20))
      have HO144 := Aside0.mk (Kd.R_lower ho20 (below_size (be HB.out))); replace HO139 := Aside0.mk (Kd.R_below (ku HO139.out) hb); replace BK136 := Aside0.mk (blk_below (bu BK136.out) hb); replace HB := Aside0.mk (below_step (be HB.out) hb); clear hb ho20; obtain ⟨Ao21, co21, eo21⟩ := Kd.R_slice HO139.out
      (first | subst eo21 | (injection eo21 with f1_ f2_ f3_; have f4_ := f1_.symm; have f5_ := f3_.symm; clear f1_ f2_ f3_; subst f4_; subst f5_))
      obtain ⟨Ao22, co22, eo22⟩ := Kd.R_slice HO144.out
      (first | subst eo22 | (injection eo22 with f1_ f2_ f3_; have f4_ := f1_.symm; have f5_ := f3_.symm; clear f1_ f2_ f3_; subst f4_; subst f5_))
      refine hK.out _ _ ⟨(blk_cell BK136.out 0).trans rfl, (blk_cell BK136.out 1).trans rfl, (blk_cell BK136.out 2).trans rfl, (blk_cell BK136.out 3).trans rfl, (blk_cell BK136.out 4).trans rfl, (blk_cell BK136.out 5).trans rfl⟩ (fun hHeld => ?_); clear hK K; refine norm_ (a' := ?_) ?_ ?_
      rotate_left
      ·show Act.put _ (some 34) _ = _
       simp only [Act.put, List.setIfInBounds_toArray, List.set_cons_zero, List.set_cons_succ, i64_w, i32_w]
       rfl
      refine one_ (i := 3) (N := some 35) #[true, true, true, true, false, false, false, false, false, false, false, false] rfl rfl (one_of HT_.out (by kernel_rfl)) (by decide) (fun K hK => ?_); refine goes_ Tryd.func16 (by kernel_rfl) rfl #[.slice Ao21 y137.length co21, .slice Ao22 y142.length co22] (by rfl) rfl rfl (by (try simp only [List.map_toArray, List.map_cons, List.map_nil]); first | done | rfl | (simp only [List.length_drop, List.length_take]; rfl)) ?_
      with_reducible refine (interchange_within.calls kj1 _ _ y137 _ _ y142 true _ ?side1 ?side2 ?side3 ?side4 A13.out).mono ?_
      (case side1 => exact cu (Kd.R_reads' HO139.out).2.2)
      (case side2 => exact (Kd.R_reads' HO139.out).2.1)
      (case side3 => exact cu (Kd.R_reads' HO144.out).2.2)
      (case side4 => exact (Kd.R_reads' HO144.out).2.1)
      rintro e w23 ⟨rfl, hb⟩
      refine ⟨_, rfl, ?_⟩; replace HO139 := Aside0.mk (Kd.R_below (ku HO139.out) hb); replace HO144 := Aside0.mk (Kd.R_below (ku HO144.out) hb); replace BK136 := Aside0.mk (blk_below (bu BK136.out) hb); replace HB := Aside0.mk (below_step (be HB.out) hb)
      (try clear hb)
      (try clear hb2)
      (try clear hk)
      (try clear hi)
      refine hK.out _ _ ⟨(blk_cell BK136.out 0).trans rfl, (blk_cell BK136.out 1).trans rfl, (blk_cell BK136.out 2).trans rfl, (blk_cell BK136.out 3).trans rfl, (blk_cell BK136.out 4).trans rfl, (blk_cell BK136.out 5).trans rfl⟩ (fun hHeld => ?_); clear hK K; refine norm_ (a' := ?_) ?_ ?_
      rotate_left
      ·show Act.put _ (some 35) _ = _
       simp only [Act.put, List.setIfInBounds_toArray, List.set_cons_zero, List.set_cons_succ, i64_w, i32_w]
       rfl
      refine pureA (i := 4) (N := some 36) #[true, true, true, true, true, false, false, false, false, false, false, false] rfl rfl HT_.out (by kernel_rfl) ?_; refine pureA (i := 5) (N := some 37) #[true, true, true, true, true, true, false, false, false, false, false, false] rfl rfl HT_.out (by kernel_rfl) ?_; refine take_ (i := 6) (N := some 38) (v := ?_) (a' := ?_) #[true, true, true, true, true, true, true, false, false, false, false, false] rfl rfl (take_ofW HT_.out HW_.out (by kernel_rfl)) (fun _ _ _ h => h) (Or.inl ⟨by rfl, ?_⟩) hHeld ?_ ?_
      rotate_left
      ·rintro w' ⟨s0, s1, s2, s3, s4, s5⟩
       go_simp
       with_reducible rfl
      rotate_left
      ·simp only [Act.put, List.setIfInBounds_toArray, List.set_cons_zero, List.set_cons_succ, i64_w, i32_w]
       rfl
      refine one_ (i := 7) (N := some 39) #[true, true, true, true, true, true, true, true, false, false, false, false] rfl rfl (one_of HT_.out (by kernel_rfl)) (by decide) (fun K hK => ?_); refine goes_ Tryd.func17 (by kernel_rfl) rfl #[] (by rfl) rfl rfl (by (try simp only [List.map_toArray, List.map_cons, List.map_nil]); first | done | rfl | (simp only [List.length_drop, List.length_take]; rfl)) ?_
      with_reducible refine (interchange_plain.calls  t146 t147 _ A15.out).mono ?_
      rintro e w24 ⟨rfl, hb⟩
      refine ⟨_, rfl, ?_⟩; replace HO139 := Aside0.mk (Kd.R_below (ku HO139.out) hb); replace HO144 := Aside0.mk (Kd.R_below (ku HO144.out) hb); replace BK136 := Aside0.mk (blk_below (bu BK136.out) hb); replace HB := Aside0.mk (below_step (be HB.out) hb)
      (try clear hb)
      (try clear hb2)
      (try clear hk)
      (try clear hi)
      refine hK.out _ _ ⟨(blk_cell BK136.out 0).trans rfl, (blk_cell BK136.out 1).trans rfl, (blk_cell BK136.out 2).trans rfl, (blk_cell BK136.out 3).trans rfl, (blk_cell BK136.out 4).trans rfl, (blk_cell BK136.out 5).trans rfl⟩ (fun hHeld => ?_); clear hK K; refine norm_ (a' := ?_) ?_ ?_
      rotate_left
      ·show Act.put _ (some 39) _ = _
       simp only [Act.put, List.setIfInBounds_toArray, List.set_cons_zero, List.set_cons_succ, i64_w, i32_w]
       rfl
      refine one_ (i := 8) (N := some 40) #[true, true, true, true, true, true, true, true, true, false, false, false] rfl rfl (one_of HT_.out (by kernel_rfl)) (by decide) (fun K hK => ?_); refine Kd.R_lit_step k49 _ 49 ?hg (N := 40) ?hd (xs := ([(⟨t146, t147⟩ : S49)] : List (S49))) (inner := [.int .i64 t146, .int .i64 t147]) (ok := fun _ => True) (okp := fun _ => True) ?hr ?hp (fun _ hk => hk) trivial (Below.refl _ _) (Nat.le_refl _) (by simp) ?_; (case hd => rfl); (case hg => rfl); (case hr => first | (go_simp; done) | (go_simp; rfl)); (case hp => exact (Reps.c2 (show Kd.M k49 _ _ _ (⟨t146, t147⟩ : S49) [.int .i64 t146, .int .i64 t147] from (k49_mkM _ _ _ (⟨t146, t147⟩ : S49) )) (Reps.none _ _))); intro v149 w25 ho26 hb hg_ hnew_; clear hg_ hnew_
      (first | rw [← Ny148.out] at ho26 | (simp only [Int.reduceToNat] at ho26; rw [← Ny148.out] at ho26))
      have HO150 := Aside0.mk (Kd.R_lower (Kd.R_new' ho26 (Kd.R_lt (ku HO144.out))) (below_size (be HB.out))); replace HO139 := Aside0.mk (Kd.R_below (ku HO139.out) hb); replace HO144 := Aside0.mk (Kd.R_elder' (ku HO144.out) (Kd.R_base ho26) hb); replace BK136 := Aside0.mk (blk_below (bu BK136.out) hb); replace HB := Aside0.mk (below_step (be HB.out) hb); clear hb ho26; obtain ⟨Ao27, co27, eo27⟩ := Kd.R_slice HO150.out
      (first | subst eo27 | (injection eo27 with f1_ f2_ f3_; have f4_ := f1_.symm; have f5_ := f3_.symm; clear f1_ f2_ f3_; subst f4_; subst f5_))
      refine hK.out _ _ ⟨(blk_cell BK136.out 0).trans rfl, (blk_cell BK136.out 1).trans rfl, (blk_cell BK136.out 2).trans rfl, (blk_cell BK136.out 3).trans rfl, (blk_cell BK136.out 4).trans rfl, (blk_cell BK136.out 5).trans rfl⟩ (fun hHeld => ?_); clear hK K; refine norm_ (a' := ?_) ?_ ?_
      rotate_left
      ·show Act.put _ (some 40) _ = _
       simp only [Act.put, List.setIfInBounds_toArray, List.set_cons_zero, List.set_cons_succ, i64_w, i32_w]
       rfl
      refine one_ (i := 9) (N := some 41) #[true, true, true, true, true, true, true, true, true, true, false, false] rfl rfl (one_of HT_.out (by kernel_rfl)) (by decide) (fun K hK => ?_); refine goes_ Tryd.func16 (by kernel_rfl) rfl #[.slice A0_4 l0_4.length c0_4, .slice Ao27 y148.length co27] (by rfl) rfl rfl (by (try simp only [List.map_toArray, List.map_cons, List.map_nil]); first | done | rfl | (simp only [List.length_drop, List.length_take]; rfl)) ?_
      with_reducible refine (interchange_within.calls kj1 _ _ l0_4 _ _ y148 t151 _ ?side1 ?side2 ?side3 ?side4 A16.out).mono ?_
      (case side1 => exact cu (Kd.C_below HR0_4.out HB.out))
      (case side2 => exact HC0_4.out)
      (case side3 => exact cu (Kd.R_reads' HO150.out).2.2)
      (case side4 => exact (Kd.R_reads' HO150.out).2.1)
      rintro e w28 ⟨rfl, hb⟩
      refine ⟨_, rfl, ?_⟩; replace HO139 := Aside0.mk (Kd.R_below (ku HO139.out) hb); replace HO144 := Aside0.mk (Kd.R_below (ku HO144.out) hb); replace HO150 := Aside0.mk (Kd.R_below (ku HO150.out) hb); replace BK136 := Aside0.mk (blk_below (bu BK136.out) hb); replace HB := Aside0.mk (below_step (be HB.out) hb)
      (try clear hb)
      (try clear hb2)
      (try clear hk)
      (try clear hi)
      refine hK.out _ _ ⟨(blk_cell BK136.out 0).trans rfl, (blk_cell BK136.out 1).trans rfl, (blk_cell BK136.out 2).trans rfl, (blk_cell BK136.out 3).trans rfl, (blk_cell BK136.out 4).trans rfl, (blk_cell BK136.out 5).trans rfl⟩ (fun hHeld => ?_); clear hK K; refine norm_ (a' := ?_) ?_ ?_
      rotate_left
      ·show Act.put _ (some 41) _ = _
       simp only [Act.put, List.setIfInBounds_toArray, List.set_cons_zero, List.set_cons_succ, i64_w, i32_w]
       rfl
      refine pureA (i := 10) (N := some 42) #[true, true, true, true, true, true, true, true, true, true, true, false] rfl rfl HT_.out (by kernel_rfl) ?_; refine pureA (i := 11) (N := some 5) #[true, true, true, true, true, true, true, true, true, true, true, true] rfl rfl HT_.out (by kernel_rfl) ?_; refine done_ (done_of HT_.out (by kernel_rfl)) ?_
      try go_wp2
      go_meet
      case rel => exact ⟨_, (t151), (by first | rfl | (simp; done) | (simp [*]; done)), H', ⟨by have := HJ1.out; first | omega | exact Nat.le_refl _⟩, ⟨ku (HO139.out)⟩, ⟨bu (BK136.out)⟩, ⟨be HB.out⟩⟩
     ·replace c14 := Bool.eq_false_iff.mpr c14; subst c14
      have H1 : (interchange_Print.j1 kj1 y137 false a0_0 a0_1 a0_2 a0_3 l0_4 l0_5) = some (r1, r2) := by rw [if_neg (show ¬ (false = true) by decide)] at H; exact H
      clear H; have H := H1; clear H1; have H' := Aside0.mk H; clear H
      try go_wp2
      replace HO139 := Aside0.mk (Kd.R_drew HO139.out); replace BK136 := Aside0.mk (blk_drew BK136.out); replace HB := Aside0.mk (below_drew1 HB.out)
      refine start_ (n := 12) (S := fun w' => True) (ds := []) #[false, false, false, false, false, false, false, false, false, false, false, false] (by kernel_rfl) rfl rfl trivial (fun hHeld => ?_); refine with_tabW interchange_Print.tab4 interchange_Print.bits4 (fun HT_ HW_ => ?_)
      generalize w10.drew = w29 at HO139 BK136 HB hHeld ⊢; refine pureA (i := 0) (N := some 32) #[true, false, false, false, false, false, false, false, false, false, false, false] rfl rfl HT_.out (by kernel_rfl) ?_; refine one_ (i := 1) (N := some 33) #[true, true, false, false, false, false, false, false, false, false, false, false] rfl rfl (one_of HT_.out (by kernel_rfl)) (by decide) (fun K hK => ?_); refine goes_ Tryd.func17 (by kernel_rfl) rfl #[] (by rfl) rfl rfl (by (try simp only [List.map_toArray, List.map_cons, List.map_nil]); first | done | rfl | (simp only [List.length_drop, List.length_take]; rfl)) ?_
      with_reducible refine (interchange_plain.calls  t140 t141 _ A12.out).mono ?_
      rintro e w30 ⟨rfl, hb⟩
      refine ⟨_, rfl, ?_⟩; replace HO139 := Aside0.mk (Kd.R_below (ku HO139.out) hb); replace BK136 := Aside0.mk (blk_below (bu BK136.out) hb); replace HB := Aside0.mk (below_step (be HB.out) hb)
      (try clear hb)
      (try clear hb2)
      (try clear hk)
      (try clear hi)
      refine hK.out _ _ trivial (fun hHeld => ?_); clear hK K; refine norm_ (a' := ?_) ?_ ?_
      rotate_left
      ·show Act.put _ (some 33) _ = _
       simp only [Act.put, List.setIfInBounds_toArray, List.set_cons_zero, List.set_cons_succ, i64_w, i32_w]
       rfl
      refine one_ (i := 2) (N := some 34) #[true, true, true, false, false, false, false, false, false, false, false, false] rfl rfl (one_of HT_.out (by kernel_rfl)) (by decide) (fun K hK => ?_); refine Kd.R_lit_step k49 _ 49 ?hg (N := 34) ?hd (xs := ([(⟨t140, t141⟩ : S49)] : List (S49))) (inner := [.int .i64 t140, .int .i64 t141]) (ok := fun _ => True) (okp := fun _ => True) ?hr ?hp (fun _ hk => hk) trivial (Below.refl _ _) (Nat.le_refl _) (by simp) ?_; (case hd => rfl); (case hg => rfl); (case hr => first | (go_simp; done) | (go_simp; rfl)); (case hp => exact (Reps.c2 (show Kd.M k49 _ _ _ (⟨t140, t141⟩ : S49) [.int .i64 t140, .int .i64 t141] from (k49_mkM _ _ _ (⟨t140, t141⟩ : S49) )) (Reps.none _ _))); intro v143 w31 ho32 hb hg_ hnew_; clear hg_ hnew_
      (first | rw [← Ny142.out] at ho32 | (simp only [Int.reduceToNat] at ho32; rw [← Ny142.out] at ho32))
      have HO144 := Aside0.mk (Kd.R_lower ho32 (below_size (be HB.out))); replace HO139 := Aside0.mk (Kd.R_below (ku HO139.out) hb); replace BK136 := Aside0.mk (blk_below (bu BK136.out) hb); replace HB := Aside0.mk (below_step (be HB.out) hb); clear hb ho32; obtain ⟨Ao33, co33, eo33⟩ := Kd.R_slice HO139.out
      (first | subst eo33 | (injection eo33 with f1_ f2_ f3_; have f4_ := f1_.symm; have f5_ := f3_.symm; clear f1_ f2_ f3_; subst f4_; subst f5_))
      obtain ⟨Ao34, co34, eo34⟩ := Kd.R_slice HO144.out
      (first | subst eo34 | (injection eo34 with f1_ f2_ f3_; have f4_ := f1_.symm; have f5_ := f3_.symm; clear f1_ f2_ f3_; subst f4_; subst f5_))
      refine hK.out _ _ trivial (fun hHeld => ?_); clear hK K; refine norm_ (a' := ?_) ?_ ?_
      rotate_left
      ·show Act.put _ (some 34) _ = _
       simp only [Act.put, List.setIfInBounds_toArray, List.set_cons_zero, List.set_cons_succ, i64_w, i32_w]
       rfl
      refine one_ (i := 3) (N := some 35) #[true, true, true, true, false, false, false, false, false, false, false, false] rfl rfl (one_of HT_.out (by kernel_rfl)) (by decide) (fun K hK => ?_); refine goes_ Tryd.func16 (by kernel_rfl) rfl #[.slice Ao33 y137.length co33, .slice Ao34 y142.length co34] (by rfl) rfl rfl (by (try simp only [List.map_toArray, List.map_cons, List.map_nil]); first | done | rfl | (simp only [List.length_drop, List.length_take]; rfl)) ?_
      with_reducible refine (interchange_within.calls kj1 _ _ y137 _ _ y142 false _ ?side1 ?side2 ?side3 ?side4 A13.out).mono ?_
      (case side1 => exact cu (Kd.R_reads' HO139.out).2.2)
      (case side2 => exact (Kd.R_reads' HO139.out).2.1)
      (case side3 => exact cu (Kd.R_reads' HO144.out).2.2)
      (case side4 => exact (Kd.R_reads' HO144.out).2.1)
      rintro e w35 ⟨rfl, hb⟩
      refine ⟨_, rfl, ?_⟩; replace HO139 := Aside0.mk (Kd.R_below (ku HO139.out) hb); replace HO144 := Aside0.mk (Kd.R_below (ku HO144.out) hb); replace BK136 := Aside0.mk (blk_below (bu BK136.out) hb); replace HB := Aside0.mk (below_step (be HB.out) hb)
      (try clear hb)
      (try clear hb2)
      (try clear hk)
      (try clear hi)
      refine hK.out _ _ trivial (fun hHeld => ?_); clear hK K; refine norm_ (a' := ?_) ?_ ?_
      rotate_left
      ·show Act.put _ (some 35) _ = _
       simp only [Act.put, List.setIfInBounds_toArray, List.set_cons_zero, List.set_cons_succ, i64_w, i32_w]
       rfl
      refine pureA (i := 4) (N := some 36) #[true, true, true, true, true, false, false, false, false, false, false, false] rfl rfl HT_.out (by kernel_rfl) ?_; refine pure_ (i := 5) (N := some 37) (v := undef) (a' := ?_) #[true, true, true, true, true, true, false, false, false, false, false, false] rfl rfl (any_of HT_.out (by kernel_rfl)) (fun _ _ _ h => h) (Or.inr ⟨by rfl, rfl⟩) ?_ ?_
      rotate_left
      ·simp only [Act.put, List.setIfInBounds_toArray, List.set_cons_zero, List.set_cons_succ, i64_w, i32_w]
       rfl
      refine pure_ (i := 6) (N := some 38) (v := undef) (a' := ?_) #[true, true, true, true, true, true, true, false, false, false, false, false] rfl rfl (any_of HT_.out (by kernel_rfl)) (fun _ _ _ h => h) (Or.inr ⟨by rfl, rfl⟩) ?_ ?_
      rotate_left
      ·simp only [Act.put, List.setIfInBounds_toArray, List.set_cons_zero, List.set_cons_succ, i64_w, i32_w]
       rfl
      refine pure_ (i := 7) (N := some 39) (v := undef) (a' := ?_) #[true, true, true, true, true, true, true, true, false, false, false, false] rfl rfl (any_of HT_.out (by kernel_rfl)) (fun _ _ _ h => h) (Or.inr ⟨by rfl, rfl⟩) ?_ ?_
      rotate_left
      ·simp only [Act.put, List.setIfInBounds_toArray, List.set_cons_zero, List.set_cons_succ, i64_w, i32_w]
       rfl
      refine pure_ (i := 8) (N := some 40) (v := undef) (a' := ?_) #[true, true, true, true, true, true, true, true, true, false, false, false] rfl rfl (any_of HT_.out (by kernel_rfl)) (fun _ _ _ h => h) (Or.inr ⟨by rfl, rfl⟩) ?_ ?_
      rotate_left
      ·simp only [Act.put, List.setIfInBounds_toArray, List.set_cons_zero, List.set_cons_succ, i64_w, i32_w]
       rfl
      refine pure_ (i := 9) (N := some 41) (v := undef) (a' := ?_) #[true, true, true, true, true, true, true, true, true, true, false, false] rfl rfl (any_of HT_.out (by kernel_rfl)) (fun _ _ _ h => h) (Or.inr ⟨by rfl, rfl⟩) ?_ ?_
      rotate_left
      ·simp only [Act.put, List.setIfInBounds_toArray, List.set_cons_zero, List.set_cons_succ, i64_w, i32_w]
       rfl
      refine pureA (i := 10) (N := some 42) #[true, true, true, true, true, true, true, true, true, true, true, false] rfl rfl HT_.out (by kernel_rfl) ?_; refine pureA (i := 11) (N := some 5) #[true, true, true, true, true, true, true, true, true, true, true, true] rfl rfl HT_.out (by kernel_rfl) ?_; refine done_ (done_of HT_.out (by kernel_rfl)) ?_
      try go_wp2
      go_meet
      case rel => exact ⟨_, (false), (by first | rfl | (simp; done) | (simp [*]; done)), H', ⟨by have := HJ1.out; first | omega | exact Nat.le_refl _⟩, ⟨ku (HO139.out)⟩, ⟨bu (BK136.out)⟩, ⟨be HB.out⟩⟩
    case rest =>
     clear HC8
     try clear c1
     try clear c2
     try clear p2
     try clear c4
     try clear c4b0
     try clear c4b1
     try clear c7
     try clear c10
     try clear c14
     try clear c16
     try clear c17
     try clear hcz5_0 hcz5_1 hcz5_2 hcz5_3 hcz5_4 hcz5_5
     try clear hcz6_0 hcz6_1 hcz6_2 hcz6_3 hcz6_4 hcz6_5
     try clear hcz9_0 hcz9_1 hcz9_2 hcz9_3 hcz9_4 hcz9_5
     try clear hfz5_0 hfz5_1 hfz5_2 hfz5_3 hfz5_4 hfz5_5
     try clear hfz6_0 hfz6_1 hfz6_2 hfz6_3 hfz6_4 hfz6_5
     try clear hfz9_0 hfz9_1 hfz9_2 hfz9_3 hfz9_4 hfz9_5
     try clear p2
     obtain ⟨kq, x5_7, rfl, HA, HJ7, HO_4, BK136, HB⟩ := hcut
     cases kq with
     | zero => exact absurd HA.out (by simp [interchange_Print.j1])
     | succ kj7 =>
      have H := HA.out; clear HA; simp only [interchange_Print.j1] at H; replace H := Option.bind_eq_some_iff.mp H; obtain ⟨t152, A360, H⟩ := H; replace H : (if 6 + t152.size ≤ 9223372036854775807 then (if 6 + t152.size + 6 ≤ 9223372036854775807 then ((interchange_text.f l0_4).bind fun t153 => (if 6 + t152.size + 6 + t153.size ≤ 9223372036854775807 then (if 6 + t152.size + 6 + t153.size + 1 ≤ 9223372036854775807 then (interchange_Print.l0 kj7 x5_7 (((((⟨#[109, 97, 114, 107, 101, 114]⟩ : ByteArray) ++ t152) ++ (⟨#[10, 115, 105, 122, 101, 115]⟩ : ByteArray)) ++ t153) ++ (⟨#[10]⟩ : ByteArray)) l0_5 (l0_5.length : Int) 0) else (none)) else (none))) else (none)) else (none)) = some (r1, r2) := H; have A36 := Aside0.mk A360; clear A360
      by_cases c37 : 6 + t152.size ≤ 9223372036854775807
      ·rw [if_pos c37] at H; have c37b0 := eq_true c37; have c37b1 : decide (6 + t152.size ≤ 9223372036854775807) = true := decide_eq_true c37
       try have c37b2 : (9223372036854775807 < 6 + t152.size) = False := eq_false (Nat.not_lt.2 c37)
       by_cases c38 : 6 + t152.size + 6 ≤ 9223372036854775807
       ·rw [if_pos c38] at H; have c38b0 := eq_true c38; have c38b1 : decide (6 + t152.size + 6 ≤ 9223372036854775807) = true := decide_eq_true c38
        try have c38b2 : (9223372036854775807 < 6 + t152.size + 6) = False := eq_false (Nat.not_lt.2 c38)
        replace H := Option.bind_eq_some_iff.mp H; obtain ⟨t153, A390, H⟩ := H; replace H : (if 6 + t152.size + 6 + t153.size ≤ 9223372036854775807 then (if 6 + t152.size + 6 + t153.size + 1 ≤ 9223372036854775807 then (interchange_Print.l0 kj7 x5_7 (((((⟨#[109, 97, 114, 107, 101, 114]⟩ : ByteArray) ++ t152) ++ (⟨#[10, 115, 105, 122, 101, 115]⟩ : ByteArray)) ++ t153) ++ (⟨#[10]⟩ : ByteArray)) l0_5 (l0_5.length : Int) 0) else (none)) else (none)) = some (r1, r2) := H; have A39 := Aside0.mk A390; clear A390
        by_cases c40 : 6 + t152.size + 6 + t153.size ≤ 9223372036854775807
        ·rw [if_pos c40] at H; have c40b0 := eq_true c40; have c40b1 : decide (6 + t152.size + 6 + t153.size ≤ 9223372036854775807) = true := decide_eq_true c40
         try have c40b2 : (9223372036854775807 < 6 + t152.size + 6 + t153.size) = False := eq_false (Nat.not_lt.2 c40)
         by_cases c41 : 6 + t152.size + 6 + t153.size + 1 ≤ 9223372036854775807
         ·rw [if_pos c41] at H; have c41b0 := eq_true c41; have c41b1 : decide (6 + t152.size + 6 + t153.size + 1 ≤ 9223372036854775807) = true := decide_eq_true c41
          try have c41b2 : (9223372036854775807 < 6 + t152.size + 6 + t153.size + 1) = False := eq_false (Nat.not_lt.2 c41)
          have H' := Aside0.mk H; clear H
          try go_wp2
          replace HO_4 := Aside0.mk (Kd.R_drew HO_4.out); replace BK136 := Aside0.mk (blk_drew BK136.out); replace HB := Aside0.mk (below_drew1 HB.out); obtain ⟨Ao43, co43, eo43⟩ := Kd.R_slice HO_4.out
          (first | subst eo43 | (injection eo43 with f1_ f2_ f3_; have f4_ := f1_.symm; have f5_ := f3_.symm; clear f1_ f2_ f3_; subst f4_; subst f5_))
          refine start_ (n := 10) (S := fun w' => w'.cell? ⟨gb136, 0, none⟩ = some (.int .i64 a0_0) ∧ w'.cell? ⟨gb136, 1, none⟩ = some (.int .i64 a0_1) ∧ w'.cell? ⟨gb136, 2, none⟩ = some (.int .i64 a0_2) ∧ w'.cell? ⟨gb136, 3, none⟩ = some (.int .i64 a0_3) ∧ w'.cell? ⟨gb136, 4, none⟩ = some (.slice A0_4 l0_4.length c0_4) ∧ w'.cell? ⟨gb136, 5, none⟩ = some (.slice A0_5 l0_5.length c0_5)) (ds := []) #[false, false, false, false, false, false, false, false, false, false] (by kernel_rfl) rfl rfl ⟨(blk_cell BK136.out 0).trans rfl, (blk_cell BK136.out 1).trans rfl, (blk_cell BK136.out 2).trans rfl, (blk_cell BK136.out 3).trans rfl, (blk_cell BK136.out 4).trans rfl, (blk_cell BK136.out 5).trans rfl⟩ (fun hHeld => ?_); refine with_tabW interchange_Print.tab5 interchange_Print.bits5 (fun HT_ HW_ => ?_)
          generalize wc.drew = w42 at HO_4 BK136 HB hHeld ⊢; refine pureA (i := 0) (N := some 43) #[true, false, false, false, false, false, false, false, false, false] rfl rfl HT_.out (by kernel_rfl) ?_; refine pureA (i := 4) (N := some 47) #[true, false, false, false, true, false, false, false, false, false] rfl rfl HT_.out (by kernel_rfl) ?_; refine take_ (i := 5) (N := some 48) (v := ?_) (a' := ?_) #[true, false, false, false, true, true, false, false, false, false] rfl rfl (take_ofW HT_.out HW_.out (by kernel_rfl)) (fun _ _ _ h => h) (Or.inl ⟨by rfl, ?_⟩) hHeld ?_ ?_
          rotate_left
          ·rintro w' ⟨s0, s1, s2, s3, s4, s5⟩
           go_simp
           with_reducible rfl
          rotate_left
          ·simp only [Act.put, List.setIfInBounds_toArray, List.set_cons_zero, List.set_cons_succ, i64_w, i32_w]
           rfl
          refine one_ (i := 1) (N := some 44) #[true, true, false, false, true, true, false, false, false, false] rfl rfl (one_of HT_.out (by kernel_rfl)) (by decide) (fun K hK => ?_); refine goes_ Tryd.func18 (by kernel_rfl) rfl #[.slice Ao43 y137.length co43] (by rfl) rfl rfl (by (try simp only [List.map_toArray, List.map_cons, List.map_nil]); first | done | rfl | (simp only [List.length_drop, List.length_take]; rfl)) ?_
          with_reducible refine (interchange_text.calls _ _ y137 t152 _ ?side1 ?side2 A36.out (by first | exact Aside0.mk (GL.below hG.out (be HB.out)) | exact hG)).mono ?_
          (case side1 => exact cu (Kd.R_reads' HO_4.out).2.2)
          (case side2 => exact (Kd.R_reads' HO_4.out).2.1)
          rintro e w44 ⟨rfl, hb⟩
          refine ⟨_, rfl, ?_⟩; replace HO_4 := Aside0.mk (Kd.R_below (ku HO_4.out) hb); replace BK136 := Aside0.mk (blk_below (bu BK136.out) hb); replace HB := Aside0.mk (below_step (be HB.out) hb)
          (try clear hb)
          (try clear hb2)
          (try clear hk)
          (try clear hi)
          refine hK.out _ _ ⟨(blk_cell BK136.out 0).trans rfl, (blk_cell BK136.out 1).trans rfl, (blk_cell BK136.out 2).trans rfl, (blk_cell BK136.out 3).trans rfl, (blk_cell BK136.out 4).trans rfl, (blk_cell BK136.out 5).trans rfl⟩ (fun hHeld => ?_); clear hK K; refine norm_ (a' := ?_) ?_ ?_
          rotate_left
          ·show Act.put _ (some 44) _ = _
           simp only [Act.put, List.setIfInBounds_toArray, List.set_cons_zero, List.set_cons_succ, i64_w, i32_w]
           rfl
          refine pureA (i := 2) (N := some 45) #[true, true, true, false, true, true, false, false, false, false] rfl rfl HT_.out (by kernel_rfl) ?_; refine pureA (i := 3) (N := some 46) #[true, true, true, true, true, true, false, false, false, false] rfl rfl HT_.out (by kernel_rfl) ?_; refine one_ (i := 6) (N := some 49) #[true, true, true, true, true, true, true, false, false, false] rfl rfl (one_of HT_.out (by kernel_rfl)) (by decide) (fun K hK => ?_); refine goes_ Tryd.func18 (by kernel_rfl) rfl #[.slice A0_4 l0_4.length c0_4] (by rfl) rfl rfl (by (try simp only [List.map_toArray, List.map_cons, List.map_nil]); first | done | rfl | (simp only [List.length_drop, List.length_take]; rfl)) ?_
          with_reducible refine (interchange_text.calls _ _ l0_4 t153 _ ?side1 ?side2 A39.out (by first | exact Aside0.mk (GL.below hG.out (be HB.out)) | exact hG)).mono ?_
          (case side1 => exact cu (Kd.C_below HR0_4.out HB.out))
          (case side2 => exact HC0_4.out)
          rintro e w45 ⟨rfl, hb⟩
          refine ⟨_, rfl, ?_⟩; replace HO_4 := Aside0.mk (Kd.R_below (ku HO_4.out) hb); replace BK136 := Aside0.mk (blk_below (bu BK136.out) hb); replace HB := Aside0.mk (below_step (be HB.out) hb)
          (try clear hb)
          (try clear hb2)
          (try clear hk)
          (try clear hi)
          refine hK.out _ _ ⟨(blk_cell BK136.out 0).trans rfl, (blk_cell BK136.out 1).trans rfl, (blk_cell BK136.out 2).trans rfl, (blk_cell BK136.out 3).trans rfl, (blk_cell BK136.out 4).trans rfl, (blk_cell BK136.out 5).trans rfl⟩ (fun hHeld => ?_); clear hK K; refine norm_ (a' := ?_) ?_ ?_
          rotate_left
          ·show Act.put _ (some 49) _ = _
           simp only [Act.put, List.setIfInBounds_toArray, List.set_cons_zero, List.set_cons_succ, i64_w, i32_w]
           rfl
          refine pureA (i := 7) (N := some 50) #[true, true, true, true, true, true, true, true, false, false] rfl rfl HT_.out (by kernel_rfl) ?_; refine pureA (i := 8) (N := some 51) #[true, true, true, true, true, true, true, true, true, false] rfl rfl HT_.out (by kernel_rfl) ?_; refine pureA (i := 9) (N := some 6) #[true, true, true, true, true, true, true, true, true, true] rfl rfl HT_.out (by kernel_rfl) ?_; refine done_ (done_of HT_.out (by kernel_rfl)) ?_; have hcz46_0 := bc BK136.out 0 (.int .i64 a0_0) rfl; have hcz46_1 := bc BK136.out 1 (.int .i64 a0_1) rfl; have hcz46_2 := bc BK136.out 2 (.int .i64 a0_2) rfl; have hcz46_3 := bc BK136.out 3 (.int .i64 a0_3) rfl; have hcz46_4 := bc BK136.out 4 (.slice A0_4 l0_4.length c0_4) rfl; have hcz46_5 := bc BK136.out 5 (.slice A0_5 l0_5.length c0_5) rfl; have hfz46_0 := blk_frozen BK136.out 0; have hfz46_1 := blk_frozen BK136.out 1; have hfz46_2 := blk_frozen BK136.out 2; have hfz46_3 := blk_frozen BK136.out 3; have hfz46_4 := blk_frozen BK136.out 4; have hfz46_5 := blk_frozen BK136.out 5
          try go_wp2
          go_loopg [5, 6, 55] kj7 (fun kq v5 v6 v55 w' => ∃ (x5_3 : Bool) (x6_3 : ByteArray) (x55_3 : Int), v5 = .bool x5_3 ∧ v6 = .string x6_3 ∧ v55 = .int .i64 x55_3 ∧ Aside0 (interchange_Print.l0 kq x5_3 x6_3 l0_5 (l0_5.length : Int) x55_3 = some (r1, r2)) ∧ Aside0 (kq ≤ kj7) ∧ Aside0 (w'.heap[gb136]? = some (.cells #[.int .i64 a0_0, .int .i64 a0_1, .int .i64 a0_2, .int .i64 a0_3, (.slice A0_4 l0_4.length c0_4), (.slice A0_5 l0_5.length c0_5)] 27 (0, 0))) ∧ Aside0 (Below w.heap.size w w'))
          case atStart => exact ⟨(x5_7), (((((⟨#[109, 97, 114, 107, 101, 114]⟩ : ByteArray) ++ t152) ++ (⟨#[10, 115, 105, 122, 101, 115]⟩ : ByteArray)) ++ t153) ++ (⟨#[10]⟩ : ByteArray)), (0), (by first | rfl | (simp; done) | (simp [*]; done)), (by first | rfl | (simp; done) | (simp [*]; done)), (by first | rfl | (simp; done) | (simp [*]; done)), H', ⟨Nat.le_refl _⟩, ⟨bu (BK136.out)⟩, ⟨be HB.out⟩⟩
          case round =>
           clear H'
           try clear c1
           try clear c2
           try clear p2
           try clear c3
           try clear c4
           try clear c4b0
           try clear c4b1
           try clear c7
           try clear c10
           try clear c14
           try clear c16
           try clear c17
           try clear c18
           try clear c37
           try clear c37b0
           try clear c37b1
           try clear c37b2
           try clear c38
           try clear c38b0
           try clear c38b1
           try clear c38b2
           try clear c40
           try clear c40b0
           try clear c40b1
           try clear c40b2
           try clear c41
           try clear c41b0
           try clear c41b1
           try clear c41b2
           try clear hcz46_0 hcz46_1 hcz46_2 hcz46_3 hcz46_4 hcz46_5
           try clear hcz5_0 hcz5_1 hcz5_2 hcz5_3 hcz5_4 hcz5_5
           try clear hcz6_0 hcz6_1 hcz6_2 hcz6_3 hcz6_4 hcz6_5
           try clear hcz9_0 hcz9_1 hcz9_2 hcz9_3 hcz9_4 hcz9_5
           try clear hfz46_0 hfz46_1 hfz46_2 hfz46_3 hfz46_4 hfz46_5
           try clear hfz5_0 hfz5_1 hfz5_2 hfz5_3 hfz5_4 hfz5_5
           try clear hfz6_0 hfz6_1 hfz6_2 hfz6_3 hfz6_4 hfz6_5
           try clear hfz9_0 hfz9_1 hfz9_2 hfz9_3 hfz9_4 hfz9_5
           try clear p2
           obtain ⟨x5_3, x6_3, x55_3, rfl, rfl, rfl, HA, HK3, BK136, HB⟩ := hrel
           cases gk with
           | zero => exact absurd HA.out (by simp [interchange_Print.l0])
           | succ k3 =>
            have H := HA.out; clear HA; simp only [interchange_Print.l0] at H
            by_cases c47 : x55_3 < (l0_5.length : Int)
            ·rw [if_pos c47] at H; have c47b0 : decide (x55_3 < (l0_5.length : Int)) = true := decide_eq_true c47; clear c47
             by_cases c48 : 0 ≤ x55_3
             ·rw [if_pos c48] at H; have c48b0 : decide (0 ≤ x55_3) = true := decide_eq_true c48; clear c48
              by_cases c49 : x55_3 < (l0_5.length : Int)
              ·rw [if_pos c49] at H; have c49b0 : decide (x55_3 < (l0_5.length : Int)) = true := decide_eq_true c49; clear c49; replace H := Option.bind_eq_some_iff.mp H; obtain ⟨t156, A500, H⟩ := H; replace H : (if x5_3 = true then ((interchange_placed.f).bind fun t159 => ((interchange_within.f k3 t156 t159).bind fun t162 => (interchange_Print.j3 k3 t162 x6_3 t156 l0_5 (l0_5.length : Int) x55_3 ((rd_T46 l0_5 x55_3).f0) ((rd_T46 l0_5 x55_3).f1) ((rd_T46 l0_5 x55_3).f2) ((rd_T46 l0_5 x55_3).f3.f0) ((rd_T46 l0_5 x55_3).f3.f1) ((rd_T46 l0_5 x55_3).f4.f0) ((rd_T46 l0_5 x55_3).f4.f1)))) else (interchange_Print.j3 k3 false x6_3 t156 l0_5 (l0_5.length : Int) x55_3 ((rd_T46 l0_5 x55_3).f0) ((rd_T46 l0_5 x55_3).f1) ((rd_T46 l0_5 x55_3).f2) ((rd_T46 l0_5 x55_3).f3.f0) ((rd_T46 l0_5 x55_3).f3.f1) ((rd_T46 l0_5 x55_3).f4.f0) ((rd_T46 l0_5 x55_3).f4.f1))) = some (r1, r2) := H; have A50 := Aside0.mk A500; clear A500; have HC51 := Aside0.mk H; clear H; have p154 : 0 ≤ (x55_3 : Int) := oda; have q154 : x55_3 < (l0_5.length : Int) := oda; obtain ⟨ad154, e154, hx154_0, hx154_1, hx154_2, hx154_3, hx154_4, hx154_5, hx154_6⟩ := at_T46 HR0_5.out x55_3 p154 q154; cases e154; replace hx154_0 := (HB.out.cell (World.block_lt_of_cell? w _ hx154_0)).trans hx154_0; replace hx154_1 := (HB.out.cell (World.block_lt_of_cell? w _ hx154_1)).trans hx154_1; replace hx154_2 := (HB.out.cell (World.block_lt_of_cell? w _ hx154_2)).trans hx154_2; replace hx154_3 := (HB.out.cell (World.block_lt_of_cell? w _ hx154_3)).trans hx154_3; replace hx154_4 := (HB.out.cell (World.block_lt_of_cell? w _ hx154_4)).trans hx154_4; replace hx154_5 := (HB.out.cell (World.block_lt_of_cell? w _ hx154_5)).trans hx154_5; replace hx154_6 := (HB.out.cell (World.block_lt_of_cell? w _ hx154_6)).trans hx154_6; replace p154 := eq_true p154; replace q154 := eq_true q154
               go_upto_region 10 with (first | ((with_reducible refine gate_dst (N := 8) rfl ?_); (try (refine gate_guard (by rfl) ?_; dsimp only)); refine box_event ?hg (N := 8) ?hd (cs := #[.int .i64 0, .int .i64 0, .int .i64 0, .bool false, .int .i64 0, .int .i64 0, .int .i64 0]) (t := 46) ?hr ?_; (case hd => rfl); (case hg => rfl); (case hr => first | (go_simp; done) | (go_simp; rfl)); intro gb155 hg w52 hbox hb; have BK155 := Aside0.mk (hbox); have GW155 := Aside0.mk ((by rw [hg]; exact (below_size (be HB.out)) : w.heap.size ≤ gb155)); have GE155 := Aside0.mk ((by rw [hg]; exact (below_size (be HB.out)) : w.heap.size ≤ gb155)); have NB136_155 := Aside0.mk ((by rw [hg]; exact Nat.ne_of_lt (blk_lt (g := gb136) (o := .cells #[.int .i64 a0_0, .int .i64 a0_1, .int .i64 a0_2, .int .i64 a0_3, .slice A0_4 l0_4.length c0_4, .slice (some ad154) l0_5.length c0_5] 27 (0, 0)) (bu BK136.out)) : gb136 ≠ gb155)); have NB155_136 := Aside0.mk ((by rw [hg]; exact Nat.ne_of_gt (blk_lt (g := gb136) (o := .cells #[.int .i64 a0_0, .int .i64 a0_1, .int .i64 a0_2, .int .i64 a0_3, .slice A0_4 l0_4.length c0_4, .slice (some ad154) l0_5.length c0_5] 27 (0, 0)) (bu BK136.out)) : gb155 ≠ gb136)); replace BK136 := Aside0.mk (blk_below (bu BK136.out) hb); replace HB := Aside0.mk (below_step (be HB.out) hb); clear hb hbox hg; have hnb53 := NB155_136.out; have hnc53 := NB136_155.out; have hcz54_0 := bc BK155.out 0 (.int .i64 0) rfl; have hcz54_1 := bc BK155.out 1 (.int .i64 0) rfl; have hcz54_2 := bc BK155.out 2 (.int .i64 0) rfl; have hcz54_3 := bc BK155.out 3 (.bool false) rfl; have hcz54_4 := bc BK155.out 4 (.int .i64 0) rfl; have hcz54_5 := bc BK155.out 5 (.int .i64 0) rfl; have hcz54_6 := bc BK155.out 6 (.int .i64 0) rfl; have hfz54_0 := blk_frozen BK155.out 0; have hfz54_1 := blk_frozen BK155.out 1; have hfz54_2 := blk_frozen BK155.out 2; have hfz54_3 := blk_frozen BK155.out 3; have hfz54_4 := blk_frozen BK155.out 4; have hfz54_5 := blk_frozen BK155.out 5; have hfz54_6 := blk_frozen BK155.out 6) | ((with_reducible refine gate_callee (f := 19) rfl ?_); refine goesA (some 60) rfl rfl Tryd.func19 (by kernel_rfl) rfl #[.agg #[.int .i64 ((rd_T46 l0_5 x55_3).f0), .int .i64 ((rd_T46 l0_5 x55_3).f1), .int .i64 ((rd_T46 l0_5 x55_3).f2), .bool ((rd_T46 l0_5 x55_3).f3.f0), .int .i64 ((rd_T46 l0_5 x55_3).f3.f1), .int .i64 ((rd_T46 l0_5 x55_3).f4.f0), .int .i64 ((rd_T46 l0_5 x55_3).f4.f1)]] rfl ?_; (with_reducible refine (interchange_numbers.calls ((rd_T46 l0_5 x55_3).f0) ((rd_T46 l0_5 x55_3).f1) ((rd_T46 l0_5 x55_3).f2) ((rd_T46 l0_5 x55_3).f3.f0) ((rd_T46 l0_5 x55_3).f3.f1) ((rd_T46 l0_5 x55_3).f4.f0) ((rd_T46 l0_5 x55_3).f4.f1) t156 _ A50.out).mono ?_); rintro e w55 ⟨v157, rfl, ho0, hb⟩; refine ⟨_, rfl, ?_⟩; have HO158 := Aside0.mk (Kd.R_lower ho0 (below_size (be HB.out))); replace BK136 := Aside0.mk (blk_below (g := gb136) (o := .cells #[.int .i64 a0_0, .int .i64 a0_1, .int .i64 a0_2, .int .i64 a0_3, .slice A0_4 l0_4.length c0_4, .slice (some ad154) l0_5.length c0_5] 27 (0, 0)) (by (with_reducible repeat (first | refine blk_drewN ?_ _ | refine blk_drew ?_ | refine blk_alloc ?_ _)); refine blk_far ?_ NB136_155.out _; (with_reducible repeat (first | refine blk_drewN ?_ _ | refine blk_drew ?_ | refine blk_alloc ?_ _)); refine blk_far ?_ NB136_155.out _; (with_reducible repeat (first | refine blk_drewN ?_ _ | refine blk_drew ?_ | refine blk_alloc ?_ _)); refine blk_far ?_ NB136_155.out _; (with_reducible repeat (first | refine blk_drewN ?_ _ | refine blk_drew ?_ | refine blk_alloc ?_ _)); refine blk_far ?_ NB136_155.out _; (with_reducible repeat (first | refine blk_drewN ?_ _ | refine blk_drew ?_ | refine blk_alloc ?_ _)); refine blk_far ?_ NB136_155.out _; (with_reducible repeat (first | refine blk_drewN ?_ _ | refine blk_drew ?_ | refine blk_alloc ?_ _)); refine blk_far ?_ NB136_155.out _; (with_reducible repeat (first | refine blk_drewN ?_ _ | refine blk_drew ?_ | refine blk_alloc ?_ _)); refine blk_far ?_ NB136_155.out _; (with_reducible repeat (first | refine blk_drewN ?_ _ | refine blk_drew ?_ | refine blk_alloc ?_ _)); exact BK136.out) hb); replace BK155 := Aside0.mk (blk_below (g := gb155) (o := .cells #[.int .i64 ((rd_T46 l0_5 x55_3).f0), .int .i64 ((rd_T46 l0_5 x55_3).f1), .int .i64 ((rd_T46 l0_5 x55_3).f2), .bool ((rd_T46 l0_5 x55_3).f3.f0), .int .i64 ((rd_T46 l0_5 x55_3).f3.f1), .int .i64 ((rd_T46 l0_5 x55_3).f4.f0), .int .i64 ((rd_T46 l0_5 x55_3).f4.f1)] 46 (0, 0)) (by (with_reducible repeat (first | refine blk_drewN ?_ _ | refine blk_drew ?_ | refine blk_alloc ?_ _)); refine blk_put (cs := #[.int .i64 ((rd_T46 l0_5 x55_3).f0), .int .i64 ((rd_T46 l0_5 x55_3).f1), .int .i64 ((rd_T46 l0_5 x55_3).f2), .bool ((rd_T46 l0_5 x55_3).f3.f0), .int .i64 ((rd_T46 l0_5 x55_3).f3.f1), .int .i64 ((rd_T46 l0_5 x55_3).f4.f0), .int .i64 0]) ?_ 6 _ rfl; (with_reducible repeat (first | refine blk_drewN ?_ _ | refine blk_drew ?_ | refine blk_alloc ?_ _)); refine blk_put (cs := #[.int .i64 ((rd_T46 l0_5 x55_3).f0), .int .i64 ((rd_T46 l0_5 x55_3).f1), .int .i64 ((rd_T46 l0_5 x55_3).f2), .bool ((rd_T46 l0_5 x55_3).f3.f0), .int .i64 ((rd_T46 l0_5 x55_3).f3.f1), .int .i64 0, .int .i64 0]) ?_ 5 _ rfl; (with_reducible repeat (first | refine blk_drewN ?_ _ | refine blk_drew ?_ | refine blk_alloc ?_ _)); refine blk_put (cs := #[.int .i64 ((rd_T46 l0_5 x55_3).f0), .int .i64 ((rd_T46 l0_5 x55_3).f1), .int .i64 ((rd_T46 l0_5 x55_3).f2), .bool ((rd_T46 l0_5 x55_3).f3.f0), .int .i64 0, .int .i64 0, .int .i64 0]) ?_ 4 _ rfl; (with_reducible repeat (first | refine blk_drewN ?_ _ | refine blk_drew ?_ | refine blk_alloc ?_ _)); refine blk_put (cs := #[.int .i64 ((rd_T46 l0_5 x55_3).f0), .int .i64 ((rd_T46 l0_5 x55_3).f1), .int .i64 ((rd_T46 l0_5 x55_3).f2), .bool false, .int .i64 0, .int .i64 0, .int .i64 0]) ?_ 3 _ rfl; (with_reducible repeat (first | refine blk_drewN ?_ _ | refine blk_drew ?_ | refine blk_alloc ?_ _)); refine blk_put (cs := #[.int .i64 ((rd_T46 l0_5 x55_3).f0), .int .i64 ((rd_T46 l0_5 x55_3).f1), .int .i64 0, .bool false, .int .i64 0, .int .i64 0, .int .i64 0]) ?_ 2 _ rfl; (with_reducible repeat (first | refine blk_drewN ?_ _ | refine blk_drew ?_ | refine blk_alloc ?_ _)); refine blk_put (cs := #[.int .i64 ((rd_T46 l0_5 x55_3).f0), .int .i64 0, .int .i64 0, .bool false, .int .i64 0, .int .i64 0, .int .i64 0]) ?_ 1 _ rfl; (with_reducible repeat (first | refine blk_drewN ?_ _ | refine blk_drew ?_ | refine blk_alloc ?_ _)); refine blk_put (cs := #[.int .i64 0, .int .i64 0, .int .i64 0, .bool false, .int .i64 0, .int .i64 0, .int .i64 0]) ?_ 0 _ rfl; (with_reducible repeat (first | refine blk_drewN ?_ _ | refine blk_drew ?_ | refine blk_alloc ?_ _)); exact BK155.out) hb); replace HB := Aside0.mk (below_step (be HB.out) hb); (try clear hb); (try clear ho0)))
               (try simp only [Act.put, List.setIfInBounds_toArray, List.set_cons_zero, List.set_cons_succ])
               go_cut [5] (fun v5 wc => ∃ (kq : Nat) (x5_50 : Bool), v5 = .bool x5_50 ∧ Aside0 (interchange_Print.j3 kq x5_50 x6_3 t156 l0_5 (l0_5.length : Int) x55_3 ((rd_T46 l0_5 x55_3).f0) ((rd_T46 l0_5 x55_3).f1) ((rd_T46 l0_5 x55_3).f2) ((rd_T46 l0_5 x55_3).f3.f0) ((rd_T46 l0_5 x55_3).f3.f1) ((rd_T46 l0_5 x55_3).f4.f0) ((rd_T46 l0_5 x55_3).f4.f1) = some (r1, r2)) ∧ Aside0 (kq ≤ k3) ∧ Aside0 (Kd.R (Kd.int .i64) 3 wc w.heap.size (fun _ => True) v157 t156) ∧ Aside0 (wc.heap[gb136]? = some (.cells #[.int .i64 a0_0, .int .i64 a0_1, .int .i64 a0_2, .int .i64 a0_3, (.slice A0_4 l0_4.length c0_4), (.slice (some ad154) l0_5.length c0_5)] 27 (0, 0))) ∧ Aside0 (wc.heap[gb155]? = some (.cells #[.int .i64 ((rd_T46 l0_5 x55_3).f0), .int .i64 ((rd_T46 l0_5 x55_3).f1), .int .i64 ((rd_T46 l0_5 x55_3).f2), .bool ((rd_T46 l0_5 x55_3).f3.f0), .int .i64 ((rd_T46 l0_5 x55_3).f3.f1), .int .i64 ((rd_T46 l0_5 x55_3).f4.f0), .int .i64 ((rd_T46 l0_5 x55_3).f4.f1)] 46 (0, 0))) ∧ Aside0 (Below w.heap.size w wc))
               case first =>
                have H := HC51.out; clear HC51
                by_cases c56 : x5_3 = true
                ·subst c56
                 have H1 : ((interchange_placed.f).bind fun t159 => ((interchange_within.f k3 t156 t159).bind fun t162 => (interchange_Print.j3 k3 t162 x6_3 t156 l0_5 (l0_5.length : Int) x55_3 ((rd_T46 l0_5 x55_3).f0) ((rd_T46 l0_5 x55_3).f1) ((rd_T46 l0_5 x55_3).f2) ((rd_T46 l0_5 x55_3).f3.f0) ((rd_T46 l0_5 x55_3).f3.f1) ((rd_T46 l0_5 x55_3).f4.f0) ((rd_T46 l0_5 x55_3).f4.f1)))) = some (r1, r2) := by rw [if_pos rfl] at H; exact H
                 clear H; have H := H1; clear H1; replace H := Option.bind_eq_some_iff.mp H; obtain ⟨t159, A570, H⟩ := H; replace H : ((interchange_within.f k3 t156 t159).bind fun t162 => (interchange_Print.j3 k3 t162 x6_3 t156 l0_5 (l0_5.length : Int) x55_3 ((rd_T46 l0_5 x55_3).f0) ((rd_T46 l0_5 x55_3).f1) ((rd_T46 l0_5 x55_3).f2) ((rd_T46 l0_5 x55_3).f3.f0) ((rd_T46 l0_5 x55_3).f3.f1) ((rd_T46 l0_5 x55_3).f4.f0) ((rd_T46 l0_5 x55_3).f4.f1))) = some (r1, r2) := H; have A57 := Aside0.mk A570; clear A570; replace H := Option.bind_eq_some_iff.mp H; obtain ⟨t162, A580, H⟩ := H; replace H : (interchange_Print.j3 k3 t162 x6_3 t156 l0_5 (l0_5.length : Int) x55_3 ((rd_T46 l0_5 x55_3).f0) ((rd_T46 l0_5 x55_3).f1) ((rd_T46 l0_5 x55_3).f2) ((rd_T46 l0_5 x55_3).f3.f0) ((rd_T46 l0_5 x55_3).f3.f1) ((rd_T46 l0_5 x55_3).f4.f0) ((rd_T46 l0_5 x55_3).f4.f1)) = some (r1, r2) := H; have A58 := Aside0.mk A580; clear A580; have H' := Aside0.mk H; clear H
                 go_wp2_with (first | (go_at_call 20; (with_reducible refine (interchange_placed.calls  t159 _ A57.out).mono ?_); rintro e w59 ⟨v160, rfl, ho0, hb⟩; have HO161 := Aside0.mk (Kd.R_lower ho0 (below_size (be HB.out))); replace HO158 := Aside0.mk (Kd.R_below (ku HO158.out) hb); replace BK136 := Aside0.mk (blk_below (bu BK136.out) hb); replace BK155 := Aside0.mk (blk_below (bu BK155.out) hb); replace HB := Aside0.mk (below_step (be HB.out) hb); (try clear hb); (try clear ho0); obtain ⟨Ao60, co60, eo60⟩ := Kd.R_slice HO158.out; subst eo60; obtain ⟨Ao61, co61, eo61⟩ := Kd.R_slice HO161.out; subst eo61) | (go_at_call 16; (with_reducible refine (interchange_within.calls k3 _ _ t156 _ _ t159 t162 _ ?side1 ?side2 ?side3 ?side4 A58.out).mono ?_); (case side1 => exact cu (Kd.R_reads' HO158.out).2.2); (case side2 => exact (Kd.R_reads' HO158.out).2.1); (case side3 => exact cu (Kd.R_reads' HO161.out).2.2); (case side4 => exact (Kd.R_reads' HO161.out).2.1); rintro e w62 ⟨rfl, hb⟩; replace HO158 := Aside0.mk (Kd.R_below (ku HO158.out) hb); replace HO161 := Aside0.mk (Kd.R_below (ku HO161.out) hb); replace BK136 := Aside0.mk (blk_below (bu BK136.out) hb); replace BK155 := Aside0.mk (blk_below (bu BK155.out) hb); replace HB := Aside0.mk (below_step (be HB.out) hb); (try clear hb)))
                 go_meet
                 case rel => exact ⟨_, (t162), (by first | rfl | (simp; done) | (simp [*]; done)), H', ⟨by have := HJ1.out; have := HJ7.out; have := HK3.out; first | omega | exact Nat.le_refl _⟩, ⟨ku (HO158.out)⟩, ⟨bu (BK136.out)⟩, ⟨bu (BK155.out)⟩, ⟨be HB.out⟩⟩
                ·replace c56 := Bool.eq_false_iff.mpr c56; subst c56
                 have H1 : (interchange_Print.j3 k3 false x6_3 t156 l0_5 (l0_5.length : Int) x55_3 ((rd_T46 l0_5 x55_3).f0) ((rd_T46 l0_5 x55_3).f1) ((rd_T46 l0_5 x55_3).f2) ((rd_T46 l0_5 x55_3).f3.f0) ((rd_T46 l0_5 x55_3).f3.f1) ((rd_T46 l0_5 x55_3).f4.f0) ((rd_T46 l0_5 x55_3).f4.f1)) = some (r1, r2) := by rw [if_neg (show ¬ (false = true) by decide)] at H; exact H
                 clear H; have H := H1; clear H1; have H' := Aside0.mk H; clear H
                 go_wp2
                 go_meet
                 case rel => exact ⟨_, (false), (by first | rfl | (simp; done) | (simp [*]; done)), H', ⟨by have := HJ1.out; have := HJ7.out; have := HK3.out; first | omega | exact Nat.le_refl _⟩, ⟨ku (HO158.out)⟩, ⟨bu (BK136.out)⟩, ⟨bu (BK155.out)⟩, ⟨be HB.out⟩⟩
               case rest =>
                clear HC51
                try clear c1
                try clear p1
                try clear q1
                try clear hx1
                try clear c2
                try clear p2
                try clear c3
                try clear c4
                try clear c4b0
                try clear c4b1
                try clear c5
                try clear c7
                try clear c10
                try clear c14
                try clear p15
                try clear q15
                try clear hx15
                try clear c16
                try clear c17
                try clear c18
                try clear c19
                try clear c37
                try clear c37b0
                try clear c37b1
                try clear c37b2
                try clear c38
                try clear c38b0
                try clear c38b1
                try clear c38b2
                try clear c40
                try clear c40b0
                try clear c40b1
                try clear c40b2
                try clear c41
                try clear c41b0
                try clear c41b1
                try clear c41b2
                try clear c47
                try clear c47b0
                try clear c48
                try clear c48b0
                try clear c49
                try clear c49b0
                try clear c53
                try clear c56
                try clear hcz46_0 hcz46_1 hcz46_2 hcz46_3 hcz46_4 hcz46_5
                try clear hcz54_0 hcz54_1 hcz54_2 hcz54_3 hcz54_4 hcz54_5 hcz54_6
                try clear hcz5_0 hcz5_1 hcz5_2 hcz5_3 hcz5_4 hcz5_5
                try clear hcz6_0 hcz6_1 hcz6_2 hcz6_3 hcz6_4 hcz6_5
                try clear hcz9_0 hcz9_1 hcz9_2 hcz9_3 hcz9_4 hcz9_5
                try clear hfz46_0 hfz46_1 hfz46_2 hfz46_3 hfz46_4 hfz46_5
                try clear hfz54_0 hfz54_1 hfz54_2 hfz54_3 hfz54_4 hfz54_5 hfz54_6
                try clear hfz5_0 hfz5_1 hfz5_2 hfz5_3 hfz5_4 hfz5_5
                try clear hfz6_0 hfz6_1 hfz6_2 hfz6_3 hfz6_4 hfz6_5
                try clear hfz9_0 hfz9_1 hfz9_2 hfz9_3 hfz9_4 hfz9_5
                try clear hx154_0
                try clear hx154_1
                try clear hx154_2
                try clear hx154_3
                try clear hx154_4
                try clear hx154_5
                try clear hx154_6
                try clear p154
                try clear p2
                try clear q154
                obtain ⟨kq, x5_50, rfl, HA, HJ50, HO_9, BK136, BK155, HB⟩ := hcut
                cases kq with
                | zero => exact absurd HA.out (by simp [interchange_Print.j3])
                | succ kj50 =>
                 have H := HA.out; clear HA; simp only [interchange_Print.j3] at H; have HC63 := Aside0.mk H; clear H; have hnb64 := NB155_136.out; have hnc64 := NB136_155.out; have hcz65_0 := bc BK155.out 0 (.int .i64 ((rd_T46 l0_5 x55_3).f0)) rfl; have hcz65_1 := bc BK155.out 1 (.int .i64 ((rd_T46 l0_5 x55_3).f1)) rfl; have hcz65_2 := bc BK155.out 2 (.int .i64 ((rd_T46 l0_5 x55_3).f2)) rfl; have hcz65_3 := bc BK155.out 3 (.bool ((rd_T46 l0_5 x55_3).f3.f0)) rfl; have hcz65_4 := bc BK155.out 4 (.int .i64 ((rd_T46 l0_5 x55_3).f3.f1)) rfl; have hcz65_5 := bc BK155.out 5 (.int .i64 ((rd_T46 l0_5 x55_3).f4.f0)) rfl; have hcz65_6 := bc BK155.out 6 (.int .i64 ((rd_T46 l0_5 x55_3).f4.f1)) rfl; have hfz65_0 := blk_frozen BK155.out 0; have hfz65_1 := blk_frozen BK155.out 1; have hfz65_2 := blk_frozen BK155.out 2; have hfz65_3 := blk_frozen BK155.out 3; have hfz65_4 := blk_frozen BK155.out 4; have hfz65_5 := blk_frozen BK155.out 5; have hfz65_6 := blk_frozen BK155.out 6
                 go_upto_if 69 with (fail)
                 go_cut [10] (fun v10 wc => ∃ (kq : Nat) (x10_62 : ByteArray), v10 = .string x10_62 ∧ Aside0 (interchange_Print.j4 kq x5_50 x6_3 t156 x10_62 l0_5 (l0_5.length : Int) x55_3 = some (r1, r2)) ∧ Aside0 (kq ≤ kj50) ∧ Aside0 (Kd.R (Kd.int .i64) 3 wc w.heap.size (fun _ => True) v157 t156) ∧ Aside0 (wc.heap[gb136]? = some (.cells #[.int .i64 a0_0, .int .i64 a0_1, .int .i64 a0_2, .int .i64 a0_3, (.slice A0_4 l0_4.length c0_4), (.slice (some ad154) l0_5.length c0_5)] 27 (0, 0))) ∧ Aside0 (wc.heap[gb155]? = some (.cells #[.int .i64 ((rd_T46 l0_5 x55_3).f0), .int .i64 ((rd_T46 l0_5 x55_3).f1), .int .i64 ((rd_T46 l0_5 x55_3).f2), .bool ((rd_T46 l0_5 x55_3).f3.f0), .int .i64 ((rd_T46 l0_5 x55_3).f3.f1), .int .i64 ((rd_T46 l0_5 x55_3).f4.f0), .int .i64 ((rd_T46 l0_5 x55_3).f4.f1)] 46 (0, 0))) ∧ Aside0 (Below w.heap.size w wc))
                 case first =>
                  have H := HC63.out; clear HC63
                  by_cases c66 : ((rd_T46 l0_5 x55_3).f3.f0) = true
                  ·rw [if_pos c66] at H; have c66b0 : ((rd_T46 l0_5 x55_3).f3.f0) = true := c66; clear c66
                   (first | rw [c66b0] | (simp only [i64_w, i32_w]; rw [c66b0]) | skip)
                   have H' := Aside0.mk H; clear H
                   go_wp2
                   go_meet
                   case rel => exact ⟨_, ((⟨#[32, 102, 108, 105, 112]⟩ : ByteArray)), (by first | rfl | (simp; done) | (simp [*]; done)), H', ⟨by have := HJ1.out; have := HJ7.out; have := HK3.out; have := HJ50.out; first | omega | exact Nat.le_refl _⟩, ⟨ku (HO_9.out)⟩, ⟨bu (BK136.out)⟩, ⟨bu (BK155.out)⟩, ⟨be HB.out⟩⟩
                  ·rw [if_neg c66] at H
                   have c66b0 : ((rd_T46 l0_5 x55_3).f3.f0) = false := by simpa using c66
                   clear c66
                   (first | rw [c66b0] | (simp only [i64_w, i32_w]; rw [c66b0]) | skip)
                   have H' := Aside0.mk H; clear H
                   go_wp2
                   go_meet
                   case rel => exact ⟨_, ((⟨#[]⟩ : ByteArray)), (by first | rfl | (simp; done) | (simp [*]; done)), H', ⟨by have := HJ1.out; have := HJ7.out; have := HK3.out; have := HJ50.out; first | omega | exact Nat.le_refl _⟩, ⟨ku (HO_9.out)⟩, ⟨bu (BK136.out)⟩, ⟨bu (BK155.out)⟩, ⟨be HB.out⟩⟩
                 case rest =>
                  clear HC63
                  try clear c1
                  try clear p1
                  try clear q1
                  try clear hx1
                  try clear c2
                  try clear p2
                  try clear c3
                  try clear c4
                  try clear c4b0
                  try clear c4b1
                  try clear c5
                  try clear c6
                  try clear c7
                  try clear c10
                  try clear c14
                  try clear p15
                  try clear q15
                  try clear hx15
                  try clear c16
                  try clear c17
                  try clear c18
                  try clear c19
                  try clear c37
                  try clear c37b0
                  try clear c37b1
                  try clear c37b2
                  try clear c38
                  try clear c38b0
                  try clear c38b1
                  try clear c38b2
                  try clear c40
                  try clear c40b0
                  try clear c40b1
                  try clear c40b2
                  try clear c41
                  try clear c41b0
                  try clear c41b1
                  try clear c41b2
                  try clear c47
                  try clear c47b0
                  try clear c48
                  try clear c48b0
                  try clear c49
                  try clear c49b0
                  try clear c53
                  try clear c56
                  try clear c64
                  try clear c66
                  try clear c66b0
                  try clear hcz46_0 hcz46_1 hcz46_2 hcz46_3 hcz46_4 hcz46_5
                  try clear hcz54_0 hcz54_1 hcz54_2 hcz54_3 hcz54_4 hcz54_5 hcz54_6
                  try clear hcz5_0 hcz5_1 hcz5_2 hcz5_3 hcz5_4 hcz5_5
                  try clear hcz65_0 hcz65_1 hcz65_2 hcz65_3 hcz65_4 hcz65_5 hcz65_6
                  try clear hcz6_0 hcz6_1 hcz6_2 hcz6_3 hcz6_4 hcz6_5
                  try clear hcz9_0 hcz9_1 hcz9_2 hcz9_3 hcz9_4 hcz9_5
                  try clear hfz46_0 hfz46_1 hfz46_2 hfz46_3 hfz46_4 hfz46_5
                  try clear hfz54_0 hfz54_1 hfz54_2 hfz54_3 hfz54_4 hfz54_5 hfz54_6
                  try clear hfz5_0 hfz5_1 hfz5_2 hfz5_3 hfz5_4 hfz5_5
                  try clear hfz65_0 hfz65_1 hfz65_2 hfz65_3 hfz65_4 hfz65_5 hfz65_6
                  try clear hfz6_0 hfz6_1 hfz6_2 hfz6_3 hfz6_4 hfz6_5
                  try clear hfz9_0 hfz9_1 hfz9_2 hfz9_3 hfz9_4 hfz9_5
                  try clear hx154_0
                  try clear hx154_1
                  try clear hx154_2
                  try clear hx154_3
                  try clear hx154_4
                  try clear hx154_5
                  try clear hx154_6
                  try clear p1
                  try clear p15
                  try clear p154
                  try clear p2
                  try clear q1
                  try clear q15
                  try clear q154
                  obtain ⟨kq, x10_62, rfl, HA, HJ62, HO_9, BK136, BK155, HB⟩ := hcut
                  cases kq with
                  | zero => exact absurd HA.out (by simp [interchange_Print.j4])
                  | succ kj62 =>
                   have H := HA.out; clear HA; simp only [interchange_Print.j4] at H
                   by_cases c67 : 3 ≤ (t156.length : Int)
                   ·rw [if_pos c67] at H; have c67b0 := eq_true c67; have c67b1 : decide (3 ≤ (t156.length : Int)) = true := decide_eq_true c67; clear c67; obtain ⟨y163, hy163⟩ : ∃ y_ : List Int, y_ = (t156.take 3) := ⟨_, rfl⟩
                    replace H : ((interchange_text.f y163).bind fun t167 => (if 5 + t167.size ≤ 9223372036854775807 then (if 5 + t167.size + x10_62.size ≤ 9223372036854775807 then ((interchange_text.f (t156.drop 3)).bind fun t172 => (if 5 + t167.size + x10_62.size + t172.size ≤ 9223372036854775807 then (if 5 + t167.size + x10_62.size + t172.size + 1 ≤ 9223372036854775807 then (if x6_3.size + (5 + t167.size + x10_62.size + t172.size + 1) ≤ 9223372036854775807 then (interchange_Print.l0 kj62 x5_50 (x6_3 ++ (((((⟨#[112, 108, 97, 99, 101]⟩ : ByteArray) ++ t167) ++ x10_62) ++ t172) ++ (⟨#[10]⟩ : ByteArray))) l0_5 (l0_5.length : Int) (wrap64 (x55_3 + 1))) else (none)) else (none)) else (none))) else (none)) else (none))) = some (r1, r2) := by first | (rw [hy163]; with_reducible exact H) | (have H2_ := (Option.bind_some _ _).symm.trans H; rw [hy163]; with_reducible exact H2_) | (have H2_ := (Option.bind_some _ _).symm.trans H; with_reducible exact H2_) | with_reducible exact H | (rw [hy163]; exact H) | exact H
                    have Ny163 := Aside0.mk hy163; clear hy163; replace H := Option.bind_eq_some_iff.mp H; obtain ⟨t167, A680, H⟩ := H; replace H : (if 5 + t167.size ≤ 9223372036854775807 then (if 5 + t167.size + x10_62.size ≤ 9223372036854775807 then ((interchange_text.f (t156.drop 3)).bind fun t172 => (if 5 + t167.size + x10_62.size + t172.size ≤ 9223372036854775807 then (if 5 + t167.size + x10_62.size + t172.size + 1 ≤ 9223372036854775807 then (if x6_3.size + (5 + t167.size + x10_62.size + t172.size + 1) ≤ 9223372036854775807 then (interchange_Print.l0 kj62 x5_50 (x6_3 ++ (((((⟨#[112, 108, 97, 99, 101]⟩ : ByteArray) ++ t167) ++ x10_62) ++ t172) ++ (⟨#[10]⟩ : ByteArray))) l0_5 (l0_5.length : Int) (wrap64 (x55_3 + 1))) else (none)) else (none)) else (none))) else (none)) else (none)) = some (r1, r2) := H; have A68 := Aside0.mk A680; clear A680
                    by_cases c69 : 5 + t167.size ≤ 9223372036854775807
                    ·rw [if_pos c69] at H; have c69b0 := eq_true c69; have c69b1 : decide (5 + t167.size ≤ 9223372036854775807) = true := decide_eq_true c69
                     try have c69b2 : (9223372036854775807 < 5 + t167.size) = False := eq_false (Nat.not_lt.2 c69)
                     by_cases c70 : 5 + t167.size + x10_62.size ≤ 9223372036854775807
                     ·rw [if_pos c70] at H; have c70b0 := eq_true c70; have c70b1 : decide (5 + t167.size + x10_62.size ≤ 9223372036854775807) = true := decide_eq_true c70
                      try have c70b2 : (9223372036854775807 < 5 + t167.size + x10_62.size) = False := eq_false (Nat.not_lt.2 c70)
                      have c71b0 := eq_true (oda : 3 ≤ (t156.length : Int)); obtain ⟨y168, hy168⟩ : ∃ y_ : List Int, y_ = (t156.drop 3) := ⟨_, rfl⟩
                      replace H : ((interchange_text.f y168).bind fun t172 => (if 5 + t167.size + x10_62.size + t172.size ≤ 9223372036854775807 then (if 5 + t167.size + x10_62.size + t172.size + 1 ≤ 9223372036854775807 then (if x6_3.size + (5 + t167.size + x10_62.size + t172.size + 1) ≤ 9223372036854775807 then (interchange_Print.l0 kj62 x5_50 (x6_3 ++ (((((⟨#[112, 108, 97, 99, 101]⟩ : ByteArray) ++ t167) ++ x10_62) ++ t172) ++ (⟨#[10]⟩ : ByteArray))) l0_5 (l0_5.length : Int) (wrap64 (x55_3 + 1))) else (none)) else (none)) else (none))) = some (r1, r2) := by first | (rw [hy168]; with_reducible exact H) | (have H2_ := (Option.bind_some _ _).symm.trans H; rw [hy168]; with_reducible exact H2_) | (have H2_ := (Option.bind_some _ _).symm.trans H; with_reducible exact H2_) | with_reducible exact H | (rw [hy168]; exact H) | exact H
                      have Ny168 := Aside0.mk hy168; clear hy168; replace H := Option.bind_eq_some_iff.mp H; obtain ⟨t172, A720, H⟩ := H; replace H : (if 5 + t167.size + x10_62.size + t172.size ≤ 9223372036854775807 then (if 5 + t167.size + x10_62.size + t172.size + 1 ≤ 9223372036854775807 then (if x6_3.size + (5 + t167.size + x10_62.size + t172.size + 1) ≤ 9223372036854775807 then (interchange_Print.l0 kj62 x5_50 (x6_3 ++ (((((⟨#[112, 108, 97, 99, 101]⟩ : ByteArray) ++ t167) ++ x10_62) ++ t172) ++ (⟨#[10]⟩ : ByteArray))) l0_5 (l0_5.length : Int) (wrap64 (x55_3 + 1))) else (none)) else (none)) else (none)) = some (r1, r2) := H; have A72 := Aside0.mk A720; clear A720
                      by_cases c73 : 5 + t167.size + x10_62.size + t172.size ≤ 9223372036854775807
                      ·rw [if_pos c73] at H; have c73b0 := eq_true c73; have c73b1 : decide (5 + t167.size + x10_62.size + t172.size ≤ 9223372036854775807) = true := decide_eq_true c73
                       try have c73b2 : (9223372036854775807 < 5 + t167.size + x10_62.size + t172.size) = False := eq_false (Nat.not_lt.2 c73)
                       by_cases c74 : 5 + t167.size + x10_62.size + t172.size + 1 ≤ 9223372036854775807
                       ·rw [if_pos c74] at H; have c74b0 := eq_true c74; have c74b1 : decide (5 + t167.size + x10_62.size + t172.size + 1 ≤ 9223372036854775807) = true := decide_eq_true c74
                        try have c74b2 : (9223372036854775807 < 5 + t167.size + x10_62.size + t172.size + 1) = False := eq_false (Nat.not_lt.2 c74)
                        by_cases c75 : x6_3.size + (5 + t167.size + x10_62.size + t172.size + 1) ≤ 9223372036854775807
                        ·rw [if_pos c75] at H; have c75b0 := eq_true c75; have c75b1 : decide (x6_3.size + (5 + t167.size + x10_62.size + t172.size + 1) ≤ 9223372036854775807) = true := decide_eq_true c75
                         try have c75b2 : (9223372036854775807 < x6_3.size + (5 + t167.size + x10_62.size + t172.size + 1)) = False := eq_false (Nat.not_lt.2 c75)
                         have H' := Aside0.mk H; clear H
                         try go_wp2
                         replace HO_9 := Aside0.mk (Kd.R_drew HO_9.out); replace BK136 := Aside0.mk (blk_drew BK136.out); replace BK155 := Aside0.mk (blk_drew BK155.out); replace HB := Aside0.mk (below_drew1 HB.out); obtain ⟨Ao78, co78, eo78⟩ := Kd.R_slice HO_9.out
                         (first | subst eo78 | (injection eo78 with f1_ f2_ f3_; have f4_ := f1_.symm; have f5_ := f3_.symm; clear f1_ f2_ f3_; subst f4_; subst f5_))
                         have q77 : (3 : Int) ≤ ((t156.length : Int) : Int) := oda; obtain ⟨i077, hi077, _, hsz77, _⟩ := info_parts info3; have hroom77 : t156.length ≤ co78 := (Kd.R_reads' HO_9.out).2.1; have hC77 : Kd.C (Kd.int .i64) _ Ao78 t156.length t156 := (Kd.R_reads' HO_9.out).2.2; have hcut77 := cut_to (P := Tryd.prog) 24 3 .i64 Tryd.underlying24 hi077 Ao78 t156.length co78 3 (by omega) q77 hroom77; have hr77 := Kd.C_take (m := 3) hC77 (by omega); have hy77 : y163.length = (3 : Int).toNat := (by rw [Ny163.out, List.length_take]; omega); rw [← Ny163.out] at hr77; rw [← hy77] at hcut77; have HR166 := Aside0.mk hr77; have HC166 := Aside0.mk (show y163.length ≤ co78 from by omega); clear hr77 hC77 hroom77 hi077 hsz77; have KY77 := Aside0.mk hy77; clear hy77; have KL77 := Aside0.mk (show 3 ≤ t156.length from by omega); replace q77 := eq_true q77; have q79 : (3 : Int) ≤ ((t156.length : Int) : Int) := oda; obtain ⟨i079, hi079, _, hsz79, _⟩ := info_parts info3; have hroom79 : t156.length ≤ co78 := (Kd.R_reads' HO_9.out).2.1; have hC79 : Kd.C (Kd.int .i64) _ Ao78 t156.length t156 := (Kd.R_reads' HO_9.out).2.2
                         have hcut79 := cut_from (P := Tryd.prog) 24 3 .i64 Tryd.underlying24 hi079 1 hsz79 Ao78 t156.length co78 3 (by omega) q79
                         have hr79 := Kd.C_drop (m := (3 : Int).toNat) (c := co78) hC79 (by omega) hroom79; obtain ⟨A79, hA79⟩ : ∃ Az_, Az_ = (if co78 = (3 : Int).toNat then Ao78 else (Ao78 : Option Addr).map (·.add ((3 : Int).toNat * 1))) := ⟨_, rfl⟩; obtain ⟨c79, hc79⟩ : ∃ c1, c1 = co78 - (3 : Int).toNat := ⟨_, rfl⟩; have hy79 : y168.length = t156.length - (3 : Int).toNat := (by rw [Ny168.out, List.length_drop] <;> omega); rw [show (t156).drop (3 : Int).toNat = y168 from Ny168.out.symm] at hr79; replace hr79 : Kd.C (Kd.int .i64) _ A79 y168.length y168 := (by rw [hA79]; exact hr79); rw [← hy79, ← hA79, ← hc79] at hcut79; have HR171 := Aside0.mk hr79; have HC171 := Aside0.mk (show y168.length ≤ c79 from by rw [hy79, hc79]; exact Nat.sub_le_sub_right hroom79 _); clear hr79 hC79 hroom79 hi079 hsz79 hc79; have KY79 := Aside0.mk hy79; have KA79 := Aside0.mk hA79; clear hy79 hA79; have KL79 := Aside0.mk (show 3 ≤ t156.length from by omega); replace q79 := eq_true q79
                         refine start_ (n := 14) (S := fun w' => True) (ds := []) #[false, false, false, false, false, false, false, false, false, false, false, false, false, false] (by kernel_rfl) rfl rfl trivial (fun hHeld => ?_); refine with_tabW interchange_Print.tab14 interchange_Print.bits14 (fun HT_ HW_ => ?_)
                         generalize wc.drew = w76 at HO_9 BK136 BK155 HB HR166 HR171 hHeld ⊢; refine pureA (i := 0) (N := some 70) #[true, false, false, false, false, false, false, false, false, false, false, false, false, false] rfl rfl HT_.out (by kernel_rfl) ?_; refine pureA (i := 1) (N := some 71) #[true, true, false, false, false, false, false, false, false, false, false, false, false, false] rfl rfl HT_.out (by kernel_rfl) ?_; refine pureA (i := 2) (N := some 72) #[true, true, true, false, false, false, false, false, false, false, false, false, false, false] rfl rfl HT_.out (by kernel_rfl) ?_; refine pureA (i := 5) (N := some 75) #[true, true, true, false, false, true, false, false, false, false, false, false, false, false] rfl rfl HT_.out (by kernel_rfl) ?_; refine pureA (i := 7) (N := some 77) #[true, true, true, false, false, true, false, true, false, false, false, false, false, false] rfl rfl HT_.out (by kernel_rfl) ?_; refine pureA (i := 8) (N := some 78) #[true, true, true, false, false, true, false, true, true, false, false, false, false, false] rfl rfl HT_.out (by kernel_rfl) ?_; refine one_ (i := 3) (N := some 73) #[true, true, true, true, false, true, false, true, true, false, false, false, false, false] rfl rfl (one_of HT_.out (by kernel_rfl)) (by decide) (fun K hK => ?_); refine goes_ Tryd.func18 (by kernel_rfl) rfl #[.slice Ao78 y163.length co78] (by rfl) rfl rfl (by (try simp only [List.map_toArray, List.map_cons, List.map_nil]); first | done | rfl | (simp only [List.length_drop, List.length_take]; rfl)) ?_
                         with_reducible refine (interchange_text.calls _ _ y163 t167 _ ?side1 ?side2 A68.out (by first | exact Aside0.mk (GL.below hG.out (be HB.out)) | exact hG)).mono ?_
                         (case side1 => repeat (first | exact (by repeat (first | (with_reducible exact HR166.out) | (with_reducible refine Kd.C_alloc ?_ _) | (with_reducible refine Kd.C_drewN ?_ _) | (with_reducible refine Kd.C_drew ?_) | exact HR166.out)) | (with_reducible refine Kd.C_alloc ?_ _) | (with_reducible refine Kd.C_drewN ?_ _) | (with_reducible refine Kd.C_drew ?_)))
                         (case side2 => exact HC166.out)
                         rintro e w80 ⟨rfl, hb⟩
                         refine ⟨_, rfl, ?_⟩; replace HO_9 := Aside0.mk (Kd.R_below (ku HO_9.out) hb); replace BK136 := Aside0.mk (blk_below (bu BK136.out) hb); replace BK155 := Aside0.mk (blk_below (bu BK155.out) hb); replace HR166 := Aside0.mk (Kd.C_below (by repeat (first | (with_reducible exact HR166.out) | (with_reducible refine Kd.C_alloc ?_ _) | (with_reducible refine Kd.C_drewN ?_ _) | (with_reducible refine Kd.C_drew ?_) | exact HR166.out)) hb); replace HR171 := Aside0.mk (Kd.C_below (by repeat (first | (with_reducible exact HR171.out) | (with_reducible refine Kd.C_alloc ?_ _) | (with_reducible refine Kd.C_drewN ?_ _) | (with_reducible refine Kd.C_drew ?_) | exact HR171.out)) hb); replace HB := Aside0.mk (below_step (be HB.out) hb)
                         (try clear hb)
                         (try clear hb2)
                         (try clear hk)
                         (try clear hi)
                         refine hK.out _ _ trivial (fun hHeld => ?_); clear hK K; refine norm_ (a' := ?_) ?_ ?_
                         rotate_left
                         ·show Act.put _ (some 73) _ = _
                          simp only [Act.put, List.setIfInBounds_toArray, List.set_cons_zero, List.set_cons_succ, i64_w, i32_w]
                          rfl
                         refine pureA (i := 4) (N := some 74) #[true, true, true, true, true, true, false, true, true, false, false, false, false, false] rfl rfl HT_.out (by kernel_rfl) ?_; refine pureA (i := 6) (N := some 76) #[true, true, true, true, true, true, true, true, true, false, false, false, false, false] rfl rfl HT_.out (by kernel_rfl) ?_; refine one_ (i := 9) (N := some 79) #[true, true, true, true, true, true, true, true, true, true, false, false, false, false] rfl rfl (one_of HT_.out (by kernel_rfl)) (by decide) (fun K hK => ?_); refine goes_ Tryd.func18 (by kernel_rfl) rfl #[.slice A79 y168.length c79] (by rfl) rfl rfl (by (try simp only [List.map_toArray, List.map_cons, List.map_nil]); first | done | rfl | (simp only [List.length_drop, List.length_take]; rfl)) ?_
                         with_reducible refine (interchange_text.calls _ _ y168 t172 _ ?side1 ?side2 A72.out (by first | exact Aside0.mk (GL.below hG.out (be HB.out)) | exact hG)).mono ?_
                         (case side1 => repeat (first | exact (by repeat (first | (with_reducible exact HR171.out) | (with_reducible refine Kd.C_alloc ?_ _) | (with_reducible refine Kd.C_drewN ?_ _) | (with_reducible refine Kd.C_drew ?_) | exact HR171.out)) | (with_reducible refine Kd.C_alloc ?_ _) | (with_reducible refine Kd.C_drewN ?_ _) | (with_reducible refine Kd.C_drew ?_)))
                         (case side2 => exact HC171.out)
                         rintro e w81 ⟨rfl, hb⟩
                         refine ⟨_, rfl, ?_⟩; replace HO_9 := Aside0.mk (Kd.R_below (ku HO_9.out) hb); replace BK136 := Aside0.mk (blk_below (bu BK136.out) hb); replace BK155 := Aside0.mk (blk_below (bu BK155.out) hb); replace HR166 := Aside0.mk (Kd.C_below (by repeat (first | (with_reducible exact HR166.out) | (with_reducible refine Kd.C_alloc ?_ _) | (with_reducible refine Kd.C_drewN ?_ _) | (with_reducible refine Kd.C_drew ?_) | exact HR166.out)) hb); replace HR171 := Aside0.mk (Kd.C_below (by repeat (first | (with_reducible exact HR171.out) | (with_reducible refine Kd.C_alloc ?_ _) | (with_reducible refine Kd.C_drewN ?_ _) | (with_reducible refine Kd.C_drew ?_) | exact HR171.out)) hb); replace HB := Aside0.mk (below_step (be HB.out) hb)
                         (try clear hb)
                         (try clear hb2)
                         (try clear hk)
                         (try clear hi)
                         refine hK.out _ _ trivial (fun hHeld => ?_); clear hK K; refine norm_ (a' := ?_) ?_ ?_
                         rotate_left
                         ·show Act.put _ (some 79) _ = _
                          simp only [Act.put, List.setIfInBounds_toArray, List.set_cons_zero, List.set_cons_succ, i64_w, i32_w]
                          rfl
                         refine pureA (i := 10) (N := some 80) #[true, true, true, true, true, true, true, true, true, true, true, false, false, false] rfl rfl HT_.out (by kernel_rfl) ?_; refine pureA (i := 11) (N := some 81) #[true, true, true, true, true, true, true, true, true, true, true, true, false, false] rfl rfl HT_.out (by kernel_rfl) ?_; refine pureA (i := 12) (N := some 82) #[true, true, true, true, true, true, true, true, true, true, true, true, true, false] rfl rfl HT_.out (by kernel_rfl) ?_; refine pureA (i := 13) (N := some 6) #[true, true, true, true, true, true, true, true, true, true, true, true, true, true] rfl rfl HT_.out (by kernel_rfl) ?_; refine done_ (done_of HT_.out (by kernel_rfl)) ?_
                         try go_wp2
                         go_roundg kj62
                         case measure => have := HJ1.out; have := HJ7.out; have := HK3.out; have := HJ50.out; have := HJ62.out; omega
                         case rel => exact ⟨(x5_50), (x6_3 ++ (((((⟨#[112, 108, 97, 99, 101]⟩ : ByteArray) ++ t167) ++ x10_62) ++ t172) ++ (⟨#[10]⟩ : ByteArray))), (wrap64 (x55_3 + 1)), (by first | rfl | (simp; done) | (simp [*]; done)), (by first | rfl | (simp; done) | (simp [*]; done)), (by first | rfl | (simp; done) | (simp [*]; done)), H', ⟨by have := HJ1.out; have := HJ7.out; have := HK3.out; have := HJ50.out; have := HJ62.out; omega⟩, ⟨bu (BK136.out)⟩, ⟨be HB.out⟩⟩
                        ·rw [if_neg c75] at H; exact absurd H (by simp)
                       ·rw [if_neg c74] at H; exact absurd H (by simp)
                      ·rw [if_neg c73] at H; exact absurd H (by simp)
                     ·rw [if_neg c70] at H; exact absurd H (by simp)
                    ·rw [if_neg c69] at H; exact absurd H (by simp)
                   ·rw [if_neg c67] at H; exact absurd H (by simp)
              ·rw [if_neg c49] at H; exact absurd H (by simp)
             ·rw [if_neg c48] at H; exact absurd H (by simp)
            ·rw [if_neg c47] at H; have c47b0 : decide (x55_3 < (l0_5.length : Int)) = false := decide_eq_false c47; clear c47
             by_cases c82 : x5_3 = true
             ·subst c82
              have H1 : (some (x6_3, 0)) = some (r1, r2) := by rw [if_pos rfl] at H; exact H
              clear H; have H := H1; clear H1; simp only [Option.some.injEq, Prod.mk.injEq] at H; obtain ⟨rfl, rfl⟩ := H
              go_wp2
              go_ret2
              exact ⟨by first | rfl | (simp [errW_none, errW_some] <;> rfl) | (simp [*, errW_none, errW_some] <;> rfl), be HB.out⟩
             ·replace c82 := Bool.eq_false_iff.mpr c82; subst c82
              have H1 : (some ((⟨#[]⟩ : ByteArray), 3)) = some (r1, r2) := by rw [if_neg (show ¬ (false = true) by decide)] at H; exact H
              clear H; have H := H1; clear H1; simp only [Option.some.injEq, Prod.mk.injEq] at H; obtain ⟨rfl, rfl⟩ := H
              go_wp2
              go_ret2
              exact ⟨by first | rfl | (simp [errW_none, errW_some] <;> rfl) | (simp [*, errW_none, errW_some] <;> rfl), be HB.out⟩
         ·rw [if_neg c41] at H; exact absurd H (by simp)
        ·rw [if_neg c40] at H; exact absurd H (by simp)
       ·rw [if_neg c38] at H; exact absurd H (by simp)
      ·rw [if_neg c37] at H; exact absurd H (by simp)

end Go.Proofs.YtghnjnegcdbgnaaDoor.P
namespace Go.Proofs.YtghnjnegcdbgnaaDoor.P
open Go.RowKit Go.Proofs.YtghnjnegcdbgnaaDoorW.PrintWords Go.Proofs.YtghnjnegcdbgnaaDoorW.PrintLast Go.Proofs.YtghnjnegcdbgnaaDoorW.PrintMore Go.Proofs.YtghnjnegcdbgnaaDoorW.PrintAuto
attribute [local go_sem] max2_int min2_int max_two min_two max_three min_three max_four min_four   -- for this text's walks alone
set_option linter.unusedVariables false
set_option linter.unusedSimpArgs false

--FLAGS making laid
--IMPORT Derived.Test.YtghnjnegcdbgnaaDoorGL
def strings_Cut.f (a0 : ByteArray) (a1 : ByteArray) : Option (ByteArray × ByteArray × Bool) := if a0.size < 4294967281 then some (⟨(cutL a0.data.toList a1.data.toList).1.toArray⟩, ⟨(cutL a0.data.toList a1.data.toList).2.1.toArray⟩, (cutL a0.data.toList a1.data.toList).2.2) else none
theorem strings_Cut.calls (a0 : ByteArray) (a1 : ByteArray) (r1 : ByteArray) (r2 : ByteArray) (r3 : Bool) (w : World) (h : strings_Cut.f a0 a1 = some (r1, r2, r3)) (hG : Aside0 (GL w)) :
  Calls Tryd.prog 23 #[.string a0, .string a1] w fun e w' => e = .returned (.tuple #[.string r1, .string r2, .bool r3]) ∧ Below w.heap.size w w' := by
 unfold strings_Cut.f at h
 split at h
 ·rename_i hb
  simp only [Option.some.injEq, Prod.mk.injEq] at h; obtain ⟨rfl, rfl, rfl⟩ := h; obtain ⟨m, hm⟩ := hG.out.ml; rw [cutL_eq]; refine (Tryd.strings_Cut a0 a1 m w hb hm).mono ?_
  rintro e w' ⟨rfl, n, rfl⟩
  exact ⟨rfl, pw_below_drewN (Below.refl _ _) n⟩
 ·cases h

end Go.Proofs.YtghnjnegcdbgnaaDoor.P
namespace Go.Proofs.YtghnjnegcdbgnaaDoor.P
open Go.RowKit Go.Proofs.YtghnjnegcdbgnaaDoorW.PrintWords Go.Proofs.YtghnjnegcdbgnaaDoorW.PrintLast Go.Proofs.YtghnjnegcdbgnaaDoorW.PrintMore Go.Proofs.YtghnjnegcdbgnaaDoorW.PrintAuto
attribute [local go_sem] max2_int min2_int max_two min_two max_three min_three max_four min_four   -- for this text's walks alone
set_option linter.unusedVariables false
set_option linter.unusedSimpArgs false

--FLAGS making laid
--IMPORT Derived.Test.YtghnjnegcdbgnaaDoorGL
def strings_Split.f (a0 : ByteArray) (a1 : ByteArray) : Option (List ByteArray) := if a0.size < 4294967281 ∧ 1 ≤ a1.size then some (pieces a1 a0) else none
theorem strings_Split.calls (a0 : ByteArray) (a1 : ByteArray) (r : List ByteArray) (w : World) (h : strings_Split.f a0 a1 = some r) (hG : Aside0 (GL w)) :
  Calls Tryd.prog 24 #[.string a0, .string a1] w fun e w' => ∃ v0_ : Value, e = .returned (v0_) ∧ Kd.R Kd.string 9 w' w.heap.size (fun _ => True) v0_ r ∧ Below w.heap.size w w' := by
 unfold strings_Split.f at h
 split at h
 ·rename_i hb
  obtain rfl := Option.some.inj h; obtain ⟨m, hm⟩ := hG.out.ml; refine (Tryd.strings_Split a0 a1 m w hb.1 hm hb.2).mono ?_
  rintro e w' ⟨rfl, rfl⟩
  have hl : (pieces a1 a0).length = Lib.countB a0 a1 + 1 := pieces_length a1 a0 hb.2; have ho := strs_own w (pieces a1 a0) 9 (by rw [hl]; have := Lib.count_le a0.data.toList a1.data.toList; have e : Lib.countB a0 a1 = Lib.count a0.data.toList a1.data.toList := rfl; have e2 : a0.data.toList.length = a0.size := (Lib.size_eq a0).symm; omega); rw [hl] at ho; rw [← pieces_eq a1 a0 hb.2]; exact ⟨_, rfl, ho, below_alloc (Below.refl _ _) _⟩
 ·cases h

end Go.Proofs.YtghnjnegcdbgnaaDoor.P
namespace Go.Proofs.YtghnjnegcdbgnaaDoor.P
open Go.RowKit Go.Proofs.YtghnjnegcdbgnaaDoorW.PrintWords Go.Proofs.YtghnjnegcdbgnaaDoorW.PrintLast Go.Proofs.YtghnjnegcdbgnaaDoorW.PrintMore Go.Proofs.YtghnjnegcdbgnaaDoorW.PrintAuto
attribute [local go_sem] max2_int min2_int max_two min_two max_three min_three max_four min_four   -- for this text's walks alone
set_option linter.unusedVariables false
set_option linter.unusedSimpArgs false

--FLAGS making laid
--IMPORT Derived.Test.YtghnjnegcdbgnaaDoorGL
def numL (s : List UInt8) : Int × Bool :=
 if Lib.trimPrefix s [45] = [] ∨ Lib.trimS (Lib.trimPrefix s [45]) [48, 49, 50, 51, 52, 53, 54, 55, 56, 57] ≠ [] ∨ ((Lib.trimPrefix s [45]).head? = some 48 ∧ s ≠ [48]) then (0, false)
 else match Lib.atoiAll s with
  | .ok v => (v, true)
  | _ => (1099511627776, true)
def interchange_number.f (a0 : ByteArray) : Option (Int × Bool) := if a0.size ≤ 281474976710656 then some (numL a0.data.toList) else none
set_option maxHeartbeats 4000000 in
theorem interchange_number.calls (a0 : ByteArray) (r1 : Int) (r2 : Bool) (w : World) (h : interchange_number.f a0 = some (r1, r2)) (hG : Aside0 (GL w)) :
  Calls Tryd.prog 42 #[.string a0] w fun e w' => e = .returned (.tuple #[.int .i64 r1, .bool r2]) ∧ Below w.heap.size w w' := by
 unfold interchange_number.f at h
 split at h
 ·rename_i hb
  have H := Option.some.inj h; clear h; generalize hd : Lib.trimPrefix a0.data.toList [45] = d at *
  have hdl : d.length ≤ a0.size := by rw [← hd, Lib.size_eq]; unfold Lib.trimPrefix; split <;> simp
  have hT : ∀ W : World, Calls Tryd.prog 52 #[.string a0, .string ⟨#[45]⟩] W fun e w' => e = .returned (.string ⟨d.toArray⟩) ∧ w' = W := fun W => by
   rw [← hd]; exact Tryd.strings_TrimPrefix a0 ⟨#[45]⟩ W
  have HT := Lib.hid hT; clear hT
  by_cases h1 : d = []
  ·have e : (r1, r2) = (0, false) := by rw [← H]; unfold numL; rw [hd, if_pos (.inl h1)]
   cases e; subst h1; clear H hd hdl
   go_enter Tryd.func42, Tryd.ntmps42
   go_wp2_with (go_at_call 52; refine (HT.out _).mono ?_; rintro e w' ⟨rfl, rfl⟩)
   go_ret2
   exact ⟨rfl, Below.refl _ _⟩
  ·obtain ⟨c, t, rfl⟩ : ∃ c t, d = c :: t := by cases d with
    | nil => exact absurd rfl h1
    | cons c t => exact ⟨c, t, rfl⟩
   clear h1
   have hZ : ∀ W : World, Calls Tryd.prog 53 #[.string ⟨(c :: t).toArray⟩, .string ⟨#[48, 49, 50, 51, 52, 53, 54, 55, 56, 57]⟩] W fun e w' => e = .returned (.string ⟨(Lib.trimS (c :: t) [48, 49, 50, 51, 52, 53, 54, 55, 56, 57]).toArray⟩) ∧ Below W.heap.size W w' := fun W =>
    Any.strings_Trim_laid Tryd.lays160 (by kernel_rfl) ⟨(c :: t).toArray⟩ _ W (by rw [Lib.size_mk]; omega) (by decide) (ascii_of_all (by decide))
   have HZ := Lib.hid hZ; clear hZ; generalize hz : Lib.trimS (c :: t) [48, 49, 50, 51, 52, 53, 54, 55, 56, 57] = z at *
   cases z with
   | cons z0 zt =>
    have e : (r1, r2) = (0, false) := by rw [← H]; unfold numL; rw [hd, if_pos (.inr (.inl (by rw [hz]; simp)))]
    cases e; clear H hd hdl hz
    go_enter Tryd.func42, Tryd.ntmps42
    go_wp2_with (first | (go_at_call 52; refine (HT.out _).mono ?_; rintro e w' ⟨rfl, rfl⟩) | (go_at_call 53; refine (HZ.out _).mono ?_; rintro e w2 ⟨rfl, hb2⟩))
    go_ret2
    exact ⟨rfl, hb2⟩
   | nil =>
    have hs0 : (a0.toList == [48]) = decide (a0.data.toList = [48]) := by rw [ba_toList, Bool.eq_iff_iff]; simp
    by_cases h2 : c = 48 ∧ a0.data.toList ≠ [48]
    ·have e : (r1, r2) = (0, false) := by rw [← H]; unfold numL; rw [hd, if_pos (.inr (.inr ⟨by simp [h2.1], h2.2⟩))]
     cases e; obtain ⟨rfl, h3⟩ := h2; rw [decide_eq_false h3] at hs0; clear H hd hdl hz h3
     go_enter Tryd.func42, Tryd.ntmps42
     go_wp2_with (first | (go_at_call 52; refine (HT.out _).mono ?_; rintro e w' ⟨rfl, rfl⟩) | (go_at_call 53; refine (HZ.out _).mono ?_; rintro e w2 ⟨rfl, hb2⟩))
     go_ret2
     exact ⟨rfl, hb2⟩
    ·have hno : ¬ (c :: t = [] ∨ Lib.trimS (c :: t) [48, 49, 50, 51, 52, 53, 54, 55, 56, 57] ≠ [] ∨ ((c :: t).head? = some 48 ∧ a0.data.toList ≠ [48])) := by
      rintro (h | h | ⟨h3, h4⟩)
      ·cases h
      ·exact h hz
      ·exact h2 ⟨by simpa using h3, h4⟩
     by_cases h3 : c = 48
     ·subst h3
      have h4 : a0.data.toList = [48] := Classical.byContradiction fun h => h2 ⟨rfl, h⟩
      rw [decide_eq_true h4] at hs0; clear h2 h4
      rcases hA : Lib.atoiAll a0.data.toList with v | _ | _
      ·
       have e : (r1, r2) = (v, true) := by rw [← H]; unfold numL; rw [hd, if_neg hno, hA]
       cases e; clear H hd hdl hz hno
       go_enter Tryd.func42, Tryd.ntmps42
       go_wp2_with (first | (go_at_call 52; refine (HT.out _).mono ?_; rintro e w' ⟨rfl, rfl⟩) | (go_at_call 53; refine (HZ.out _).mono ?_; rintro e w2 ⟨rfl, hb2⟩) | (go_at_call 54; refine (Tryd.strconv_Atoi_ok a0 (by omega) _ hA _).mono ?_; rintro e w3 ⟨rfl, hw3⟩; have hb3 := below_step hb2 (atoi_w hw3); clear hw3 hA))
       go_ret2
       exact ⟨rfl, hb3⟩
      ·
       have e : (r1, r2) = (1099511627776, true) := by rw [← H]; unfold numL; rw [hd, if_neg hno, hA]
       cases e; clear H hd hdl hz hno
       go_enter Tryd.func42, Tryd.ntmps42
       go_wp2_with (first | (go_at_call 52; refine (HT.out _).mono ?_; rintro e w' ⟨rfl, rfl⟩) | (go_at_call 53; refine (HZ.out _).mono ?_; rintro e w2 ⟨rfl, hb2⟩) | (go_at_call 54; obtain ⟨te, pe, hev⟩ := (GL.below hG.out hb2).es; refine (Tryd.strconv_Atoi_syntax a0 hb (fun v h => nomatch hA.symm.trans h) (fun h => nomatch hA.symm.trans h) _ _ hev (.inr ⟨te, pe, rfl⟩)).mono ?_; rintro e w3 ⟨N, rfl, _, _, hw3⟩; have hb3 := below_step hb2 hw3; clear hw3 hev hA))
       go_ret2
       exact ⟨rfl, hb3⟩
      ·
       have e : (r1, r2) = (1099511627776, true) := by rw [← H]; unfold numL; rw [hd, if_neg hno, hA]
       cases e; clear H hd hdl hz hno
       go_enter Tryd.func42, Tryd.ntmps42
       go_wp2_with (first | (go_at_call 52; refine (HT.out _).mono ?_; rintro e w' ⟨rfl, rfl⟩) | (go_at_call 53; refine (HZ.out _).mono ?_; rintro e w2 ⟨rfl, hb2⟩) | (go_at_call 54; obtain ⟨te, pe, hev⟩ := (GL.below hG.out hb2).er; refine (Tryd.strconv_Atoi_range a0 hb hA _ _ hev (.inr ⟨te, pe, rfl⟩)).mono ?_; rintro e w3 ⟨N, rfl, _, _, hw3⟩; have hb3 := below_step hb2 hw3; clear hw3 hev hA))
       go_ret2
       exact ⟨rfl, hb3⟩
     ·have hc : ((c.toNat : Int) == 48) = false := beq_eq_false_iff_ne.2 fun h => h3 (UInt8.toNat_inj.1 (by simpa using Int.ofNat_inj.1 (by simpa using h)))
      have hx : ∀ h : 0 < (⟨(c :: t).toArray⟩ : ByteArray).size, (((⟨(c :: t).toArray⟩ : ByteArray)[0]'h).toNat : Int) = (c.toNat : Int) := fun _ => rfl
      clear h2 h3 hs0
      rcases hA : Lib.atoiAll a0.data.toList with v | _ | _
      ·
       have e : (r1, r2) = (v, true) := by rw [← H]; unfold numL; rw [hd, if_neg hno, hA]
       cases e; clear H hd hdl hz hno
       go_enter Tryd.func42, Tryd.ntmps42
       go_wp2_with (first | (go_at_call 52; refine (HT.out _).mono ?_; rintro e w' ⟨rfl, rfl⟩) | (go_at_call 53; refine (HZ.out _).mono ?_; rintro e w2 ⟨rfl, hb2⟩) | (go_at_call 54; refine (Tryd.strconv_Atoi_ok a0 (by omega) _ hA _).mono ?_; rintro e w3 ⟨rfl, hw3⟩; have hb3 := below_step hb2 (atoi_w hw3); clear hw3 hA))
       go_ret2
       exact ⟨rfl, hb3⟩
      ·
       have e : (r1, r2) = (1099511627776, true) := by rw [← H]; unfold numL; rw [hd, if_neg hno, hA]
       cases e; clear H hd hdl hz hno
       go_enter Tryd.func42, Tryd.ntmps42
       go_wp2_with (first | (go_at_call 52; refine (HT.out _).mono ?_; rintro e w' ⟨rfl, rfl⟩) | (go_at_call 53; refine (HZ.out _).mono ?_; rintro e w2 ⟨rfl, hb2⟩) | (go_at_call 54; obtain ⟨te, pe, hev⟩ := (GL.below hG.out hb2).es; refine (Tryd.strconv_Atoi_syntax a0 hb (fun v h => nomatch hA.symm.trans h) (fun h => nomatch hA.symm.trans h) _ _ hev (.inr ⟨te, pe, rfl⟩)).mono ?_; rintro e w3 ⟨N, rfl, _, _, hw3⟩; have hb3 := below_step hb2 hw3; clear hw3 hev hA))
       go_ret2
       exact ⟨rfl, hb3⟩
      ·
       have e : (r1, r2) = (1099511627776, true) := by rw [← H]; unfold numL; rw [hd, if_neg hno, hA]
       cases e; clear H hd hdl hz hno
       go_enter Tryd.func42, Tryd.ntmps42
       go_wp2_with (first | (go_at_call 52; refine (HT.out _).mono ?_; rintro e w' ⟨rfl, rfl⟩) | (go_at_call 53; refine (HZ.out _).mono ?_; rintro e w2 ⟨rfl, hb2⟩) | (go_at_call 54; obtain ⟨te, pe, hev⟩ := (GL.below hG.out hb2).er; refine (Tryd.strconv_Atoi_range a0 hb hA _ _ hev (.inr ⟨te, pe, rfl⟩)).mono ?_; rintro e w3 ⟨N, rfl, _, _, hw3⟩; have hb3 := below_step hb2 hw3; clear hw3 hev hA))
       go_ret2
       exact ⟨rfl, hb3⟩
 ·cases h

end Go.Proofs.YtghnjnegcdbgnaaDoor.P
namespace Go.Proofs.YtghnjnegcdbgnaaDoor.P
open Go.RowKit Go.Proofs.YtghnjnegcdbgnaaDoorW.PrintWords Go.Proofs.YtghnjnegcdbgnaaDoorW.PrintLast Go.Proofs.YtghnjnegcdbgnaaDoorW.PrintMore Go.Proofs.YtghnjnegcdbgnaaDoorW.PrintAuto
attribute [local go_sem] max2_int min2_int max_two min_two max_three min_three max_four min_four   -- for this text's walks alone
set_option linter.unusedVariables false
set_option linter.unusedSimpArgs false

--IMPORT Derived.Test.YtghnjnegcdbgnaaDoorGL
def interchange_read.l0 : Nat → List Int → List ByteArray → Int → Int → Option (List Int × Bool)
 | 0, _, _, _, _ => none
 | k + 1, x4, x9, x10, x11 => if x11 < x10 then (if 0 ≤ x11 then (if x11 < (x9.length : Int) then ((interchange_number.f (rdOf ByteArray.empty x9 x11)).bind fun bt194 => (if bt194.2 = true then (if x4.length < 17592186044416 then (interchange_read.l0 k (x4 ++ [bt194.1]) x9 x10 (wrap64 (x11 + 1))) else (none)) else (some (([] : List Int), false)))) else (none)) else (none)) else (some (x4, true))
def interchange_read.f (k : Nat) (l0 : List ByteArray) : Option (List Int × Bool) := interchange_read.l0 k ([] : List Int) l0 (l0.length : Int) 0
theorem interchange_read.mono_l : ∀ k, (∀ y0 y1 y2 y3, LeO (interchange_read.l0 k y0 y1 y2 y3) (interchange_read.l0 (k + 1) y0 y1 y2 y3))
 | 0 => fun _ _ _ _ r h => by simp [interchange_read.l0] at h
 | k + 1 => by
  have ih0 := interchange_read.mono_l k
  ·intro y0 y1 y2 y3
   unfold interchange_read.l0
   repeat' first
   | (with_reducible exact ih0 _ _ _ _)
   | (with_reducible exact LeO.refl _)
   | (with_reducible exact LeO.none _)
   | (with_reducible refine LeO.ite ?_ ?_)
   | (with_reducible refine LeO.bind ?_ (fun _ => ?_))
   | exact ih0 _ _ _ _
   | exact LeO.none _
   | refine LeO.ite ?_ ?_
   | refine LeO.bind ?_ (fun _ => ?_)
theorem interchange_read.mono : ∀ a0 k, LeO (interchange_read.f k a0) (interchange_read.f (k + 1) a0) := by
 intro a0 k; have ih0 := interchange_read.mono_l k
 unfold interchange_read.f
 repeat' first
  | (with_reducible exact ih0 _ _ _ _)
  | (with_reducible exact LeO.refl _)
  | (with_reducible exact LeO.none _)
  | (with_reducible refine LeO.ite ?_ ?_)
  | (with_reducible refine LeO.bind ?_ (fun _ => ?_))
  | exact ih0 _ _ _ _
  | exact LeO.none _
  | refine LeO.ite ?_ ?_
  | refine LeO.bind ?_ (fun _ => ?_)
set_option maxHeartbeats 8000000 in
set_option maxRecDepth 100000 in
theorem interchange_read.calls (k : Nat) (A0 : Option Addr) (c0 : Nat) (l0 : List ByteArray) (r1 : List Int) (r2 : Bool) (w : World) (hr0 : Kd.C Kd.string w A0 l0.length l0) (hc0 : l0.length ≤ c0) (h : interchange_read.f k l0 = some (r1, r2)) (hG : Aside0 (GL w)) :
  Calls Tryd.prog 35 #[.slice A0 l0.length c0] w fun e w' => ∃ v0_ : Value, e = .returned (.tuple #[v0_, .bool r2]) ∧ Kd.R (Kd.int .i64) 3 w' w.heap.size (fun _ => True) v0_ r1 ∧ Below w.heap.size w w' := by
 have HR0 := Aside0.mk hr0; have HC0 := Aside0.mk hc0; clear hr0 hc0; have HB := Aside0.mk (Below.refl w.heap.size w); have H : (interchange_read.l0 k ([] : List Int) l0 (l0.length : Int) 0) = some (r1, r2) := h; clear h; have H' := Aside0.mk H; clear H
 go_enter Tryd.func35, Tryd.ntmps35
 go_wp2
 go_loopg [4, 11] k (fun kq v4 v11 w' => ∃ (x4_1 : List Int) (x11_1 : Int), v11 = .int .i64 x11_1 ∧ Aside0 (interchange_read.l0 kq x4_1 l0 (l0.length : Int) x11_1 = some (r1, r2)) ∧ Aside0 (kq ≤ k) ∧ Aside0 (Kd.R (Kd.int .i64) 3 w' w.heap.size (fun _ => True) v4 x4_1) ∧ Aside0 (Below w.heap.size w w'))
 case atStart => exact ⟨(([] : List Int)), (0), (by first | rfl | (simp; done) | (simp [*]; done)), H', ⟨Nat.le_refl _⟩, ⟨by first | exact Kd.R_nil _ _ _ _ _ | exact Kd.N_nil _ _ _ _ _ | exact Kd.V_nil _ _ _ _ _ | exact Kd.Q_nil _ _ _ _ _ | exact Kd.S_nil _ _ _ _ _⟩, ⟨be HB.out⟩⟩
 case round =>
  clear H'; obtain ⟨x4_1, x11_1, rfl, HA, HK1, HO_4, HB⟩ := hrel
  cases gk with
  | zero => exact absurd HA.out (by simp [interchange_read.l0])
  | succ k1 =>
   have H := HA.out; clear HA; simp only [interchange_read.l0] at H
   by_cases c2 : x11_1 < (l0.length : Int)
   ·rw [if_pos c2] at H; have c2b0 : decide (x11_1 < (l0.length : Int)) = true := decide_eq_true c2; clear c2
    by_cases c3 : 0 ≤ x11_1
    ·rw [if_pos c3] at H; have c3b0 : decide (0 ≤ x11_1) = true := decide_eq_true c3; clear c3
     by_cases c4 : x11_1 < (l0.length : Int)
     ·rw [if_pos c4] at H; have c4b0 : decide (x11_1 < (l0.length : Int)) = true := decide_eq_true c4; clear c4; replace H := Option.bind_eq_some_iff.mp H; obtain ⟨⟨t194, t195⟩, A50, H⟩ := H; replace H : (if t195 = true then (if x4_1.length < 17592186044416 then (interchange_read.l0 k1 (x4_1 ++ [t194]) l0 (l0.length : Int) (wrap64 (x11_1 + 1))) else (none)) else (some (([] : List Int), false))) = some (r1, r2) := H; have A5 := Aside0.mk A50; clear A50
      by_cases c6 : t195 = true
      ·subst c6
       have H1 : (if x4_1.length < 17592186044416 then (interchange_read.l0 k1 (x4_1 ++ [t194]) l0 (l0.length : Int) (wrap64 (x11_1 + 1))) else (none)) = some (r1, r2) := by rw [if_pos rfl] at H; exact H
       clear H; have H := H1; clear H1
       by_cases c7 : x4_1.length < 17592186044416
       ·rw [if_pos c7] at H; have LMc7 := Aside0.mk c7; clear c7; obtain ⟨y196, hy196⟩ : ∃ y_ : List Int, y_ = (x4_1 ++ [t194]) := ⟨_, rfl⟩
        replace H : (interchange_read.l0 k1 y196 l0 (l0.length : Int) (wrap64 (x11_1 + 1))) = some (r1, r2) := by first | (rw [hy196]; with_reducible exact H) | (have H2_ := (Option.bind_some _ _).symm.trans H; rw [hy196]; with_reducible exact H2_) | (have H2_ := (Option.bind_some _ _).symm.trans H; with_reducible exact H2_) | with_reducible exact H | (rw [hy196]; exact H) | exact H
        have Ny196 := Aside0.mk hy196; clear hy196; have H' := Aside0.mk H; clear H; have p193 : 0 ≤ (x11_1 : Int) := oda; have q193 : x11_1 < (l0.length : Int) := oda; obtain ⟨ad193, e193, hx193_0⟩ := Kd.at_string HR0.out x11_1 p193 q193; cases e193; replace hx193_0 := (HB.out.cell (World.block_lt_of_cell? w _ hx193_0)).trans hx193_0; replace p193 := eq_true p193; replace q193 := eq_true q193
        go_wp2_with (first | ((with_reducible refine gate_callee (f := 42) rfl ?_); refine goesA (some 17) rfl rfl Tryd.func42 (by kernel_rfl) rfl #[.string (rdOf ByteArray.empty l0 x11_1)] rfl ?_; (with_reducible refine (interchange_number.calls (rdOf ByteArray.empty l0 x11_1) t194 true _ A5.out (by first | exact Aside0.mk (GL.below hG.out (be HB.out)) | exact hG)).mono ?_); rintro e w8 ⟨rfl, hb⟩; refine ⟨_, rfl, ?_⟩; replace HO_4 := Aside0.mk (Kd.R_below (ku HO_4.out) hb); replace HB := Aside0.mk (below_step (be HB.out) hb); (try clear hb); (try clear hk)) | ((with_reducible refine gate_builtin (b := .append) (xs := #[.tmp 22, .tmp 24]) rfl ?_); at_builtin; refine Kd.R_append (Kd.int .i64) (w0 := w) w.heap.size rfl (.tmp 22) (.tmp 24) 24 3 (.int .i64 0) 8 rfl Tryd.underlying24 info3 rfl (by decide) (by omega) u4 x4_1 t194 [.int .i64 t194] (fun _ => True) (fun _ => False) rfl rfl ?aP (fun _ hk => hk.elim) ?aF ?aO ?aB ?aS ?aL ?_; (case aP => exact rfl); (case aB => exact (be HB.out)); (case aF => exact (fun _ _ => trivial)); (case aO => exact (ku HO_4.out)); (case aS => exact (below_size (be HB.out))); (case aL => have := LMc7.out; omega); intro v197 w9 ho hb hg hat; rw [← Ny196.out] at ho; have n0_ := Aside0.mk (hb); have n1_ := Aside0.mk (ho); clear HB; clear HO_4; have HB := n0_; have HO198 := n1_; clear n0_ n1_; clear ho hb hg hat))
        go_roundg k1
        case measure => have := HK1.out; omega
        case rel => exact ⟨(y196), (wrap64 (x11_1 + 1)), (by first | rfl | (simp; done) | (simp [*]; done)), H', ⟨by have := HK1.out; omega⟩, ⟨ku (HO198.out)⟩, ⟨be HB.out⟩⟩
       ·rw [if_neg c7] at H; exact absurd H (by simp)
      ·replace c6 := Bool.eq_false_iff.mpr c6; subst c6
       have H1 : (some (([] : List Int), false)) = some (r1, r2) := by rw [if_neg (show ¬ (false = true) by decide)] at H; exact H
       clear H; have H := H1; clear H1; simp only [Option.some.injEq, Prod.mk.injEq] at H; obtain ⟨rfl, rfl⟩ := H; have p193 : 0 ≤ (x11_1 : Int) := oda; have q193 : x11_1 < (l0.length : Int) := oda; obtain ⟨ad193, e193, hx193_0⟩ := Kd.at_string HR0.out x11_1 p193 q193; cases e193; replace hx193_0 := (HB.out.cell (World.block_lt_of_cell? w _ hx193_0)).trans hx193_0; replace p193 := eq_true p193; replace q193 := eq_true q193
       go_wp2_with (first | ((with_reducible refine gate_callee (f := 42) rfl ?_); refine goesA (some 17) rfl rfl Tryd.func42 (by kernel_rfl) rfl #[.string (rdOf ByteArray.empty l0 x11_1)] rfl ?_; (with_reducible refine (interchange_number.calls (rdOf ByteArray.empty l0 x11_1) t194 false _ A5.out (by first | exact Aside0.mk (GL.below hG.out (be HB.out)) | exact hG)).mono ?_); rintro e w10 ⟨rfl, hb⟩; refine ⟨_, rfl, ?_⟩; replace HO_4 := Aside0.mk (Kd.R_below (ku HO_4.out) hb); replace HB := Aside0.mk (below_step (be HB.out) hb); (try clear hb)))
       go_ret2
       exact ⟨_, by first | rfl | (simp [errW_none, errW_some] <;> rfl) | (simp [*, errW_none, errW_some] <;> rfl), by first | exact Kd.R_nil _ _ _ _ _ | exact Kd.N_nil _ _ _ _ _ | exact Kd.V_nil _ _ _ _ _ | exact Kd.Q_nil _ _ _ _ _ | exact Kd.S_nil _ _ _ _ _, be HB.out⟩
     ·rw [if_neg c4] at H; exact absurd H (by simp)
    ·rw [if_neg c3] at H; exact absurd H (by simp)
   ·rw [if_neg c2] at H; have c2b0 : decide (x11_1 < (l0.length : Int)) = false := decide_eq_false c2; clear c2; simp only [Option.some.injEq, Prod.mk.injEq] at H; obtain ⟨rfl, rfl⟩ := H
    go_wp2
    go_ret2
    exact ⟨_, by first | rfl | (simp [errW_none, errW_some] <;> rfl) | (simp [*, errW_none, errW_some] <;> rfl), ku (HO_4.out), be HB.out⟩

end Go.Proofs.YtghnjnegcdbgnaaDoor.P
namespace Go.Proofs.YtghnjnegcdbgnaaDoor.P
open Go.RowKit Go.Proofs.YtghnjnegcdbgnaaDoorW.PrintWords Go.Proofs.YtghnjnegcdbgnaaDoorW.PrintLast Go.Proofs.YtghnjnegcdbgnaaDoorW.PrintMore Go.Proofs.YtghnjnegcdbgnaaDoorW.PrintAuto
attribute [local go_sem] max2_int min2_int max_two min_two max_three min_three max_four min_four   -- for this text's walks alone
set_option linter.unusedVariables false
set_option linter.unusedSimpArgs false

--IMPORT Derived.Test.YtghnjnegcdbgnaaDoorGL
def interchange_head.j0 : Nat → List Int → Bool → Int → Int → Int → Int → List Int → List (S46) → Option (Int × Int × Int × Int × List Int × (List (S46)) × Int)
 | 0, _, _, _, _, _, _, _, _ => none
 | k + 1, x6, x26, x200000, x200001, x200002, x200003, x200004, x200005 => if x26 = true then (some (x200000, x200001, x200002, x200003, x200004, x200005, 2)) else ((interchange_plain.f).bind fun bt210 => ((interchange_within.f k x6 (([(⟨bt210.1, bt210.2⟩ : S49)] : List (S49)))).bind fun t215 => (if t215 = true then (if 0 < (x6.length : Int) then (if 1 < (x6.length : Int) then (if 2 < (x6.length : Int) then (if 3 < (x6.length : Int) then (some (rd x6 0, rd x6 1, rd x6 2, rd x6 3, x200004, x200005, 0)) else (none)) else (none)) else (none)) else (none)) else (some (x200000, x200001, x200002, x200003, x200004, x200005, 3)))))
def interchange_head.f (k : Nat) (a0_0 : Int) (a0_1 : Int) (a0_2 : Int) (a0_3 : Int) (l0_4 : List Int) (l0_5 : List (S46)) (l1 : List ByteArray) : Option (Int × Int × Int × Int × List Int × (List (S46)) × Int) := if 1 ≤ (l1.length : Int) then ((interchange_read.f k (l1.drop 1)).bind fun bt205 => (if 0 < (l1.length : Int) then (if (rdOf ByteArray.empty l1 0).toList = ([109, 97, 114, 107, 101, 114] : List UInt8) then (if bt205.2 = true then (interchange_head.j0 k bt205.1 ((bt205.1.length : Int) != 4) a0_0 a0_1 a0_2 a0_3 l0_4 l0_5) else (interchange_head.j0 k bt205.1 true a0_0 a0_1 a0_2 a0_3 l0_4 l0_5)) else (interchange_head.j0 k bt205.1 true a0_0 a0_1 a0_2 a0_3 l0_4 l0_5)) else (none))) else (none)
theorem interchange_head.mono_l : ∀ k, (∀ y0 y1 y2 y3 y4 y5 y6 y7, LeO (interchange_head.j0 k y0 y1 y2 y3 y4 y5 y6 y7) (interchange_head.j0 (k + 1) y0 y1 y2 y3 y4 y5 y6 y7))
 | 0 => fun _ _ _ _ _ _ _ _ r h => by simp [interchange_head.j0] at h
 | k + 1 => by
  have ih0 := interchange_head.mono_l k
  ·intro y0 y1 y2 y3 y4 y5 y6 y7
   unfold interchange_head.j0
   repeat' first
   | (with_reducible exact ih0 _ _ _ _ _ _ _ _)
   | (with_reducible exact interchange_read.mono _ _)
   | (with_reducible exact interchange_within.mono _ _ _)
   | (with_reducible exact LeO.refl _)
   | (with_reducible exact LeO.none _)
   | (with_reducible refine LeO.ite ?_ ?_)
   | (with_reducible refine LeO.bind ?_ (fun _ => ?_))
   | exact ih0 _ _ _ _ _ _ _ _
   | exact interchange_read.mono _ _
   | exact interchange_within.mono _ _ _
   | exact LeO.none _
   | refine LeO.ite ?_ ?_
   | refine LeO.bind ?_ (fun _ => ?_)
theorem interchange_head.mono : ∀ a0 a1 a2 a3 a4 a5 a6 k, LeO (interchange_head.f k a0 a1 a2 a3 a4 a5 a6) (interchange_head.f (k + 1) a0 a1 a2 a3 a4 a5 a6) := by
 intro a0 a1 a2 a3 a4 a5 a6 k; have ih0 := interchange_head.mono_l k
 unfold interchange_head.f
 repeat' first
  | (with_reducible exact ih0 _ _ _ _ _ _ _ _)
  | (with_reducible exact interchange_read.mono _ _)
  | (with_reducible exact interchange_within.mono _ _ _)
  | (with_reducible exact LeO.refl _)
  | (with_reducible exact LeO.none _)
  | (with_reducible refine LeO.ite ?_ ?_)
  | (with_reducible refine LeO.bind ?_ (fun _ => ?_))
  | exact ih0 _ _ _ _ _ _ _ _
  | exact interchange_read.mono _ _
  | exact interchange_within.mono _ _ _
  | exact LeO.none _
  | refine LeO.ite ?_ ?_
  | refine LeO.bind ?_ (fun _ => ?_)
def interchange_head.T6 : Bool × List (List Nat × List Nat) := (true, [([], []), ([0], [0]), ([1], [1]), ([], []), ([3], [3]), ([4], [4]), ([], []), ([6], [6]), ([7], [7]), ([], []), ([9], [9]), ([10], [10]), ([8, 11], [8, 11]), ([0, 1, 2], []), ([13, 2, 0, 1, 2], [2, 13]), ([0, 1, 2, 3, 4, 5, 13, 14], []), ([15, 5, 14, 0, 1, 2, 3, 4, 5, 13, 14], [5, 15]), ([0, 1, 2, 3, 4, 5, 6, 7, 8, 9, 10, 11, 12, 13, 14, 15, 16], []), ([17, 12, 16, 0, 1, 2, 3, 4, 5, 6, 7, 8, 9, 10, 11, 12, 13, 14, 15, 16], [12, 17])])
def interchange_head.B6 : List Nat := [0, 1, 3, 0, 8, 24, 0, 64, 192, 0, 512, 1536, 4032, 7, 8199, 24639, 57407, 131071, 262143]
theorem interchange_head.tab6 : rtab .any (opsOf Tryd.f25 6) = interchange_head.T6 := by kernel_rfl
theorem interchange_head.bits6 : waitsOk interchange_head.T6.2 interchange_head.B6 = true := by kernel_rfl
set_option maxHeartbeats 8000000 in
set_option maxRecDepth 100000 in
theorem interchange_head.calls (k : Nat) (a0_0 : Int) (a0_1 : Int) (a0_2 : Int) (a0_3 : Int) (P0_4_ : Nat → Prop) (u9000_ : Value) (l0_4 : List Int) (P0_5_ : Nat → Prop) (u9001_ : Value) (l0_5 : List (S46)) (A1 : Option Addr) (c1 : Nat) (l1 : List ByteArray) (r1 : Int) (r2 : Int) (r3 : Int) (r4 : Int) (r5 : List Int) (r6 : List (S46)) (r7 : Int) (w0 w : World) (hB : Below w0.heap.size w0 w) (ho0_4 : Kd.R (Kd.int .i64) 3 w w0.heap.size P0_4_ u9000_ l0_4) (ho0_5 : Kd.R k46 46 w w0.heap.size P0_5_ u9001_ l0_5) (hr1 : ∀ W_, Kept w W_ (fun k_ => P0_4_ k_ ∨ P0_5_ k_) → Kd.C Kd.string W_ A1 l1.length l1) (hc1 : l1.length ≤ c1) (h : interchange_head.f k a0_0 a0_1 a0_2 a0_3 l0_4 l0_5 l1 = some (r1, r2, r3, r4, r5, r6, r7)) (hG : Aside0 (GL w0)) :
  Calls Tryd.prog 25 #[.agg #[.int .i64 a0_0, .int .i64 a0_1, .int .i64 a0_2, .int .i64 a0_3, u9000_, u9001_], .slice A1 l1.length c1] w fun e w' => ∃ v4_ v5_ : Value, e = .returned (.tuple #[.agg #[.int .i64 r1, .int .i64 r2, .int .i64 r3, .int .i64 r4, v4_, v5_], .int .i64 r7]) ∧ Kd.R (Kd.int .i64) 3 w' w0.heap.size (fun k_ => ((P0_4_ k_ ∨ P0_5_ k_) ∨ w.heap.size ≤ k_)) v4_ r5 ∧ Kd.R k46 46 w' w0.heap.size (fun k_ => ((P0_4_ k_ ∨ P0_5_ k_) ∨ w.heap.size ≤ k_)) v5_ r6 ∧ Below w0.heap.size w0 w' ∧ Kept w w' (fun k_ => P0_4_ k_ ∨ P0_5_ k_) := by
 have hu27 := Tryd.underlying27; have hu23 := Tryd.underlying23; have HO0_4 := Aside0.mk (show Kd.R (Kd.int .i64) 3 w w0.heap.size (fun k_ => ((P0_4_ k_ ∨ P0_5_ k_) ∨ w.heap.size ≤ k_)) u9000_ l0_4 from Kd.R_mono ho0_4 (fun k_ hk => (.inl (.inl hk)))); have HO0_5 := Aside0.mk (show Kd.R k46 46 w w0.heap.size (fun k_ => ((P0_4_ k_ ∨ P0_5_ k_) ∨ w.heap.size ≤ k_)) u9001_ l0_5 from Kd.R_mono ho0_5 (fun k_ hk => (.inl (.inr hk)))); have HR1 := Aside0.mk hr1; have HC1 := Aside0.mk hc1; clear hr1 hc1; have HK := Aside0.mk (Kept.refl w (fun k_ => P0_4_ k_ ∨ P0_5_ k_)); have HW0 := Aside0.mk hB.size; have HB := Aside0.mk hB; clear hB; have H : (if 1 ≤ (l1.length : Int) then ((interchange_read.f k (l1.drop 1)).bind fun bt205 => (if 0 < (l1.length : Int) then (if (rdOf ByteArray.empty l1 0).toList = ([109, 97, 114, 107, 101, 114] : List UInt8) then (if bt205.2 = true then (interchange_head.j0 k bt205.1 ((bt205.1.length : Int) != 4) a0_0 a0_1 a0_2 a0_3 l0_4 l0_5) else (interchange_head.j0 k bt205.1 true a0_0 a0_1 a0_2 a0_3 l0_4 l0_5)) else (interchange_head.j0 k bt205.1 true a0_0 a0_1 a0_2 a0_3 l0_4 l0_5)) else (none))) else (none)) = some (r1, r2, r3, r4, r5, r6, r7) := h; clear h
 by_cases c3 : 1 ≤ (l1.length : Int)
 ·rw [if_pos c3] at H; have c3b0 := eq_true c3; have c3b1 : decide (1 ≤ (l1.length : Int)) = true := decide_eq_true c3; clear c3; obtain ⟨y201, hy201⟩ : ∃ y_ : List ByteArray, y_ = (l1.drop 1) := ⟨_, rfl⟩
  replace H : ((interchange_read.f k y201).bind fun bt205 => (if 0 < (l1.length : Int) then (if (rdOf ByteArray.empty l1 0).toList = ([109, 97, 114, 107, 101, 114] : List UInt8) then (if bt205.2 = true then (interchange_head.j0 k bt205.1 ((bt205.1.length : Int) != 4) a0_0 a0_1 a0_2 a0_3 l0_4 l0_5) else (interchange_head.j0 k bt205.1 true a0_0 a0_1 a0_2 a0_3 l0_4 l0_5)) else (interchange_head.j0 k bt205.1 true a0_0 a0_1 a0_2 a0_3 l0_4 l0_5)) else (none))) = some (r1, r2, r3, r4, r5, r6, r7) := by first | (rw [hy201]; with_reducible exact H) | (have H2_ := (Option.bind_some _ _).symm.trans H; rw [hy201]; with_reducible exact H2_) | (have H2_ := (Option.bind_some _ _).symm.trans H; with_reducible exact H2_) | with_reducible exact H | (rw [hy201]; exact H) | exact H
  have Ny201 := Aside0.mk hy201; clear hy201; replace H := Option.bind_eq_some_iff.mp H; obtain ⟨⟨t205, t206⟩, A40, H⟩ := H; replace H : (if 0 < (l1.length : Int) then (if (rdOf ByteArray.empty l1 0).toList = ([109, 97, 114, 107, 101, 114] : List UInt8) then (if t206 = true then (interchange_head.j0 k t205 ((t205.length : Int) != 4) a0_0 a0_1 a0_2 a0_3 l0_4 l0_5) else (interchange_head.j0 k t205 true a0_0 a0_1 a0_2 a0_3 l0_4 l0_5)) else (interchange_head.j0 k t205 true a0_0 a0_1 a0_2 a0_3 l0_4 l0_5)) else (none)) = some (r1, r2, r3, r4, r5, r6, r7) := H; have A4 := Aside0.mk A40; clear A40; have HC5 := Aside0.mk H; clear H; obtain ⟨Ao6, co6, eo6⟩ := Kd.R_slice HO0_4.out; subst eo6; obtain ⟨Ao7, co7, eo7⟩ := Kd.R_slice HO0_5.out; subst eo7
  go_enter Tryd.func25, Tryd.ntmps25
  go_upto_region 2 with (first | ((with_reducible refine gate_dst (N := 2) rfl ?_); (try (refine gate_guard (by rfl) ?_; dsimp only)); refine box_event ?hg (N := 2) ?hd (cs := #[.int .i64 a0_0, .int .i64 a0_1, .int .i64 a0_2, .int .i64 a0_3, .slice Ao6 l0_4.length co6, .slice Ao7 l0_5.length co7]) (t := 27) ?hr ?_; (case hd => rfl); (case hg => rfl); (case hr => first | (go_simp; done) | (go_simp; rfl)); intro gb199 hg w8 hbox hb; have BK199 := Aside0.mk (hbox); have GW199 := Aside0.mk ((by rw [hg]; exact (by first | exact HK.out.1 | exact (show Kept w _ (fun k_ => P0_4_ k_ ∨ P0_5_ k_) from ke HK.out).1) : w.heap.size ≤ gb199)); have GE199 := Aside0.mk ((by rw [hg]; exact (below_size (be HB.out)) : w0.heap.size ≤ gb199)); replace HO0_4 := Aside0.mk (Kd.R_below (ku HO0_4.out) hb); replace HO0_5 := Aside0.mk (Kd.R_below (ku HO0_5.out) hb); replace HK := Aside0.mk (Kept.below (S := (fun k_ => P0_4_ k_ ∨ P0_5_ k_)) (ke HK.out) hb); replace HB := Aside0.mk (below_step (be HB.out) hb); clear hb hbox hg) | ((with_reducible refine gate_dst (N := 4) rfl ?_); (try (refine gate_guard (by rfl) ?_; dsimp only)); refine box_event ?hg (N := 4) ?hd (cs := #[.int .i64 0, .int .i64 0, .int .i64 0, .int .i64 0, .slice none 0 0, .slice none 0 0]) (t := 27) ?hr ?_; (case hd => rfl); (case hg => rfl); (case hr => first | (go_simp; done) | (go_simp; rfl)); intro gb200 hg w9 hbox hb; have BK200 := Aside0.mk (hbox); have GW200 := Aside0.mk ((by rw [hg]; exact (by first | exact HK.out.1 | exact (show Kept w _ (fun k_ => P0_4_ k_ ∨ P0_5_ k_) from ke HK.out).1) : w.heap.size ≤ gb200)); have GE200 := Aside0.mk ((by rw [hg]; exact (below_size (be HB.out)) : w0.heap.size ≤ gb200)); have NB199_200 := Aside0.mk ((by rw [hg]; exact Nat.ne_of_lt (blk_lt (g := gb199) (o := .cells #[.int .i64 a0_0, .int .i64 a0_1, .int .i64 a0_2, .int .i64 a0_3, .slice Ao6 l0_4.length co6, .slice Ao7 l0_5.length co7] 27 (0, 0)) (bu BK199.out)) : gb199 ≠ gb200)); have NB200_199 := Aside0.mk ((by rw [hg]; exact Nat.ne_of_gt (blk_lt (g := gb199) (o := .cells #[.int .i64 a0_0, .int .i64 a0_1, .int .i64 a0_2, .int .i64 a0_3, .slice Ao6 l0_4.length co6, .slice Ao7 l0_5.length co7] 27 (0, 0)) (bu BK199.out)) : gb200 ≠ gb199)); replace HO0_4 := Aside0.mk (Kd.R_below (ku HO0_4.out) hb); replace HO0_5 := Aside0.mk (Kd.R_below (ku HO0_5.out) hb); replace BK199 := Aside0.mk (blk_below (bu BK199.out) hb); replace HK := Aside0.mk (Kept.below (S := (fun k_ => P0_4_ k_ ∨ P0_5_ k_)) (ke HK.out) hb); replace HB := Aside0.mk (below_step (be HB.out) hb); clear hb hbox hg; have q10 : (1 : Int) ≤ ((l1.length : Int) : Int) := oda; obtain ⟨i010, hi010, _, hsz10, _⟩ := info_parts info9; have hroom10 : l1.length ≤ c1 := HC1.out; have hC10 : Kd.C Kd.string _ A1 l1.length l1 := (Kd.C_kept_now HR1.out HK.out); have hcut10 := cut_from (P := Tryd.prog) 58 9 .i64 Tryd.underlying58 hi010 1 hsz10 A1 l1.length c1 1 (by omega) q10; have hr10 := Kd.C_drop (m := (1 : Int).toNat) (c := c1) hC10 (by omega) hroom10; obtain ⟨A10, hA10⟩ : ∃ Az_, Az_ = (if c1 = (1 : Int).toNat then A1 else (A1 : Option Addr).map (·.add ((1 : Int).toNat * 1))) := ⟨_, rfl⟩; obtain ⟨c10, hc10⟩ : ∃ cz_, cz_ = c1 - (1 : Int).toNat := ⟨_, rfl⟩; have hy10 : y201.length = l1.length - (1 : Int).toNat := (by rw [Ny201.out, List.length_drop] <;> omega); rw [show (l1).drop (1 : Int).toNat = y201 from Ny201.out.symm] at hr10; replace hr10 : Kd.C Kd.string _ A10 y201.length y201 := (by rw [hA10]; exact hr10); rw [← hy10, ← hA10, ← hc10] at hcut10; have HR204 := Aside0.mk hr10; have HC204 := Aside0.mk (show y201.length ≤ c10 from by rw [hy10, hc10]; exact Nat.sub_le_sub_right hroom10 _); clear hr10 hC10 hroom10 hi010 hsz10 hc10; have KY10 := Aside0.mk hy10; have KA10 := Aside0.mk hA10; clear hy10 hA10; have KL10 := Aside0.mk (show 1 ≤ l1.length from by omega); replace q10 := eq_true q10) | ((with_reducible refine gate_callee (f := 35) rfl ?_); refine goesA (some 11) rfl rfl Tryd.func35 (by kernel_rfl) rfl #[.slice A10 y201.length c10] rfl ?_; (with_reducible refine (interchange_read.calls k _ _ y201 t205 t206 _ ?side1 ?side2 A4.out (by first | exact Aside0.mk (GL.below hG.out (be HB.out)) | exact hG)).mono ?_); (case side1 => repeat (first | exact (by repeat (first | (with_reducible exact HR204.out) | (with_reducible refine Kd.C_alloc ?_ _) | (with_reducible refine Kd.C_drewN ?_ _) | (with_reducible refine Kd.C_drew ?_) | exact HR204.out)) | (with_reducible refine Kd.C_alloc ?_ _) | (with_reducible refine Kd.C_drewN ?_ _) | (with_reducible refine Kd.C_drew ?_))); (case side2 => exact HC204.out); rintro e w11 ⟨v207, rfl, ho0, hb⟩; refine ⟨_, rfl, ?_⟩; have HO208 := Aside0.mk (Kd.R_lower (Kd.R_new' (Kd.R_newM (M := fun k_ => ((P0_4_ k_ ∨ P0_5_ k_) ∨ w.heap.size ≤ k_)) ho0 (by first | exact HK.out.1 | exact (show Kept w _ (fun k_ => P0_4_ k_ ∨ P0_5_ k_) from ke HK.out).1) (fun k_ h_ => .inr h_)) (Kd.R_lt (ku HO0_4.out))) (below_size (be HB.out))); replace HO0_4 := Aside0.mk (Kd.R_elder' (ku HO0_4.out) (Kd.R_base ho0) hb); replace HO0_5 := Aside0.mk (Kd.R_below (ku HO0_5.out) hb); replace BK199 := Aside0.mk (blk_below (bu BK199.out) hb); replace BK200 := Aside0.mk (blk_below (bu BK200.out) hb); replace HR204 := Aside0.mk (Kd.C_below (by repeat (first | (with_reducible exact HR204.out) | (with_reducible refine Kd.C_alloc ?_ _) | (with_reducible refine Kd.C_drewN ?_ _) | (with_reducible refine Kd.C_drew ?_) | exact HR204.out)) hb); replace HK := Aside0.mk (Kept.below (S := (fun k_ => P0_4_ k_ ∨ P0_5_ k_)) (ke HK.out) hb); replace HB := Aside0.mk (below_step (be HB.out) hb); (try clear hb); (try clear ho0)))
  (try simp only [Act.put, List.setIfInBounds_toArray, List.set_cons_zero, List.set_cons_succ])
  go_cut [26] (fun v26 wc => ∃ (kq : Nat) (x26_4 : Bool), v26 = .bool x26_4 ∧ Aside0 (interchange_head.j0 kq t205 x26_4 a0_0 a0_1 a0_2 a0_3 l0_4 l0_5 = some (r1, r2, r3, r4, r5, r6, r7)) ∧ Aside0 (kq ≤ k) ∧ Aside0 (Kd.R (Kd.int .i64) 3 wc w0.heap.size (fun k_ => ((P0_4_ k_ ∨ P0_5_ k_) ∨ w.heap.size ≤ k_) ∧ some k_ ≠ ((.slice Ao6 l0_4.length co6) : Value).ownBlock) v207 t205) ∧ Aside0 (Kd.R (Kd.int .i64) 3 wc w0.heap.size (fun k_ => ((P0_4_ k_ ∨ P0_5_ k_) ∨ w.heap.size ≤ k_) ∧ some k_ ≠ (v207 : Value).ownBlock) (.slice Ao6 l0_4.length co6) l0_4) ∧ Aside0 (Kd.R k46 46 wc w0.heap.size (fun k_ => ((P0_4_ k_ ∨ P0_5_ k_) ∨ w.heap.size ≤ k_)) (.slice Ao7 l0_5.length co7) l0_5) ∧ Aside0 (wc.heap[gb199]? = some (.cells #[.int .i64 a0_0, .int .i64 a0_1, .int .i64 a0_2, .int .i64 a0_3, (.slice Ao6 l0_4.length co6), (.slice Ao7 l0_5.length co7)] 27 (0, 0))) ∧ Aside0 (wc.heap[gb200]? = some (.cells #[.int .i64 0, .int .i64 0, .int .i64 0, .int .i64 0, (.slice none 0 0), (.slice none 0 0)] 27 (0, 0))) ∧ Aside0 (Kept w wc (fun k_ => P0_4_ k_ ∨ P0_5_ k_)) ∧ Aside0 (Below w0.heap.size w0 wc))
  case first =>
   have H := HC5.out; clear HC5
   by_cases c12 : 0 < (l1.length : Int)
   ·rw [if_pos c12] at H; have c12b0 : decide (0 < (l1.length : Int)) = true := decide_eq_true c12; have c12b1 : decide (0 < l1.length) = true := decide_eq_true (by omega); clear c12
    (first | rw [c12b0] | (simp only [i64_w, i32_w]; rw [c12b0]) | skip)
    by_cases c13 : (rdOf ByteArray.empty l1 0).toList = ([109, 97, 114, 107, 101, 114] : List UInt8)
    ·rw [if_pos c13] at H; have c13b0 : ((rdOf ByteArray.empty l1 0).toList == ([109, 97, 114, 107, 101, 114] : List UInt8)) = true := beq_iff_eq.mpr c13; have c13b1 : ((rdOf ByteArray.empty l1 0).toList != ([109, 97, 114, 107, 101, 114] : List UInt8)) = false := bne_eq_false_iff_eq.mpr c13; clear c13
     by_cases c14 : t206 = true
     ·subst c14
      have H1 : (interchange_head.j0 k t205 ((t205.length : Int) != 4) a0_0 a0_1 a0_2 a0_3 l0_4 l0_5) = some (r1, r2, r3, r4, r5, r6, r7) := by rw [if_pos rfl] at H; exact H
      clear H; have H := H1; clear H1; have H' := Aside0.mk H; clear H; have p209 : 0 ≤ (0 : Int) := (by omega); have q209 : 0 < (l1.length : Int) := oda; obtain ⟨ad209, e209, hx209_0⟩ := Kd.at_string (Kd.C_kept_now HR1.out HK.out) 0 p209 q209; cases e209; have qi209 : (0 < l1.length) = True := eq_true (by omega)
      (try rw [show ((0 : Int)).toNat = 0 from rfl] at hx209_0)
      (try rw [Addr.add_zero'] at hx209_0)
      replace p209 := eq_true p209; replace q209 := eq_true q209; obtain ⟨Ao15, co15, eo15⟩ := Kd.R_slice HO208.out; subst eo15
      go_wp2
      go_meet
      case rel => exact ⟨_, (((t205.length : Int) != 4)), (by first | rfl | (simp; done) | (simp [*]; done)), H', ⟨by first | omega | exact Nat.le_refl _⟩, ⟨ku (Kd.R_mono HO208.out (fun _ hk => ⟨hk.1.1, hk.2⟩))⟩, ⟨ku (HO0_4.out)⟩, ⟨ku (HO0_5.out)⟩, ⟨bu (BK199.out)⟩, ⟨bu (BK200.out)⟩, ⟨ke HK.out⟩, ⟨be HB.out⟩⟩
     ·replace c14 := Bool.eq_false_iff.mpr c14; subst c14
      have H1 : (interchange_head.j0 k t205 true a0_0 a0_1 a0_2 a0_3 l0_4 l0_5) = some (r1, r2, r3, r4, r5, r6, r7) := by rw [if_neg (show ¬ (false = true) by decide)] at H; exact H
      clear H; have H := H1; clear H1; have H' := Aside0.mk H; clear H; have p209 : 0 ≤ (0 : Int) := (by omega); have q209 : 0 < (l1.length : Int) := oda; obtain ⟨ad209, e209, hx209_0⟩ := Kd.at_string (Kd.C_kept_now HR1.out HK.out) 0 p209 q209; cases e209; have qi209 : (0 < l1.length) = True := eq_true (by omega)
      (try rw [show ((0 : Int)).toNat = 0 from rfl] at hx209_0)
      (try rw [Addr.add_zero'] at hx209_0)
      replace p209 := eq_true p209; replace q209 := eq_true q209
      go_wp2
      go_meet
      case rel => exact ⟨_, (true), (by first | rfl | (simp; done) | (simp [*]; done)), H', ⟨by first | omega | exact Nat.le_refl _⟩, ⟨ku (Kd.R_mono HO208.out (fun _ hk => ⟨hk.1.1, hk.2⟩))⟩, ⟨ku (HO0_4.out)⟩, ⟨ku (HO0_5.out)⟩, ⟨bu (BK199.out)⟩, ⟨bu (BK200.out)⟩, ⟨ke HK.out⟩, ⟨be HB.out⟩⟩
    ·rw [if_neg c13] at H; have c13b0 : ((rdOf ByteArray.empty l1 0).toList == ([109, 97, 114, 107, 101, 114] : List UInt8)) = false := beq_eq_false_iff_ne.mpr c13; have c13b1 : ((rdOf ByteArray.empty l1 0).toList != ([109, 97, 114, 107, 101, 114] : List UInt8)) = true := bne_iff_ne.mpr c13; have H' := Aside0.mk H; clear H; have p209 : 0 ≤ (0 : Int) := (by omega); have q209 : 0 < (l1.length : Int) := oda; obtain ⟨ad209, e209, hx209_0⟩ := Kd.at_string (Kd.C_kept_now HR1.out HK.out) 0 p209 q209; cases e209; have qi209 : (0 < l1.length) = True := eq_true (by omega)
     (try rw [show ((0 : Int)).toNat = 0 from rfl] at hx209_0)
     (try rw [Addr.add_zero'] at hx209_0)
     replace p209 := eq_true p209; replace q209 := eq_true q209
     go_wp2
     go_meet
     case rel => exact ⟨_, (true), (by first | rfl | (simp; done) | (simp [*]; done)), H', ⟨by first | omega | exact Nat.le_refl _⟩, ⟨ku (Kd.R_mono HO208.out (fun _ hk => ⟨hk.1.1, hk.2⟩))⟩, ⟨ku (HO0_4.out)⟩, ⟨ku (HO0_5.out)⟩, ⟨bu (BK199.out)⟩, ⟨bu (BK200.out)⟩, ⟨ke HK.out⟩, ⟨be HB.out⟩⟩
   ·rw [if_neg c12] at H; exact absurd H (by simp)
  case rest =>
   clear HC5
   try clear c1
   try clear q1
   try clear c2
   try clear p2
   try clear q2
   try clear hx2
   try clear qi2
   try clear c3
   try clear c3b0
   try clear c3b1
   try clear c10
   try clear q10
   try clear c12
   try clear c12b0
   try clear c12b1
   try clear c13
   try clear c13b0
   try clear c13b1
   try clear c14
   try clear hx209_0
   try clear p209
   try clear q10
   try clear q209
   obtain ⟨kq, x26_4, rfl, HA, HJ4, HO_6, HO_200004, HO_200005, BK199, BK200, HK, HB⟩ := hcut
   cases kq with
   | zero => exact absurd HA.out (by simp [interchange_head.j0])
   | succ kj4 =>
    have H := HA.out; clear HA; simp only [interchange_head.j0] at H
    by_cases c16 : x26_4 = true
    ·subst c16
     have H1 : (some (a0_0, a0_1, a0_2, a0_3, l0_4, l0_5, 2)) = some (r1, r2, r3, r4, r5, r6, r7) := by rw [if_pos rfl] at H; exact H
     clear H; have H := H1; clear H1; simp only [Option.some.injEq, Prod.mk.injEq] at H; obtain ⟨rfl, rfl, rfl, rfl, rfl, rfl, rfl⟩ := H; have hnb17 := NB199_200.out; have hnc17 := NB200_199.out; have hcz18_0 := bc BK199.out 0 (.int .i64 a0_0) rfl; have hcz18_1 := bc BK199.out 1 (.int .i64 a0_1) rfl; have hcz18_2 := bc BK199.out 2 (.int .i64 a0_2) rfl; have hcz18_3 := bc BK199.out 3 (.int .i64 a0_3) rfl; have hcz18_4 := bc BK199.out 4 (.slice Ao6 l0_4.length co6) rfl; have hcz18_5 := bc BK199.out 5 (.slice Ao7 l0_5.length co7) rfl; have hfz18_0 := blk_frozen BK199.out 0; have hfz18_1 := blk_frozen BK199.out 1; have hfz18_2 := blk_frozen BK199.out 2; have hfz18_3 := blk_frozen BK199.out 3; have hfz18_4 := blk_frozen BK199.out 4; have hfz18_5 := blk_frozen BK199.out 5; have hcz19_0 := bc BK200.out 0 (.int .i64 0) rfl; have hcz19_1 := bc BK200.out 1 (.int .i64 0) rfl; have hcz19_2 := bc BK200.out 2 (.int .i64 0) rfl; have hcz19_3 := bc BK200.out 3 (.int .i64 0) rfl; have hcz19_4 := bc BK200.out 4 (.slice none 0 0) rfl; have hcz19_5 := bc BK200.out 5 (.slice none 0 0) rfl; have hfz19_0 := blk_frozen BK200.out 0; have hfz19_1 := blk_frozen BK200.out 1; have hfz19_2 := blk_frozen BK200.out 2; have hfz19_3 := blk_frozen BK200.out 3; have hfz19_4 := blk_frozen BK200.out 4; have hfz19_5 := blk_frozen BK200.out 5
     go_wp2
     refine bodyPost_ret (results_ct rfl _ _ gb200 27 #[.int .i64 a0_0, .int .i64 a0_1, .int .i64 a0_2, .int .i64 a0_3, .slice Ao6 l0_4.length co6, .slice Ao7 l0_5.length co7] (0, 0) _ rfl (by (with_reducible repeat (first | refine blk_drewN ?_ _ | refine blk_drew ?_ | refine blk_alloc ?_ _)); refine blk_put (cs := #[.int .i64 a0_0, .int .i64 a0_1, .int .i64 a0_2, .int .i64 a0_3, .slice Ao6 l0_4.length co6, .slice none 0 0]) ?_ 5 _ rfl; (with_reducible repeat (first | refine blk_drewN ?_ _ | refine blk_drew ?_ | refine blk_alloc ?_ _)); refine blk_put (cs := #[.int .i64 a0_0, .int .i64 a0_1, .int .i64 a0_2, .int .i64 a0_3, .slice none 0 0, .slice none 0 0]) ?_ 4 _ rfl; (with_reducible repeat (first | refine blk_drewN ?_ _ | refine blk_drew ?_ | refine blk_alloc ?_ _)); refine blk_put (cs := #[.int .i64 a0_0, .int .i64 a0_1, .int .i64 a0_2, .int .i64 0, .slice none 0 0, .slice none 0 0]) ?_ 3 _ rfl; (with_reducible repeat (first | refine blk_drewN ?_ _ | refine blk_drew ?_ | refine blk_alloc ?_ _)); refine blk_put (cs := #[.int .i64 a0_0, .int .i64 a0_1, .int .i64 0, .int .i64 0, .slice none 0 0, .slice none 0 0]) ?_ 2 _ rfl; (with_reducible repeat (first | refine blk_drewN ?_ _ | refine blk_drew ?_ | refine blk_alloc ?_ _)); refine blk_put (cs := #[.int .i64 a0_0, .int .i64 0, .int .i64 0, .int .i64 0, .slice none 0 0, .slice none 0 0]) ?_ 1 _ rfl; (with_reducible repeat (first | refine blk_drewN ?_ _ | refine blk_drew ?_ | refine blk_alloc ?_ _)); refine blk_put (cs := #[.int .i64 0, .int .i64 0, .int .i64 0, .int .i64 0, .slice none 0 0, .slice none 0 0]) ?_ 0 _ rfl; (with_reducible repeat (first | refine blk_drewN ?_ _ | refine blk_drew ?_ | refine blk_alloc ?_ _)); exact BK200.out) Tryd.underlying27 rfl (by kernel_rfl)) rfl ?_; exact ⟨_, _, by first | rfl | (simp [errW_none, errW_some] <;> rfl) | (simp [*, errW_none, errW_some] <;> rfl), ku (Kd.R_mono (Kd.R_far (p := ⟨gb200, 5, none⟩) (Kd.R_far (p := ⟨gb200, 4, none⟩) (Kd.R_far (p := ⟨gb200, 3, none⟩) (Kd.R_far (p := ⟨gb200, 2, none⟩) (Kd.R_far (p := ⟨gb200, 1, none⟩) (Kd.R_far (p := ⟨gb200, 0, none⟩) (Kd.R_types HO_200004.out BK200.out (by decide)) (fun _ hk => hk.2) (.int .i64 a0_0)) (fun _ hk => hk.2) (.int .i64 a0_1)) (fun _ hk => hk.2) (.int .i64 a0_2)) (fun _ hk => hk.2) (.int .i64 a0_3)) (fun _ hk => hk.2) (.slice Ao6 l0_4.length co6)) (fun _ hk => hk.2) (.slice Ao7 l0_5.length co7)) (fun _ hk => hk.1.1)), ku (Kd.R_mono (Kd.R_far (p := ⟨gb200, 5, none⟩) (Kd.R_far (p := ⟨gb200, 4, none⟩) (Kd.R_far (p := ⟨gb200, 3, none⟩) (Kd.R_far (p := ⟨gb200, 2, none⟩) (Kd.R_far (p := ⟨gb200, 1, none⟩) (Kd.R_far (p := ⟨gb200, 0, none⟩) (Kd.R_types HO_200005.out BK200.out (by decide)) (fun _ hk => hk.2) (.int .i64 a0_0)) (fun _ hk => hk.2) (.int .i64 a0_1)) (fun _ hk => hk.2) (.int .i64 a0_2)) (fun _ hk => hk.2) (.int .i64 a0_3)) (fun _ hk => hk.2) (.slice Ao6 l0_4.length co6)) (fun _ hk => hk.2) (.slice Ao7 l0_5.length co7)) (fun _ hk => hk.1)), be HB.out, ke HK.out⟩
    ·replace c16 := Bool.eq_false_iff.mpr c16; subst c16
     have H1 : ((interchange_plain.f).bind fun bt210 => ((interchange_within.f kj4 t205 (([(⟨bt210.1, bt210.2⟩ : S49)] : List (S49)))).bind fun t215 => (if t215 = true then (if 0 < (t205.length : Int) then (if 1 < (t205.length : Int) then (if 2 < (t205.length : Int) then (if 3 < (t205.length : Int) then (some (rd t205 0, rd t205 1, rd t205 2, rd t205 3, l0_4, l0_5, 0)) else (none)) else (none)) else (none)) else (none)) else (some (a0_0, a0_1, a0_2, a0_3, l0_4, l0_5, 3))))) = some (r1, r2, r3, r4, r5, r6, r7) := by rw [if_neg (show ¬ (false = true) by decide)] at H; exact H
     clear H; have H := H1; clear H1; replace H := Option.bind_eq_some_iff.mp H; obtain ⟨⟨t210, t211⟩, A200, H⟩ := H; replace H : ((interchange_within.f kj4 t205 (([(⟨t210, t211⟩ : S49)] : List (S49)))).bind fun t215 => (if t215 = true then (if 0 < (t205.length : Int) then (if 1 < (t205.length : Int) then (if 2 < (t205.length : Int) then (if 3 < (t205.length : Int) then (some (rd t205 0, rd t205 1, rd t205 2, rd t205 3, l0_4, l0_5, 0)) else (none)) else (none)) else (none)) else (none)) else (some (a0_0, a0_1, a0_2, a0_3, l0_4, l0_5, 3)))) = some (r1, r2, r3, r4, r5, r6, r7) := H; have A20 := Aside0.mk A200; clear A200; obtain ⟨y212, hy212⟩ : ∃ y_ : List (S49), y_ = (([(⟨t210, t211⟩ : S49)] : List (S49))) := ⟨_, rfl⟩
     replace H : ((interchange_within.f kj4 t205 y212).bind fun t215 => (if t215 = true then (if 0 < (t205.length : Int) then (if 1 < (t205.length : Int) then (if 2 < (t205.length : Int) then (if 3 < (t205.length : Int) then (some (rd t205 0, rd t205 1, rd t205 2, rd t205 3, l0_4, l0_5, 0)) else (none)) else (none)) else (none)) else (none)) else (some (a0_0, a0_1, a0_2, a0_3, l0_4, l0_5, 3)))) = some (r1, r2, r3, r4, r5, r6, r7) := by first | (rw [hy212]; with_reducible exact H) | (have H2_ := (Option.bind_some _ _).symm.trans H; rw [hy212]; with_reducible exact H2_) | (have H2_ := (Option.bind_some _ _).symm.trans H; with_reducible exact H2_) | with_reducible exact H | (rw [hy212]; exact H) | exact H
     have Ny212 := Aside0.mk hy212; clear hy212; replace H := Option.bind_eq_some_iff.mp H; obtain ⟨t215, A210, H⟩ := H; replace H : (if t215 = true then (if 0 < (t205.length : Int) then (if 1 < (t205.length : Int) then (if 2 < (t205.length : Int) then (if 3 < (t205.length : Int) then (some (rd t205 0, rd t205 1, rd t205 2, rd t205 3, l0_4, l0_5, 0)) else (none)) else (none)) else (none)) else (none)) else (some (a0_0, a0_1, a0_2, a0_3, l0_4, l0_5, 3))) = some (r1, r2, r3, r4, r5, r6, r7) := H; have A21 := Aside0.mk A210; clear A210
     by_cases c22 : t215 = true
     ·subst c22
      have H1 : (if 0 < (t205.length : Int) then (if 1 < (t205.length : Int) then (if 2 < (t205.length : Int) then (if 3 < (t205.length : Int) then (some (rd t205 0, rd t205 1, rd t205 2, rd t205 3, l0_4, l0_5, 0)) else (none)) else (none)) else (none)) else (none)) = some (r1, r2, r3, r4, r5, r6, r7) := by rw [if_pos rfl] at H; exact H
      clear H; have H := H1; clear H1
      by_cases c23 : 0 < (t205.length : Int)
      ·rw [if_pos c23] at H; have c23b0 : decide (0 < (t205.length : Int)) = true := decide_eq_true c23; have c23b1 : decide (0 < t205.length) = true := decide_eq_true (by omega); clear c23
       by_cases c24 : 1 < (t205.length : Int)
       ·rw [if_pos c24] at H; have c24b0 : decide (1 < (t205.length : Int)) = true := decide_eq_true c24; have c24b1 : decide (1 < t205.length) = true := decide_eq_true (by omega); clear c24
        by_cases c25 : 2 < (t205.length : Int)
        ·rw [if_pos c25] at H; have c25b0 : decide (2 < (t205.length : Int)) = true := decide_eq_true c25; have c25b1 : decide (2 < t205.length) = true := decide_eq_true (by omega); clear c25
         by_cases c26 : 3 < (t205.length : Int)
         ·rw [if_pos c26] at H; have c26b0 : decide (3 < (t205.length : Int)) = true := decide_eq_true c26; have c26b1 : decide (3 < t205.length) = true := decide_eq_true (by omega); clear c26; simp only [Option.some.injEq, Prod.mk.injEq] at H; obtain ⟨rfl, rfl, rfl, rfl, rfl, rfl, rfl⟩ := H
          try go_wp2_with (first | ((with_reducible refine gate_callee (f := 17) rfl ?_); refine goesA (some 29) rfl rfl Tryd.func17 (by kernel_rfl) rfl #[] rfl ?_; (with_reducible refine (interchange_plain.calls  t210 t211 _ A20.out).mono ?_); rintro e w27 ⟨rfl, hb⟩; refine ⟨_, rfl, ?_⟩; replace HO_6 := Aside0.mk (Kd.R_below (ku HO_6.out) hb); replace HO_200004 := Aside0.mk (Kd.R_below (ku HO_200004.out) hb); replace HO_200005 := Aside0.mk (Kd.R_below (ku HO_200005.out) hb); replace BK199 := Aside0.mk (blk_below (bu BK199.out) hb); replace BK200 := Aside0.mk (blk_below (bu BK200.out) hb); replace HK := Aside0.mk (Kept.below (S := (fun k_ => P0_4_ k_ ∨ P0_5_ k_)) (ke HK.out) hb); replace HB := Aside0.mk (below_step (be HB.out) hb); (try clear hb); (try clear hk)) | ((with_reducible refine gate_dst (N := 30) rfl ?_); (try (refine gate_guard (by rfl) ?_; dsimp only)); refine Kd.R_lit k49 _ 49 ?hg (N := 30) ?hd (xs := ([(⟨t210, t211⟩ : S49)] : List (S49))) (inner := [.int .i64 t210, .int .i64 t211]) (ok := fun _ => True) (okp := fun _ => True) ?hr ?hp (fun _ hk => hk) trivial (Below.refl _ _) (Nat.le_refl _) (by simp) ?_; (case hd => rfl); (case hg => rfl); (case hr => first | (go_simp; done) | (go_simp; rfl)); (case hp => exact (Reps.c2 (show Kd.M k49 _ _ _ (⟨t210, t211⟩ : S49) [.int .i64 t210, .int .i64 t211] from (k49_mkM _ _ _ (⟨t210, t211⟩ : S49) )) (Reps.none _ _))); intro v213 w28 ho29 hb hg_ hnew_; clear hg_ hnew_; (first | rw [← Ny212.out] at ho29 | (simp only [Int.reduceToNat] at ho29; rw [← Ny212.out] at ho29)); have HO214 := Aside0.mk (Kd.R_lower (Kd.R_newM (M := fun k_ => ((P0_4_ k_ ∨ P0_5_ k_) ∨ w.heap.size ≤ k_)) ho29 (by first | exact HK.out.1 | exact (show Kept w _ (fun k_ => P0_4_ k_ ∨ P0_5_ k_) from ke HK.out).1) (fun k_ h_ => .inr h_)) (below_size (be HB.out))); replace HO_6 := Aside0.mk (Kd.R_below (ku HO_6.out) hb); replace HO_200004 := Aside0.mk (Kd.R_below (ku HO_200004.out) hb); replace HO_200005 := Aside0.mk (Kd.R_below (ku HO_200005.out) hb); replace BK199 := Aside0.mk (blk_below (bu BK199.out) hb); replace BK200 := Aside0.mk (blk_below (bu BK200.out) hb); replace HK := Aside0.mk (Kept.below (S := (fun k_ => P0_4_ k_ ∨ P0_5_ k_)) (ke HK.out) hb); replace HB := Aside0.mk (below_step (be HB.out) hb); clear hb ho29; obtain ⟨Ao30, co30, eo30⟩ := Kd.R_slice HO_6.out; subst eo30; obtain ⟨Ao31, co31, eo31⟩ := Kd.R_slice HO214.out; subst eo31) | ((with_reducible refine gate_callee (f := 16) rfl ?_); refine goesA (some 31) rfl rfl Tryd.func16 (by kernel_rfl) rfl #[.slice Ao30 t205.length co30, .slice Ao31 y212.length co31] rfl ?_; (with_reducible refine (interchange_within.calls kj4 _ _ t205 _ _ y212 true _ ?side1 ?side2 ?side3 ?side4 A21.out).mono ?_); (case side1 => exact cu (Kd.R_reads' HO_6.out).2.2); (case side2 => exact (Kd.R_reads' HO_6.out).2.1); (case side3 => exact cu (Kd.R_reads' HO214.out).2.2); (case side4 => exact (Kd.R_reads' HO214.out).2.1); rintro e w32 ⟨rfl, hb⟩; refine ⟨_, rfl, ?_⟩; replace HO_6 := Aside0.mk (Kd.R_below (ku HO_6.out) hb); replace HO_200004 := Aside0.mk (Kd.R_below (ku HO_200004.out) hb); replace HO_200005 := Aside0.mk (Kd.R_below (ku HO_200005.out) hb); replace HO214 := Aside0.mk (Kd.R_below (ku HO214.out) hb); replace BK199 := Aside0.mk (blk_below (bu BK199.out) hb); replace BK200 := Aside0.mk (blk_below (bu BK200.out) hb); replace HK := Aside0.mk (Kept.below (S := (fun k_ => P0_4_ k_ ∨ P0_5_ k_)) (ke HK.out) hb); replace HB := Aside0.mk (below_step (be HB.out) hb); (try clear hb); (try clear hk)))
          replace HO_6 := Aside0.mk (Kd.R_drew HO_6.out); replace HO_200004 := Aside0.mk (Kd.R_drew HO_200004.out); replace HO_200005 := Aside0.mk (Kd.R_drew HO_200005.out); replace HO214 := Aside0.mk (Kd.R_drew HO214.out); replace BK199 := Aside0.mk (blk_drew BK199.out); replace BK200 := Aside0.mk (blk_drew BK200.out); replace HK := Aside0.mk (Kept.drew HK.out); replace HB := Aside0.mk (below_drew1 HB.out); have p216 : 0 ≤ (0 : Int) := (by omega); have q216 : 0 < (t205.length : Int) := oda; obtain ⟨ad216, e216, hx216_0⟩ := Kd.at_int (Kd.R_reads' HO_6.out).2.2 0 p216 q216; cases e216; have qi216 : (0 < t205.length) = True := eq_true (by omega)
          (try rw [show ((0 : Int)).toNat = 0 from rfl] at hx216_0)
          (try rw [Addr.add_zero'] at hx216_0)
          replace p216 := eq_true p216; replace q216 := eq_true q216; have p217 : 0 ≤ (1 : Int) := (by omega); have q217 : 1 < (t205.length : Int) := oda; obtain ⟨ad217, e217, hx217_0⟩ := Kd.at_int (Kd.R_reads' HO_6.out).2.2 1 p217 q217; obtain rfl : ad216 = ad217 := (by injection e217)
          (try simp only [show (1 : Int).toNat = 1 from rfl, Nat.reduceMul, Nat.reduceEqDiff, Go.Addr.add, ↓reduceIte] at hx217_0)
          have qi217 : (1 < t205.length) = True := eq_true (by omega)
          (try rw [show ((1 : Int)).toNat = 1 from rfl] at hx217_0)
          replace p217 := eq_true p217; replace q217 := eq_true q217; have p218 : 0 ≤ (2 : Int) := (by omega); have q218 : 2 < (t205.length : Int) := oda; obtain ⟨ad218, e218, hx218_0⟩ := Kd.at_int (Kd.R_reads' HO_6.out).2.2 2 p218 q218; obtain rfl : ad216 = ad218 := (by injection e218)
          (try simp only [show (2 : Int).toNat = 2 from rfl, Nat.reduceMul, Nat.reduceEqDiff, Go.Addr.add, ↓reduceIte] at hx218_0)
          have qi218 : (2 < t205.length) = True := eq_true (by omega)
          (try rw [show ((2 : Int)).toNat = 2 from rfl] at hx218_0)
          replace p218 := eq_true p218; replace q218 := eq_true q218; have p219 : 0 ≤ (3 : Int) := (by omega); have q219 : 3 < (t205.length : Int) := oda; obtain ⟨ad219, e219, hx219_0⟩ := Kd.at_int (Kd.R_reads' HO_6.out).2.2 3 p219 q219; obtain rfl : ad216 = ad219 := (by injection e219)
          (try simp only [show (3 : Int).toNat = 3 from rfl, Nat.reduceMul, Nat.reduceEqDiff, Go.Addr.add, ↓reduceIte] at hx219_0)
          have qi219 : (3 < t205.length) = True := eq_true (by omega)
          (try rw [show ((3 : Int)).toNat = 3 from rfl] at hx219_0)
          replace p219 := eq_true p219; replace q219 := eq_true q219
          refine start_ (n := 19) (S := fun w' => w'.cell? ad216 = some (.int .i64 (rd t205 0)) ∧ w'.cell? ⟨ad216.block, ad216.off + 1, none⟩ = some (.int .i64 (rd t205 1)) ∧ w'.cell? ⟨ad216.block, ad216.off + 2, none⟩ = some (.int .i64 (rd t205 2)) ∧ w'.cell? ⟨ad216.block, ad216.off + 3, none⟩ = some (.int .i64 (rd t205 3))) (ds := []) #[false, false, false, false, false, false, false, false, false, false, false, false, false, false, false, false, false, false, false] (by kernel_rfl) rfl rfl ⟨hx216_0, hx217_0, hx218_0, hx219_0⟩ (fun hHeld => ?_); refine with_tabW interchange_head.tab6 interchange_head.bits6 (fun HT_ HW_ => ?_)
          generalize w32.drew = w33 at HO_6 HO_200004 HO_200005 HO214 BK199 BK200 HK HB hx216_0 hx217_0 hx218_0 hx219_0 hHeld ⊢; refine pureA (i := 0) (N := some 34) #[true, false, false, false, false, false, false, false, false, false, false, false, false, false, false, false, false, false, false] rfl rfl HT_.out (by kernel_rfl) ?_; refine pureA (i := 1) (N := some 35) #[true, true, false, false, false, false, false, false, false, false, false, false, false, false, false, false, false, false, false] rfl rfl HT_.out (by kernel_rfl) ?_; refine pureA (i := 3) (N := some 37) #[true, true, false, true, false, false, false, false, false, false, false, false, false, false, false, false, false, false, false] rfl rfl HT_.out (by kernel_rfl) ?_; refine pureA (i := 4) (N := some 38) #[true, true, false, true, true, false, false, false, false, false, false, false, false, false, false, false, false, false, false] rfl rfl HT_.out (by kernel_rfl) ?_; refine pureA (i := 6) (N := some 40) #[true, true, false, true, true, false, true, false, false, false, false, false, false, false, false, false, false, false, false] rfl rfl HT_.out (by kernel_rfl) ?_; refine pureA (i := 7) (N := some 41) #[true, true, false, true, true, false, true, true, false, false, false, false, false, false, false, false, false, false, false] rfl rfl HT_.out (by kernel_rfl) ?_; refine pureA (i := 9) (N := some 43) #[true, true, false, true, true, false, true, true, false, true, false, false, false, false, false, false, false, false, false] rfl rfl HT_.out (by kernel_rfl) ?_; refine pureA (i := 10) (N := some 44) #[true, true, false, true, true, false, true, true, false, true, true, false, false, false, false, false, false, false, false] rfl rfl HT_.out (by kernel_rfl) ?_; refine take_ (i := 2) (N := some 36) (v := ?_) (a' := ?_) #[true, true, true, true, true, false, true, true, false, true, true, false, false, false, false, false, false, false, false] rfl rfl (take_ofW HT_.out HW_.out (by kernel_rfl)) (fun _ _ _ h => h) (Or.inl ⟨by rfl, ?_⟩) hHeld ?_ ?_
          rotate_left
          ·rintro w' ⟨s0, s1, s2, s3⟩
           go_simp
           with_reducible rfl
          rotate_left
          ·simp only [Act.put, List.setIfInBounds_toArray, List.set_cons_zero, List.set_cons_succ, i64_w, i32_w]
           rfl
          refine pureA (i := 13) (N := some 47) #[true, true, true, true, true, false, true, true, false, true, true, false, false, true, false, false, false, false, false] rfl rfl HT_.out (by kernel_rfl) ?_; refine take_ (i := 5) (N := some 39) (v := ?_) (a' := ?_) #[true, true, true, true, true, true, true, true, false, true, true, false, false, true, false, false, false, false, false] rfl rfl (take_ofW HT_.out HW_.out (by kernel_rfl)) (fun _ _ _ h => h) (Or.inl ⟨by rfl, ?_⟩) hHeld ?_ ?_
          rotate_left
          ·rintro w' ⟨s0, s1, s2, s3⟩
           go_simp
           with_reducible rfl
          rotate_left
          ·simp only [Act.put, List.setIfInBounds_toArray, List.set_cons_zero, List.set_cons_succ, i64_w, i32_w]
           rfl
          refine take_ (i := 8) (N := some 42) (v := ?_) (a' := ?_) #[true, true, true, true, true, true, true, true, true, true, true, false, false, true, false, false, false, false, false] rfl rfl (take_ofW HT_.out HW_.out (by kernel_rfl)) (fun _ _ _ h => h) (Or.inl ⟨by rfl, ?_⟩) hHeld ?_ ?_
          rotate_left
          ·rintro w' ⟨s0, s1, s2, s3⟩
           go_simp
           with_reducible rfl
          rotate_left
          ·simp only [Act.put, List.setIfInBounds_toArray, List.set_cons_zero, List.set_cons_succ, i64_w, i32_w]
           rfl
          refine take_ (i := 11) (N := some 45) (v := ?_) (a' := ?_) #[true, true, true, true, true, true, true, true, true, true, true, true, false, true, false, false, false, false, false] rfl rfl (take_ofW HT_.out HW_.out (by kernel_rfl)) (fun _ _ _ h => h) (Or.inl ⟨by rfl, ?_⟩) hHeld ?_ ?_
          rotate_left
          ·rintro w' ⟨s0, s1, s2, s3⟩
           go_simp
           with_reducible rfl
          rotate_left
          ·simp only [Act.put, List.setIfInBounds_toArray, List.set_cons_zero, List.set_cons_succ, i64_w, i32_w]
           rfl
          refine pureA (i := 12) (N := some 46) #[true, true, true, true, true, true, true, true, true, true, true, true, true, true, false, false, false, false, false] rfl rfl HT_.out (by kernel_rfl) ?_; refine one_ (i := 14) (N := none) #[true, true, true, true, true, true, true, true, true, true, true, true, true, true, true, false, false, false, false] rfl rfl (one_of HT_.out (by kernel_rfl)) (by decide) (fun K hK => ?_); have hs34 : w33.cell? ⟨gb199, 0, none⟩ = some (.int .i64 a0_0) := (blk_cell BK199.out 0).trans rfl; have hfs34 := blk_frozen BK199.out 0; have hns34_1 := NB200_199.out; have hms34_1 := NB199_200.out; refine skip_ (w1 := ?_) (by rfl) rfl ?_ ?_
          rotate_left
          ·go_simp
           rfl
          refine hK.out _ _ ⟨((cell_far (p := ⟨gb199, _, none⟩) (by first | exact Kd.own_blk (Kd.R_ne HO_6.out BK199.out (by decide)) | (rw [add_block]; exact Kd.own_blk (Kd.R_ne HO_6.out BK199.out (by decide))) | (show (Addr.add _ _).block ≠ _; rw [add_block]; exact Kd.own_blk (Kd.R_ne HO_6.out BK199.out (by decide))) | (dsimp only; exact Kd.own_blk (Kd.R_ne HO_6.out BK199.out (by decide)))) _).trans (hHeld.1)), ((cell_far (p := ⟨gb199, _, none⟩) (by first | exact Kd.own_blk (Kd.R_ne HO_6.out BK199.out (by decide)) | (rw [add_block]; exact Kd.own_blk (Kd.R_ne HO_6.out BK199.out (by decide))) | (show (Addr.add _ _).block ≠ _; rw [add_block]; exact Kd.own_blk (Kd.R_ne HO_6.out BK199.out (by decide))) | (dsimp only; exact Kd.own_blk (Kd.R_ne HO_6.out BK199.out (by decide)))) _).trans (hHeld.2.1)), ((cell_far (p := ⟨gb199, _, none⟩) (by first | exact Kd.own_blk (Kd.R_ne HO_6.out BK199.out (by decide)) | (rw [add_block]; exact Kd.own_blk (Kd.R_ne HO_6.out BK199.out (by decide))) | (show (Addr.add _ _).block ≠ _; rw [add_block]; exact Kd.own_blk (Kd.R_ne HO_6.out BK199.out (by decide))) | (dsimp only; exact Kd.own_blk (Kd.R_ne HO_6.out BK199.out (by decide)))) _).trans (hHeld.2.2.1)), ((cell_far (p := ⟨gb199, _, none⟩) (by first | exact Kd.own_blk (Kd.R_ne HO_6.out BK199.out (by decide)) | (rw [add_block]; exact Kd.own_blk (Kd.R_ne HO_6.out BK199.out (by decide))) | (show (Addr.add _ _).block ≠ _; rw [add_block]; exact Kd.own_blk (Kd.R_ne HO_6.out BK199.out (by decide))) | (dsimp only; exact Kd.own_blk (Kd.R_ne HO_6.out BK199.out (by decide)))) _).trans (hHeld.2.2.2))⟩ (fun hHeld => ?_); clear hK K; refine pureA (i := 15) (N := some 48) #[true, true, true, true, true, true, true, true, true, true, true, true, true, true, true, true, false, false, false] rfl rfl HT_.out (by kernel_rfl) ?_; refine one_ (i := 16) (N := none) #[true, true, true, true, true, true, true, true, true, true, true, true, true, true, true, true, true, false, false] rfl rfl (one_of HT_.out (by kernel_rfl)) (by decide) (fun K hK => ?_); have hs35 : w33.cell? ⟨gb199, 1, none⟩ = some (.int .i64 a0_1) := (blk_cell BK199.out 1).trans rfl; have hfs35 := blk_frozen BK199.out 1; have hns35_1 := NB200_199.out; have hms35_1 := NB199_200.out; refine skip_ (w1 := ?_) (by rfl) rfl ?_ ?_
          rotate_left
          ·go_simp
           rfl
          refine hK.out _ _ ⟨((cell_far (p := ⟨gb199, _, none⟩) (by first | exact Kd.own_blk (Kd.R_ne HO_6.out BK199.out (by decide)) | (rw [add_block]; exact Kd.own_blk (Kd.R_ne HO_6.out BK199.out (by decide))) | (show (Addr.add _ _).block ≠ _; rw [add_block]; exact Kd.own_blk (Kd.R_ne HO_6.out BK199.out (by decide))) | (dsimp only; exact Kd.own_blk (Kd.R_ne HO_6.out BK199.out (by decide)))) _).trans (hHeld.1)), ((cell_far (p := ⟨gb199, _, none⟩) (by first | exact Kd.own_blk (Kd.R_ne HO_6.out BK199.out (by decide)) | (rw [add_block]; exact Kd.own_blk (Kd.R_ne HO_6.out BK199.out (by decide))) | (show (Addr.add _ _).block ≠ _; rw [add_block]; exact Kd.own_blk (Kd.R_ne HO_6.out BK199.out (by decide))) | (dsimp only; exact Kd.own_blk (Kd.R_ne HO_6.out BK199.out (by decide)))) _).trans (hHeld.2.1)), ((cell_far (p := ⟨gb199, _, none⟩) (by first | exact Kd.own_blk (Kd.R_ne HO_6.out BK199.out (by decide)) | (rw [add_block]; exact Kd.own_blk (Kd.R_ne HO_6.out BK199.out (by decide))) | (show (Addr.add _ _).block ≠ _; rw [add_block]; exact Kd.own_blk (Kd.R_ne HO_6.out BK199.out (by decide))) | (dsimp only; exact Kd.own_blk (Kd.R_ne HO_6.out BK199.out (by decide)))) _).trans (hHeld.2.2.1)), ((cell_far (p := ⟨gb199, _, none⟩) (by first | exact Kd.own_blk (Kd.R_ne HO_6.out BK199.out (by decide)) | (rw [add_block]; exact Kd.own_blk (Kd.R_ne HO_6.out BK199.out (by decide))) | (show (Addr.add _ _).block ≠ _; rw [add_block]; exact Kd.own_blk (Kd.R_ne HO_6.out BK199.out (by decide))) | (dsimp only; exact Kd.own_blk (Kd.R_ne HO_6.out BK199.out (by decide)))) _).trans (hHeld.2.2.2))⟩ (fun hHeld => ?_); clear hK K; refine pureA (i := 17) (N := some 49) #[true, true, true, true, true, true, true, true, true, true, true, true, true, true, true, true, true, true, false] rfl rfl HT_.out (by kernel_rfl) ?_; refine one_ (i := 18) (N := none) #[true, true, true, true, true, true, true, true, true, true, true, true, true, true, true, true, true, true, true] rfl rfl (one_of HT_.out (by kernel_rfl)) (by decide) (fun K hK => ?_); have hs36 : w33.cell? ⟨gb199, 2, none⟩ = some (.int .i64 a0_2) := (blk_cell BK199.out 2).trans rfl; have hfs36 := blk_frozen BK199.out 2; have hns36_1 := NB200_199.out; have hms36_1 := NB199_200.out; have hs37 : w33.cell? ⟨gb199, 3, none⟩ = some (.int .i64 a0_3) := (blk_cell BK199.out 3).trans rfl; have hfs37 := blk_frozen BK199.out 3; have hns37_1 := NB200_199.out; have hms37_1 := NB199_200.out; refine skip_ (w1 := ?_) (by rfl) rfl ?_ ?_
          rotate_left
          ·go_simp
           rfl
          refine hK.out _ _ ⟨((cell_far (p := ⟨gb199, _, none⟩) (by first | exact Kd.own_blk (Kd.R_ne HO_6.out BK199.out (by decide)) | (rw [add_block]; exact Kd.own_blk (Kd.R_ne HO_6.out BK199.out (by decide))) | (show (Addr.add _ _).block ≠ _; rw [add_block]; exact Kd.own_blk (Kd.R_ne HO_6.out BK199.out (by decide))) | (dsimp only; exact Kd.own_blk (Kd.R_ne HO_6.out BK199.out (by decide)))) _).trans (((cell_far (p := ⟨gb199, _, none⟩) (by first | exact Kd.own_blk (Kd.R_ne HO_6.out BK199.out (by decide)) | (rw [add_block]; exact Kd.own_blk (Kd.R_ne HO_6.out BK199.out (by decide))) | (show (Addr.add _ _).block ≠ _; rw [add_block]; exact Kd.own_blk (Kd.R_ne HO_6.out BK199.out (by decide))) | (dsimp only; exact Kd.own_blk (Kd.R_ne HO_6.out BK199.out (by decide)))) _).trans (hHeld.1)))), ((cell_far (p := ⟨gb199, _, none⟩) (by first | exact Kd.own_blk (Kd.R_ne HO_6.out BK199.out (by decide)) | (rw [add_block]; exact Kd.own_blk (Kd.R_ne HO_6.out BK199.out (by decide))) | (show (Addr.add _ _).block ≠ _; rw [add_block]; exact Kd.own_blk (Kd.R_ne HO_6.out BK199.out (by decide))) | (dsimp only; exact Kd.own_blk (Kd.R_ne HO_6.out BK199.out (by decide)))) _).trans (((cell_far (p := ⟨gb199, _, none⟩) (by first | exact Kd.own_blk (Kd.R_ne HO_6.out BK199.out (by decide)) | (rw [add_block]; exact Kd.own_blk (Kd.R_ne HO_6.out BK199.out (by decide))) | (show (Addr.add _ _).block ≠ _; rw [add_block]; exact Kd.own_blk (Kd.R_ne HO_6.out BK199.out (by decide))) | (dsimp only; exact Kd.own_blk (Kd.R_ne HO_6.out BK199.out (by decide)))) _).trans (hHeld.2.1)))), ((cell_far (p := ⟨gb199, _, none⟩) (by first | exact Kd.own_blk (Kd.R_ne HO_6.out BK199.out (by decide)) | (rw [add_block]; exact Kd.own_blk (Kd.R_ne HO_6.out BK199.out (by decide))) | (show (Addr.add _ _).block ≠ _; rw [add_block]; exact Kd.own_blk (Kd.R_ne HO_6.out BK199.out (by decide))) | (dsimp only; exact Kd.own_blk (Kd.R_ne HO_6.out BK199.out (by decide)))) _).trans (((cell_far (p := ⟨gb199, _, none⟩) (by first | exact Kd.own_blk (Kd.R_ne HO_6.out BK199.out (by decide)) | (rw [add_block]; exact Kd.own_blk (Kd.R_ne HO_6.out BK199.out (by decide))) | (show (Addr.add _ _).block ≠ _; rw [add_block]; exact Kd.own_blk (Kd.R_ne HO_6.out BK199.out (by decide))) | (dsimp only; exact Kd.own_blk (Kd.R_ne HO_6.out BK199.out (by decide)))) _).trans (hHeld.2.2.1)))), ((cell_far (p := ⟨gb199, _, none⟩) (by first | exact Kd.own_blk (Kd.R_ne HO_6.out BK199.out (by decide)) | (rw [add_block]; exact Kd.own_blk (Kd.R_ne HO_6.out BK199.out (by decide))) | (show (Addr.add _ _).block ≠ _; rw [add_block]; exact Kd.own_blk (Kd.R_ne HO_6.out BK199.out (by decide))) | (dsimp only; exact Kd.own_blk (Kd.R_ne HO_6.out BK199.out (by decide)))) _).trans (((cell_far (p := ⟨gb199, _, none⟩) (by first | exact Kd.own_blk (Kd.R_ne HO_6.out BK199.out (by decide)) | (rw [add_block]; exact Kd.own_blk (Kd.R_ne HO_6.out BK199.out (by decide))) | (show (Addr.add _ _).block ≠ _; rw [add_block]; exact Kd.own_blk (Kd.R_ne HO_6.out BK199.out (by decide))) | (dsimp only; exact Kd.own_blk (Kd.R_ne HO_6.out BK199.out (by decide)))) _).trans (hHeld.2.2.2))))⟩ (fun hHeld => ?_); clear hK K; refine done_ (done_of HT_.out (by kernel_rfl)) ?_; have hnb38 := NB199_200.out; have hnc38 := NB200_199.out; have hcz39_0 := bc BK199.out 0 (.int .i64 a0_0) rfl; have hcz39_1 := bc BK199.out 1 (.int .i64 a0_1) rfl; have hcz39_2 := bc BK199.out 2 (.int .i64 a0_2) rfl; have hcz39_3 := bc BK199.out 3 (.int .i64 a0_3) rfl; have hcz39_4 := bc BK199.out 4 (.slice Ao6 l0_4.length co6) rfl; have hcz39_5 := bc BK199.out 5 (.slice Ao7 l0_5.length co7) rfl; have hfz39_0 := blk_frozen BK199.out 0; have hfz39_1 := blk_frozen BK199.out 1; have hfz39_2 := blk_frozen BK199.out 2; have hfz39_3 := blk_frozen BK199.out 3; have hfz39_4 := blk_frozen BK199.out 4; have hfz39_5 := blk_frozen BK199.out 5; have hcz40_0 := bc BK200.out 0 (.int .i64 0) rfl; have hcz40_1 := bc BK200.out 1 (.int .i64 0) rfl; have hcz40_2 := bc BK200.out 2 (.int .i64 0) rfl; have hcz40_3 := bc BK200.out 3 (.int .i64 0) rfl
          have hcz40_4 := bc BK200.out 4 (.slice none 0 0) rfl; have hcz40_5 := bc BK200.out 5 (.slice none 0 0) rfl; have hfz40_0 := blk_frozen BK200.out 0; have hfz40_1 := blk_frozen BK200.out 1; have hfz40_2 := blk_frozen BK200.out 2; have hfz40_3 := blk_frozen BK200.out 3; have hfz40_4 := blk_frozen BK200.out 4; have hfz40_5 := blk_frozen BK200.out 5
          try go_wp2
          refine bodyPost_ret (results_ct rfl _ _ gb200 27 #[.int .i64 (rd t205 0), .int .i64 (rd t205 1), .int .i64 (rd t205 2), .int .i64 (rd t205 3), .slice Ao6 l0_4.length co6, .slice Ao7 l0_5.length co7] (0, 0) _ rfl (by (with_reducible repeat (first | refine blk_drewN ?_ _ | refine blk_drew ?_ | refine blk_alloc ?_ _)); refine blk_put (cs := #[.int .i64 (rd t205 0), .int .i64 (rd t205 1), .int .i64 (rd t205 2), .int .i64 (rd t205 3), .slice Ao6 l0_4.length co6, .slice none 0 0]) ?_ 5 _ rfl; (with_reducible repeat (first | refine blk_drewN ?_ _ | refine blk_drew ?_ | refine blk_alloc ?_ _)); refine blk_put (cs := #[.int .i64 (rd t205 0), .int .i64 (rd t205 1), .int .i64 (rd t205 2), .int .i64 (rd t205 3), .slice none 0 0, .slice none 0 0]) ?_ 4 _ rfl; (with_reducible repeat (first | refine blk_drewN ?_ _ | refine blk_drew ?_ | refine blk_alloc ?_ _)); refine blk_put (cs := #[.int .i64 (rd t205 0), .int .i64 (rd t205 1), .int .i64 (rd t205 2), .int .i64 0, .slice none 0 0, .slice none 0 0]) ?_ 3 _ rfl; (with_reducible repeat (first | refine blk_drewN ?_ _ | refine blk_drew ?_ | refine blk_alloc ?_ _)); refine blk_put (cs := #[.int .i64 (rd t205 0), .int .i64 (rd t205 1), .int .i64 0, .int .i64 0, .slice none 0 0, .slice none 0 0]) ?_ 2 _ rfl; (with_reducible repeat (first | refine blk_drewN ?_ _ | refine blk_drew ?_ | refine blk_alloc ?_ _)); refine blk_put (cs := #[.int .i64 (rd t205 0), .int .i64 0, .int .i64 0, .int .i64 0, .slice none 0 0, .slice none 0 0]) ?_ 1 _ rfl; (with_reducible repeat (first | refine blk_drewN ?_ _ | refine blk_drew ?_ | refine blk_alloc ?_ _)); refine blk_put (cs := #[.int .i64 0, .int .i64 0, .int .i64 0, .int .i64 0, .slice none 0 0, .slice none 0 0]) ?_ 0 _ rfl; (with_reducible repeat (first | refine blk_drewN ?_ _ | refine blk_drew ?_ | refine blk_alloc ?_ _)); refine blk_far ?_ NB200_199.out _; (with_reducible repeat (first | refine blk_drewN ?_ _ | refine blk_drew ?_ | refine blk_alloc ?_ _)); refine blk_far ?_ NB200_199.out _; (with_reducible repeat (first | refine blk_drewN ?_ _ | refine blk_drew ?_ | refine blk_alloc ?_ _)); refine blk_far ?_ NB200_199.out _; (with_reducible repeat (first | refine blk_drewN ?_ _ | refine blk_drew ?_ | refine blk_alloc ?_ _)); refine blk_far ?_ NB200_199.out _; (with_reducible repeat (first | refine blk_drewN ?_ _ | refine blk_drew ?_ | refine blk_alloc ?_ _)); exact BK200.out) Tryd.underlying27 rfl (by kernel_rfl)) rfl ?_; exact ⟨_, _, by first | rfl | (simp [errW_none, errW_some] <;> rfl) | (simp [*, errW_none, errW_some] <;> rfl), ku (Kd.R_mono (Kd.R_far (p := ⟨gb200, 5, none⟩) (Kd.R_far (p := ⟨gb200, 4, none⟩) (Kd.R_far (p := ⟨gb200, 3, none⟩) (Kd.R_far (p := ⟨gb200, 2, none⟩) (Kd.R_far (p := ⟨gb200, 1, none⟩) (Kd.R_far (p := ⟨gb200, 0, none⟩) (Kd.R_far (p := ⟨gb199, 3, none⟩) (Kd.R_far (p := ⟨gb199, 2, none⟩) (Kd.R_far (p := ⟨gb199, 1, none⟩) (Kd.R_far (p := ⟨gb199, 0, none⟩) (Kd.R_types (Kd.R_types HO_200004.out BK199.out (by decide)) BK200.out (by decide)) (fun _ hk => hk.1.2) (.int .i64 (rd t205 0))) (fun _ hk => hk.1.2) (.int .i64 (rd t205 1))) (fun _ hk => hk.1.2) (.int .i64 (rd t205 2))) (fun _ hk => hk.1.2) (.int .i64 (rd t205 3))) (fun _ hk => hk.2) (.int .i64 (rd t205 0))) (fun _ hk => hk.2) (.int .i64 (rd t205 1))) (fun _ hk => hk.2) (.int .i64 (rd t205 2))) (fun _ hk => hk.2) (.int .i64 (rd t205 3))) (fun _ hk => hk.2) (.slice Ao6 l0_4.length co6)) (fun _ hk => hk.2) (.slice Ao7 l0_5.length co7)) (fun _ hk => hk.1.1.1)), ku (Kd.R_mono (Kd.R_far (p := ⟨gb200, 5, none⟩) (Kd.R_far (p := ⟨gb200, 4, none⟩) (Kd.R_far (p := ⟨gb200, 3, none⟩) (Kd.R_far (p := ⟨gb200, 2, none⟩) (Kd.R_far (p := ⟨gb200, 1, none⟩) (Kd.R_far (p := ⟨gb200, 0, none⟩) (Kd.R_far (p := ⟨gb199, 3, none⟩) (Kd.R_far (p := ⟨gb199, 2, none⟩) (Kd.R_far (p := ⟨gb199, 1, none⟩) (Kd.R_far (p := ⟨gb199, 0, none⟩) (Kd.R_types (Kd.R_types HO_200005.out BK199.out (by decide)) BK200.out (by decide)) (fun _ hk => hk.1.2) (.int .i64 (rd t205 0))) (fun _ hk => hk.1.2) (.int .i64 (rd t205 1))) (fun _ hk => hk.1.2) (.int .i64 (rd t205 2))) (fun _ hk => hk.1.2) (.int .i64 (rd t205 3))) (fun _ hk => hk.2) (.int .i64 (rd t205 0))) (fun _ hk => hk.2) (.int .i64 (rd t205 1))) (fun _ hk => hk.2) (.int .i64 (rd t205 2))) (fun _ hk => hk.2) (.int .i64 (rd t205 3))) (fun _ hk => hk.2) (.slice Ao6 l0_4.length co6)) (fun _ hk => hk.2) (.slice Ao7 l0_5.length co7)) (fun _ hk => hk.1.1)), be HB.out, ke HK.out⟩
         ·rw [if_neg c26] at H; exact absurd H (by simp)
        ·rw [if_neg c25] at H; exact absurd H (by simp)
       ·rw [if_neg c24] at H; exact absurd H (by simp)
      ·rw [if_neg c23] at H; exact absurd H (by simp)
     ·replace c22 := Bool.eq_false_iff.mpr c22; subst c22
      have H1 : (some (a0_0, a0_1, a0_2, a0_3, l0_4, l0_5, 3)) = some (r1, r2, r3, r4, r5, r6, r7) := by rw [if_neg (show ¬ (false = true) by decide)] at H; exact H
      clear H; have H := H1; clear H1; simp only [Option.some.injEq, Prod.mk.injEq] at H; obtain ⟨rfl, rfl, rfl, rfl, rfl, rfl, rfl⟩ := H
      go_wp2_with (first | ((with_reducible refine gate_callee (f := 17) rfl ?_); refine goesA (some 29) rfl rfl Tryd.func17 (by kernel_rfl) rfl #[] rfl ?_; (with_reducible refine (interchange_plain.calls  t210 t211 _ A20.out).mono ?_); rintro e w41 ⟨rfl, hb⟩; refine ⟨_, rfl, ?_⟩; replace HO_6 := Aside0.mk (Kd.R_below (ku HO_6.out) hb); replace HO_200004 := Aside0.mk (Kd.R_below (ku HO_200004.out) hb); replace HO_200005 := Aside0.mk (Kd.R_below (ku HO_200005.out) hb); replace BK199 := Aside0.mk (blk_below (bu BK199.out) hb); replace BK200 := Aside0.mk (blk_below (bu BK200.out) hb); replace HK := Aside0.mk (Kept.below (S := (fun k_ => P0_4_ k_ ∨ P0_5_ k_)) (ke HK.out) hb); replace HB := Aside0.mk (below_step (be HB.out) hb); (try clear hb); (try clear hk)) | ((with_reducible refine gate_dst (N := 30) rfl ?_); (try (refine gate_guard (by rfl) ?_; dsimp only)); refine Kd.R_lit k49 _ 49 ?hg (N := 30) ?hd (xs := ([(⟨t210, t211⟩ : S49)] : List (S49))) (inner := [.int .i64 t210, .int .i64 t211]) (ok := fun _ => True) (okp := fun _ => True) ?hr ?hp (fun _ hk => hk) trivial (Below.refl _ _) (Nat.le_refl _) (by simp) ?_; (case hd => rfl); (case hg => rfl); (case hr => first | (go_simp; done) | (go_simp; rfl)); (case hp => exact (Reps.c2 (show Kd.M k49 _ _ _ (⟨t210, t211⟩ : S49) [.int .i64 t210, .int .i64 t211] from (k49_mkM _ _ _ (⟨t210, t211⟩ : S49) )) (Reps.none _ _))); intro v213 w42 ho43 hb hg_ hnew_; clear hg_ hnew_; (first | rw [← Ny212.out] at ho43 | (simp only [Int.reduceToNat] at ho43; rw [← Ny212.out] at ho43)); have HO214 := Aside0.mk (Kd.R_lower (Kd.R_newM (M := fun k_ => ((P0_4_ k_ ∨ P0_5_ k_) ∨ w.heap.size ≤ k_)) ho43 (by first | exact HK.out.1 | exact (show Kept w _ (fun k_ => P0_4_ k_ ∨ P0_5_ k_) from ke HK.out).1) (fun k_ h_ => .inr h_)) (below_size (be HB.out))); replace HO_6 := Aside0.mk (Kd.R_below (ku HO_6.out) hb); replace HO_200004 := Aside0.mk (Kd.R_below (ku HO_200004.out) hb); replace HO_200005 := Aside0.mk (Kd.R_below (ku HO_200005.out) hb); replace BK199 := Aside0.mk (blk_below (bu BK199.out) hb); replace BK200 := Aside0.mk (blk_below (bu BK200.out) hb); replace HK := Aside0.mk (Kept.below (S := (fun k_ => P0_4_ k_ ∨ P0_5_ k_)) (ke HK.out) hb); replace HB := Aside0.mk (below_step (be HB.out) hb); clear hb ho43; obtain ⟨Ao44, co44, eo44⟩ := Kd.R_slice HO_6.out; subst eo44; obtain ⟨Ao45, co45, eo45⟩ := Kd.R_slice HO214.out; subst eo45) | ((with_reducible refine gate_callee (f := 16) rfl ?_); refine goesA (some 31) rfl rfl Tryd.func16 (by kernel_rfl) rfl #[.slice Ao44 t205.length co44, .slice Ao45 y212.length co45] rfl ?_; (with_reducible refine (interchange_within.calls kj4 _ _ t205 _ _ y212 false _ ?side1 ?side2 ?side3 ?side4 A21.out).mono ?_); (case side1 => exact cu (Kd.R_reads' HO_6.out).2.2); (case side2 => exact (Kd.R_reads' HO_6.out).2.1); (case side3 => exact cu (Kd.R_reads' HO214.out).2.2); (case side4 => exact (Kd.R_reads' HO214.out).2.1); rintro e w46 ⟨rfl, hb⟩; refine ⟨_, rfl, ?_⟩; replace HO_6 := Aside0.mk (Kd.R_below (ku HO_6.out) hb); replace HO_200004 := Aside0.mk (Kd.R_below (ku HO_200004.out) hb); replace HO_200005 := Aside0.mk (Kd.R_below (ku HO_200005.out) hb); replace HO214 := Aside0.mk (Kd.R_below (ku HO214.out) hb); replace BK199 := Aside0.mk (blk_below (bu BK199.out) hb); replace BK200 := Aside0.mk (blk_below (bu BK200.out) hb); replace HK := Aside0.mk (Kept.below (S := (fun k_ => P0_4_ k_ ∨ P0_5_ k_)) (ke HK.out) hb); replace HB := Aside0.mk (below_step (be HB.out) hb); (try clear hb); (try clear hk); have hnb47 := NB199_200.out; have hnc47 := NB200_199.out; have hcz48_0 := bc BK199.out 0 (.int .i64 a0_0) rfl; have hcz48_1 := bc BK199.out 1 (.int .i64 a0_1) rfl; have hcz48_2 := bc BK199.out 2 (.int .i64 a0_2) rfl; have hcz48_3 := bc BK199.out 3 (.int .i64 a0_3) rfl; have hcz48_4 := bc BK199.out 4 (.slice Ao6 l0_4.length co6) rfl; have hcz48_5 := bc BK199.out 5 (.slice Ao7 l0_5.length co7) rfl; have hfz48_0 := blk_frozen BK199.out 0; have hfz48_1 := blk_frozen BK199.out 1; have hfz48_2 := blk_frozen BK199.out 2; have hfz48_3 := blk_frozen BK199.out 3; have hfz48_4 := blk_frozen BK199.out 4; have hfz48_5 := blk_frozen BK199.out 5; have hcz49_0 := bc BK200.out 0 (.int .i64 0) rfl; have hcz49_1 := bc BK200.out 1 (.int .i64 0) rfl; have hcz49_2 := bc BK200.out 2 (.int .i64 0) rfl; have hcz49_3 := bc BK200.out 3 (.int .i64 0) rfl; have hcz49_4 := bc BK200.out 4 (.slice none 0 0) rfl; have hcz49_5 := bc BK200.out 5 (.slice none 0 0) rfl; have hfz49_0 := blk_frozen BK200.out 0; have hfz49_1 := blk_frozen BK200.out 1; have hfz49_2 := blk_frozen BK200.out 2; have hfz49_3 := blk_frozen BK200.out 3; have hfz49_4 := blk_frozen BK200.out 4; have hfz49_5 := blk_frozen BK200.out 5))
      refine bodyPost_ret (results_ct rfl _ _ gb200 27 #[.int .i64 a0_0, .int .i64 a0_1, .int .i64 a0_2, .int .i64 a0_3, .slice Ao6 l0_4.length co6, .slice Ao7 l0_5.length co7] (0, 0) _ rfl (by (with_reducible repeat (first | refine blk_drewN ?_ _ | refine blk_drew ?_ | refine blk_alloc ?_ _)); refine blk_put (cs := #[.int .i64 a0_0, .int .i64 a0_1, .int .i64 a0_2, .int .i64 a0_3, .slice Ao6 l0_4.length co6, .slice none 0 0]) ?_ 5 _ rfl; (with_reducible repeat (first | refine blk_drewN ?_ _ | refine blk_drew ?_ | refine blk_alloc ?_ _)); refine blk_put (cs := #[.int .i64 a0_0, .int .i64 a0_1, .int .i64 a0_2, .int .i64 a0_3, .slice none 0 0, .slice none 0 0]) ?_ 4 _ rfl; (with_reducible repeat (first | refine blk_drewN ?_ _ | refine blk_drew ?_ | refine blk_alloc ?_ _)); refine blk_put (cs := #[.int .i64 a0_0, .int .i64 a0_1, .int .i64 a0_2, .int .i64 0, .slice none 0 0, .slice none 0 0]) ?_ 3 _ rfl; (with_reducible repeat (first | refine blk_drewN ?_ _ | refine blk_drew ?_ | refine blk_alloc ?_ _)); refine blk_put (cs := #[.int .i64 a0_0, .int .i64 a0_1, .int .i64 0, .int .i64 0, .slice none 0 0, .slice none 0 0]) ?_ 2 _ rfl; (with_reducible repeat (first | refine blk_drewN ?_ _ | refine blk_drew ?_ | refine blk_alloc ?_ _)); refine blk_put (cs := #[.int .i64 a0_0, .int .i64 0, .int .i64 0, .int .i64 0, .slice none 0 0, .slice none 0 0]) ?_ 1 _ rfl; (with_reducible repeat (first | refine blk_drewN ?_ _ | refine blk_drew ?_ | refine blk_alloc ?_ _)); refine blk_put (cs := #[.int .i64 0, .int .i64 0, .int .i64 0, .int .i64 0, .slice none 0 0, .slice none 0 0]) ?_ 0 _ rfl; (with_reducible repeat (first | refine blk_drewN ?_ _ | refine blk_drew ?_ | refine blk_alloc ?_ _)); exact BK200.out) Tryd.underlying27 rfl (by kernel_rfl)) rfl ?_; exact ⟨_, _, by first | rfl | (simp [errW_none, errW_some] <;> rfl) | (simp [*, errW_none, errW_some] <;> rfl), ku (Kd.R_mono (Kd.R_far (p := ⟨gb200, 5, none⟩) (Kd.R_far (p := ⟨gb200, 4, none⟩) (Kd.R_far (p := ⟨gb200, 3, none⟩) (Kd.R_far (p := ⟨gb200, 2, none⟩) (Kd.R_far (p := ⟨gb200, 1, none⟩) (Kd.R_far (p := ⟨gb200, 0, none⟩) (Kd.R_types HO_200004.out BK200.out (by decide)) (fun _ hk => hk.2) (.int .i64 a0_0)) (fun _ hk => hk.2) (.int .i64 a0_1)) (fun _ hk => hk.2) (.int .i64 a0_2)) (fun _ hk => hk.2) (.int .i64 a0_3)) (fun _ hk => hk.2) (.slice Ao6 l0_4.length co6)) (fun _ hk => hk.2) (.slice Ao7 l0_5.length co7)) (fun _ hk => hk.1.1)), ku (Kd.R_mono (Kd.R_far (p := ⟨gb200, 5, none⟩) (Kd.R_far (p := ⟨gb200, 4, none⟩) (Kd.R_far (p := ⟨gb200, 3, none⟩) (Kd.R_far (p := ⟨gb200, 2, none⟩) (Kd.R_far (p := ⟨gb200, 1, none⟩) (Kd.R_far (p := ⟨gb200, 0, none⟩) (Kd.R_types HO_200005.out BK200.out (by decide)) (fun _ hk => hk.2) (.int .i64 a0_0)) (fun _ hk => hk.2) (.int .i64 a0_1)) (fun _ hk => hk.2) (.int .i64 a0_2)) (fun _ hk => hk.2) (.int .i64 a0_3)) (fun _ hk => hk.2) (.slice Ao6 l0_4.length co6)) (fun _ hk => hk.2) (.slice Ao7 l0_5.length co7)) (fun _ hk => hk.1)), be HB.out, ke HK.out⟩
 ·rw [if_neg c3] at H; exact absurd H (by simp)

end Go.Proofs.YtghnjnegcdbgnaaDoor.P
