/- The functions that the law reaches: what each computes, and that its code computes it. -/
import Derived.Test.YtdblkmnbkpphjaaGreatDoorBP0
import Derived.Test.YtdblkmnbkpphjaaGreatDoorBAuto
import Derived.Test.YtdblkmnbkpphjaaGreatDoorJ1
import Derived.Test.YtdblkmnbkpphjaaGreatDoorBGaps
import Derived.Test.YtdblkmnbkpphjaaGreatDoorBGL
import Derived.BigRegion
namespace Go.Proofs.YtdblkmnbkpphjaaGreatDoor.P
open Go.RowKit Go.Proofs.YtdblkmnbkpphjaaGreatDoorW.PrintWords Go.Proofs.YtdblkmnbkpphjaaGreatDoorW.PrintLast Go.Proofs.YtdblkmnbkpphjaaGreatDoorW.PrintMore Go.Proofs.YtdblkmnbkpphjaaGreatDoorW.PrintAuto
attribute [local go_sem] max2_int min2_int max_two min_two max_three min_three max_four min_four   -- for this text's walks alone
set_option linter.unusedVariables false
set_option linter.unusedSimpArgs false

--FLAGS making rounds
--IMPORT Derived.Test.YtdblkmnbkpphjaaGreatDoorRects
--IMPORT Derived.Test.YtdblkmnbkpphjaaGreatDoorGaps
open Go.Proofs.YtdblkmnbkpphjaaGreatDoor
def okFlaws (L : Int) (l : List S46) : Bool := decide (0 ≤ L ∧ L ≤ 1000000000000 ∧ l.length ≤ 1000000) && l.all (fun f => decide (0 ≤ f.f0 ∧ 1 ≤ f.f2 ∧ f.f0 + f.f2 ≤ L))
def flawP (f : S46) : Int × Int := (f.f0, f.f2)
def zonesL (least : Int) (zs : List (Int × Int)) : List S44 := (zs.filter fun z => decide (z.2 - z.1 ≥ least)).map fun z => ⟨z.1, z.2⟩
def endL (hi p least : Int) (out : List S44) : List S44 := if hi > p ∧ hi - p ≥ least then out ++ [⟨p, hi⟩] else out
theorem endL_zones (hi p least : Int) (out : List S44) (rest : List (Int × Int)) : endL hi p least out ++ zonesL least rest = out ++ zonesL least (if hi > p then (p, hi) :: rest else rest) := by
 unfold endL zonesL
 by_cases h : hi > p
 ·rw [if_pos h, List.filter_cons]
  by_cases h2 : hi - p ≥ least
  ·rw [if_pos ⟨h, h2⟩, if_pos (by simpa using h2)]; simp
  ·rw [if_neg (fun hh => h2 hh.2), if_neg (by simpa using h2)]
 ·rw [if_neg (fun hh => h hh.1), if_neg h]
theorem endL_length (hi p least : Int) (out : List S44) : (endL hi p least out).length ≤ out.length + 1 := by
 unfold endL
 split
 ·simp
 ·omega
def roll_Stretches.f (k : Nat) (a0_0 : ByteArray) (a0_1 : Int) (a0_2 : Int) (a0_3 : Int) (a0_4 : Int) (a0_5 : Int) (l0_6 : List S46) (a1 : Int) : Option (List S44 × Int) :=
 (roll_Check.f k a0_0 a0_1 a0_2 a0_3 a0_4 a0_5 l0_6).bind fun e => if e = 0 then (if okFlaws a0_2 l0_6 = true then some (zonesL a1 (Gaps.gaps a0_2 (l0_6.map flawP)), 0) else none) else some ([], e)
theorem roll_Stretches.mono : ∀ a0_0 a0_1 a0_2 a0_3 a0_4 a0_5 l0_6 a1 k, LeO (roll_Stretches.f k a0_0 a0_1 a0_2 a0_3 a0_4 a0_5 l0_6 a1) (roll_Stretches.f (k + 1) a0_0 a0_1 a0_2 a0_3 a0_4 a0_5 l0_6 a1) := by
 intros
 unfold roll_Stretches.f
 exact LeO.bind (roll_Check.mono _ _ _ _ _ _ _ _) fun _ => LeO.refl _
theorem C_same {w w' : World} {ad : Addr} {n : Nat} {l : List S46} (h : Kd.C k46 w (some ad) n l) (hb : w'.heap[ad.block]? = w.heap[ad.block]?) : Kd.C k46 w' (some ad) n l := by
 refine ⟨h.1, h.2.1, fun hn => ?_⟩; obtain ⟨a, e, hc⟩ := h.2.2 hn; cases e; refine ⟨ad, rfl, fun j p hj => ?_⟩; obtain ⟨c, h1, h2, h3⟩ := hc j p hj
 refine ⟨c, h1, ?_, fun i u hu => ?_⟩
 ·obtain rfl := k46_open h2; exact k46.K_of_M (k46_mkM w' 0 (fun _ => True) p)
 ·have := h3 i u hu
  unfold World.cell? at this ⊢
  rw [add_block] at this ⊢; rw [hb]; exact this
theorem heap_size_set (w : World) (g j : Nat) (v : Value) : (w.setCell ⟨g, j, none⟩ v).heap.size = w.heap.size := by simp [World.setCell]
theorem below_setS {B : Nat} {w W : World} {g j : Nat} {v : Value} (h : Below B w W) (hg : B ≤ g) : Below B w (W.setCell ⟨g, j, none⟩ v) := h.setCell hg _
set_option maxHeartbeats 2000000 in
set_option maxRecDepth 100000 in
theorem end_calls (hi p least : Int) (v : Value) (out : List S44) (ga gl go B : Nat) (w W : World)
  (hga : Aside0 (W.heap[ga]? = some (.cells #[.int .i64 p] 3 (0, 0)))) (hgl : Aside0 (W.heap[gl]? = some (.cells #[.int .i64 least] 3 (0, 0)))) (hgo : Aside0 (W.heap[go]? = some (.cells #[v] 35 (0, 0))))
  (hR : Aside0 (Kd.R k44 44 W B (fun _ => True) v out)) (HB : Aside0 (Below B w W)) (hB : B ≤ go) (hBw : B ≤ W.heap.size) (h0 : 0 ≤ p) (hp : p ≤ 1000000000000) (hh : hi ≤ 1000000000000) (hh0 : 0 ≤ hi) (hlen : out.length ≤ 10000000) :
  Calls Tryz.prog 40 #[.int .i64 hi, .pointer (some ⟨ga, 0, none⟩), .pointer (some ⟨gl, 0, none⟩), .pointer (some ⟨go, 0, none⟩)] W fun e w' => e = .returned (.tuple #[]) ∧ ∃ v', w'.heap[go]? = some (.cells #[v'] 35 (0, 0)) ∧ Kd.R k44 44 w' B (fun _ => True) v' (endL hi p least out) ∧ Below B w w' ∧ B ≤ w'.heap.size ∧ ∀ g cs t, t ≠ 44 → g ≠ go → W.heap[g]? = some (.cells cs t (0, 0)) → w'.heap[g]? = some (.cells cs t (0, 0)) := by
 have ca := bc hga.out 0 (.int .i64 p) rfl; have cl := bc hgl.out 0 (.int .i64 least) rfl
 by_cases h1 : hi > p
 ·have d1 : decide (p < hi) = true := decide_eq_true h1
  by_cases h2 : hi - p ≥ least
  ·have d2 : decide (least ≤ hi - p) = true := decide_eq_true h2; have co := bc hgo.out 0 v rfl
   have he : endL hi p least out = out ++ [⟨p, hi⟩] := by unfold endL; rw [if_pos ⟨h1, h2⟩]
   rw [he]; clear he
   go_enter Tryz.func40, Tryz.ntmps40
   go_wp2_with (first | ((with_reducible refine gate_builtin (b := .append) (xs := #[.tmp 15, .tmp 19]) rfl ?_); at_builtin; refine Kd.R_append k44 (w0 := w) B rfl (.tmp 15) (.tmp 19) 35 44 (.agg #[(.int .i64 0), (.int .i64 0)]) 16 rfl Tryz.underlying35 info44 rfl (by decide) (by omega) v out (⟨p, hi⟩ : S44) [.int .i64 p, .int .i64 hi] (fun _ => True) (fun _ => False) rfl rfl ?aP (fun _ hk => hk.elim) ?aF ?aO ?aB ?aS ?aL ?_; (case aP => exact k44_mkM _ _ _ (⟨p, hi⟩ : S44)); (case aB => exact HB.out); (case aF => exact (fun _ _ => trivial)); (case aO => exact hR.out); (case aS => exact hBw); (case aL => omega); intro v1 w1 ho hb hg hat; clear hat; have HO := Aside0.mk ho; have HB1 := Aside0.mk hb; have HK := Lib.hid (show ∀ g cs t, t ≠ 44 → W.heap[g]? = some (.cells cs t (0, 0)) → w1.heap[g]? = some (.cells cs t (0, 0)) from fun g cs t ht hgg => blk_grown hgg hg (Kd.R_ne hR.out hgg (fun e => ht e.symm))); have HGO := Aside0.mk (HK.out go _ _ (by decide) hgo.out); have y0 := blk_frozen HGO.out 0; have co1 := bc HGO.out 0 v rfl; have hs1 := Nat.le_trans hBw hg.size; clear ho hb hg co; obtain ⟨A1, c1, e1⟩ := Kd.R_slice HO.out; subst e1))
   have hl2 : (out ++ [(⟨p, hi⟩ : S44)]).length = out.length + 1 := by simp
   rw [hl2] at HO
   go_end0
   exact ⟨rfl, _, blk_put (cs := #[v]) HGO.out 0 _ rfl, Kd.R_mono (Kd.R_far (Kd.R_far1 HO.out rfl (Kd.R_ne HO.out HGO.out (by decide))) (fun _ hk => hk.2) _) (fun _ _ => trivial), below_setS HB1.out hB, by rw [heap_size_set]; exact hs1, fun g cs t ht hne hgg => blk_far (HK.out g cs t ht hgg) (by exact hne) _⟩
  ·have d2 : decide (least ≤ hi - p) = false := decide_eq_false h2
   have he : endL hi p least out = out := by unfold endL; rw [if_neg (fun hh => h2 hh.2)]
   rw [he]; clear he
   go_enter Tryz.func40, Tryz.ntmps40
   go_wp2_with fail
   go_end0
   exact ⟨rfl, v, hgo.out, hR.out, HB.out, hBw, fun _ _ _ _ _ h => h⟩
 ·have d1 : decide (p < hi) = false := decide_eq_false h1
  have he : endL hi p least out = out := by unfold endL; rw [if_neg (fun hh => h1 hh.1)]
  rw [he]; clear he
  go_enter Tryz.func40, Tryz.ntmps40
  go_wp2_with fail
  go_end0
  exact ⟨rfl, v, hgo.out, hR.out, HB.out, hBw, fun _ _ _ _ _ h => h⟩
set_option maxHeartbeats 4000000 in
set_option maxRecDepth 100000 in
theorem roll_Stretches.calls (k : Nat) (a0_0 : ByteArray) (a0_1 : Int) (a0_2 : Int) (a0_3 : Int) (a0_4 : Int) (a0_5 : Int) (A0_6 : Option Addr) (c0_6 : Nat) (l0_6 : List S46) (a1 : Int) (r1 : List S44) (r2 : Int) (w : World) (hr0_6 : Kd.C k46 w A0_6 l0_6.length l0_6) (hc0_6 : l0_6.length ≤ c0_6) (h : roll_Stretches.f k a0_0 a0_1 a0_2 a0_3 a0_4 a0_5 l0_6 a1 = some (r1, r2)) :
  Calls Tryz.prog 17 #[.agg #[.string a0_0, .int .i64 a0_1, .int .i64 a0_2, .int .i64 a0_3, .int .i64 a0_4, .int .i64 a0_5, .slice A0_6 l0_6.length c0_6], .int .i64 a1] w fun e w' => ∃ v0_ : Value, e = .returned (.tuple #[v0_, .int .i64 r2]) ∧ Kd.R k44 44 w' w.heap.size (fun _ => True) v0_ r1 ∧ Below w.heap.size w w' := by
 have HR := Aside0.mk hr0_6; have HC0 := Aside0.mk hc0_6; clear hr0_6 hc0_6
 unfold roll_Stretches.f at h
 obtain ⟨e0, He, h⟩ := Option.bind_eq_some_iff.mp h; replace h := Aside0.mk h; replace He := Aside0.mk He
 go_enter Tryz.func17, Tryz.ntmps17
 go_wp2_with fail
 have BK := Aside0.mk (blk_alloc (heap_alloc_new w (.cells #[.string a0_0, .int .i64 a0_1, .int .i64 a0_2, .int .i64 a0_3, .int .i64 a0_4, .int .i64 a0_5, .slice A0_6 l0_6.length c0_6] 26)) (.cells #[.int .i64 a1] 3)); have BL : Aside0 (((w.alloc (.cells #[.string a0_0, .int .i64 a0_1, .int .i64 a0_2, .int .i64 a0_3, .int .i64 a0_4, .int .i64 a0_5, .slice A0_6 l0_6.length c0_6] 26)).alloc (.cells #[.int .i64 a1] 3)).heap[w.heap.size + 1]? = some (.cells #[.int .i64 a1] 3 (0, 0))) := ⟨by have h_ := heap_alloc_new (w.alloc (.cells #[.string a0_0, .int .i64 a0_1, .int .i64 a0_2, .int .i64 a0_3, .int .i64 a0_4, .int .i64 a0_5, .slice A0_6 l0_6.length c0_6] 26)) (.cells #[.int .i64 a1] 3); simpa using h_⟩; have HB := Aside0.mk (below_alloc (below_alloc (Below.refl w.heap.size w) (.cells #[.string a0_0, .int .i64 a0_1, .int .i64 a0_2, .int .i64 a0_3, .int .i64 a0_4, .int .i64 a0_5, .slice A0_6 l0_6.length c0_6] 26)) (.cells #[.int .i64 a1] 3)); replace HR := Aside0.mk (Kd.C_below HR.out HB.out)
 have hz : w.heap.size + 2 ≤ ((w.alloc (.cells #[.string a0_0, .int .i64 a0_1, .int .i64 a0_2, .int .i64 a0_3, .int .i64 a0_4, .int .i64 a0_5, .slice A0_6 l0_6.length c0_6] 26)).alloc (.cells #[.int .i64 a1] 3)).heap.size := by simp
 generalize ((w.alloc (.cells #[.string a0_0, .int .i64 a0_1, .int .i64 a0_2, .int .i64 a0_3, .int .i64 a0_4, .int .i64 a0_5, .slice A0_6 l0_6.length c0_6] 26)).alloc (.cells #[.int .i64 a1] 3)) = w1 at *; refine (roll_Check.calls k _ _ _ _ _ _ A0_6 c0_6 l0_6 e0 _ HR.out HC0.out He.out).mono ?_
 rintro e_ w2 ⟨rfl, hb⟩
 replace BK := Aside0.mk (blk_below BK.out hb); replace BL := Aside0.mk (blk_below BL.out hb); replace HB := Aside0.mk (below_step HB.out hb); replace HR := Aside0.mk (Kd.C_below HR.out hb); replace hz := Nat.le_trans hz hb.size; clear hb He w1
 by_cases hz0 : e0 = 0
 ·subst hz0; replace h := h.out; rw [if_pos rfl] at h
  by_cases hok : okFlaws a0_2 l0_6 = true
  ·rw [if_pos hok] at h; simp only [Option.some.injEq, Prod.mk.injEq] at h; obtain ⟨hr1, rfl⟩ := h; have Hr1 := Aside0.mk hr1; clear hr1
   unfold okFlaws at hok
   rw [Bool.and_eq_true] at hok; obtain ⟨hok1, hok2⟩ := hok; obtain ⟨hL0, hL, hlen⟩ := of_decide_eq_true hok1; have Hok := Aside0.mk hok2; clear hok1 hok2; have b6 := bc BK.out 6 (.slice A0_6 l0_6.length c0_6) rfl
   go_wp2_with fail
   clear b6; refine (clone_rects A0_6 c0_6 l0_6 _ HR.out HC0.out hlen).mono ?_
   rintro e_ w3 ⟨v, rfl, ho, hb⟩
   have hz3 := hb.size; have HO := Aside0.mk ho; replace BK := Aside0.mk (blk_below BK.out hb); replace BL := Aside0.mk (blk_below BL.out hb); replace HB := Aside0.mk (below_step HB.out hb); clear hb ho HR; obtain ⟨A, c, rfl⟩ := Kd.R_slice HO.out
   go_wp2_with fail
   refine (sort_rects A c w2.heap.size l0_6 _ HO.out hlen).mono ?_
   rintro e_ w4 ⟨rfl, l', hp, hs, hb, hC, hT⟩
   replace BK := Aside0.mk (show w4.heap[w.heap.size]? = _ from (hb.block _ (by omega)).trans BK.out); replace BL := Aside0.mk (show w4.heap[w.heap.size + 1]? = _ from (hb.block _ (by omega)).trans BL.out); have hz4 := Nat.le_trans hz3 hb.size; replace HB := Aside0.mk (show Below w.heap.size w w4 from HB.out.trans (hb.mono (by omega))); have HC := Aside0.mk hC; have HT := Lib.hid hT; have Hp := Aside0.mk hp; have Hs := Aside0.mk hs; have hll : l0_6.length = l'.length := hp.length_eq.symm; clear hb hC hT hp hs HO hz3
   go_wp2_with fail
   have hspec : Hid ([] ++ zonesL a1 (Gaps.go a0_2 ((l'.drop 0).map flawP) 0) = r1) := by
    have hall := List.all_eq_true.1 Hok.out
    have hw : ∀ f ∈ l0_6.map flawP, 1 ≤ f.2 ∧ f.1 + f.2 ≤ a0_2 := fun f hf => by
     obtain ⟨g, hg, rfl⟩ := List.mem_map.1 hf; have := of_decide_eq_true (hall g hg); exact ⟨this.2.1, this.2.2⟩
    have := Gaps.go_any a0_2 (l0_6.map flawP) (l'.map flawP) (Hp.out.map _) (List.pairwise_map.2 Hs.out) hw; exact Lib.hid (by rw [List.drop_zero, this, Hr1.out]; rfl)
   have Hall : Hid (∀ x ∈ l', 0 ≤ x.f0 ∧ 1 ≤ x.f2 ∧ x.f0 + x.f2 ≤ a0_2) := Lib.hid fun x hx => of_decide_eq_true (List.all_eq_true.1 Hok.out x (Hp.out.mem_iff.1 hx))
   rw [hll] at hlen BK; clear Hok Hp Hs Hr1 hll HC0; have BO := Aside0.mk (blk_alloc (heap_alloc_new w4 (.cells #[.slice none 0 0] 35)) (.cells #[.int .i64 0] 3)); have BA : Aside0 (((w4.alloc (.cells #[.slice none 0 0] 35)).alloc (.cells #[.int .i64 0] 3)).heap[w4.heap.size + 1]? = some (.cells #[.int .i64 0] 3 (0, 0))) := ⟨by have h_ := heap_alloc_new (w4.alloc (.cells #[.slice none 0 0] 35)) (.cells #[.int .i64 0] 3); simpa using h_⟩; have HD := Aside0.mk (below_alloc (below_alloc (Below.refl w4.heap.size w4) (.cells #[.slice none 0 0] 35)) (.cells #[.int .i64 0] 3)); replace BK := Aside0.mk (blk_below BK.out HD.out); replace BL := Aside0.mk (blk_below BL.out HD.out); replace HC := Aside0.mk (Kd.C_below HC.out HD.out); replace HB := Aside0.mk (below_step HB.out HD.out)
   replace HT : Hid (∀ ad, A = some ad → ∃ cells, ((w4.alloc (.cells #[.slice none 0 0] 35)).alloc (.cells #[.int .i64 0] 3)).heap[ad.block]? = some (.cells cells 46 (0, 0))) := Lib.hid fun ad e => by
    obtain ⟨_, cells, hc⟩ := HT.out ad e; exact ⟨cells, blk_below hc HD.out⟩
   have hz5 : w4.heap.size + 2 ≤ ((w4.alloc (.cells #[.slice none 0 0] 35)).alloc (.cells #[.int .i64 0] 3)).heap.size := by simp
   clear HD; generalize ((w4.alloc (.cells #[.slice none 0 0] 35)).alloc (.cells #[.int .i64 0] 3)) = w5 at *; generalize w4.heap.size = go at *
   replace hz4 : w.heap.size + 2 ≤ go := by omega
   have HV : Aside0 (Kd.R k44 44 w5 w.heap.size (fun _ => True) (.slice none 0 0) []) := ⟨Kd.R_nil _ _ _ _ _⟩; clear hz
   go_loopw [26] (fun i wr => ∃ (j : Nat) (p : Int) (out : List S44) (v : Value), j ≤ l'.length ∧ i = .int .i64 (j : Int) ∧ 0 ≤ p ∧ p ≤ a0_2 ∧ out.length ≤ j ∧ Hid (out ++ zonesL a1 (Gaps.go a0_2 ((l'.drop j).map flawP) p) = r1) ∧ Aside0 (wr.heap[go]? = some (.cells #[v] 35 (0, 0))) ∧ Aside0 (wr.heap[go + 1]? = some (.cells #[.int .i64 p] 3 (0, 0))) ∧ Aside0 (wr.heap[w.heap.size]? = some (.cells #[.string a0_0, .int .i64 a0_1, .int .i64 a0_2, .int .i64 a0_3, .int .i64 a0_4, .int .i64 a0_5, .slice A0_6 l'.length c0_6] 26 (0, 0))) ∧ Aside0 (wr.heap[w.heap.size + 1]? = some (.cells #[.int .i64 a1] 3 (0, 0))) ∧ Aside0 (Kd.R k44 44 wr w.heap.size (fun _ => True) v out) ∧ Aside0 (Kd.C k46 wr A l'.length l') ∧ Hid (∀ ad, A = some ad → ∃ cells, wr.heap[ad.block]? = some (.cells cells 46 (0, 0))) ∧ Aside0 (Below w.heap.size w wr) ∧ go + 2 ≤ wr.heap.size) (fun i _ => l'.length - (intOf i).toNat)
   case atStart => exact ⟨0, 0, [], _, Nat.zero_le _, rfl, Int.le_refl _, hL0, Nat.zero_le _, hspec, BO, BA, BK, BL, HV, HC, HT, HB, hz5⟩
   case round =>
    obtain ⟨j, p, out, v, hj, rfl, hp0, hpL, hol, hspec, BO, BA, BK, BL, HV, HC, HT, HB, hzr⟩ := hrel
    by_cases hlt : j < l'.length
    ·obtain ⟨ad, hA, q0, q1, q2, q3⟩ := at_T46 HC.out (j : Int) (by omega) (by omega); subst hA
     have hltI : (j : Int) < (l'.length : Int) := by omega
     have ex : rd_T46 l' (j : Int) = l'[j] := by show l'.getD (Int.toNat (j : Int)) _ = _; rw [Int.toNat_natCast, List.getD_eq_getElem?_getD, List.getElem?_eq_getElem hlt]; rfl
     obtain ⟨hx0, hx1, hx2⟩ := Hall.out l'[j] (List.getElem_mem hlt); have hd := List.drop_eq_getElem_cons hlt; simp only [Int.toNat_natCast] at q0 q1 q2 q3; rw [ex] at q0 q1 q2 q3
     replace hspec : Hid (endL l'[j].f0 p a1 out ++ zonesL a1 (Gaps.go a0_2 ((l'.drop (j + 1)).map flawP) (max p (l'[j].f0 + l'[j].f2))) = r1) := Lib.hid (by
      have h_ := hspec.out; rw [hd, List.map_cons] at h_; rw [endL_zones, ← h_]
      congr 2)
     have hel := endL_length l'[j].f0 p a1 out; clear hd ex; generalize l'[j] = x at *
     go_wp2_with fail
     have BF := Aside0.mk (heap_alloc_new wr (.cells #[.int .i64 x.f0, .int .i64 x.f1, .int .i64 x.f2, .int .i64 x.f3] 46)); have HD := Aside0.mk (below_alloc (Below.refl wr.heap.size wr) (.cells #[.int .i64 x.f0, .int .i64 x.f1, .int .i64 x.f2, .int .i64 x.f3] 46))
     have hzf : go + 2 ≤ (wr.alloc (.cells #[.int .i64 x.f0, .int .i64 x.f1, .int .i64 x.f2, .int .i64 x.f3] 46)).heap.size := by simp; omega
     replace BO := Aside0.mk (blk_below BO.out HD.out); replace BA := Aside0.mk (blk_below BA.out HD.out); replace BK := Aside0.mk (blk_below BK.out HD.out); replace BL := Aside0.mk (blk_below BL.out HD.out); replace HV := Aside0.mk (Kd.R_below HV.out HD.out); replace HC := Aside0.mk (Kd.C_below HC.out HD.out); replace HB := Aside0.mk (below_step HB.out HD.out); replace HT := Lib.hid (show ∃ cells, (wr.alloc (.cells #[.int .i64 x.f0, .int .i64 x.f1, .int .i64 x.f2, .int .i64 x.f3] 46)).heap[ad.block]? = some (.cells cells 46 (0, 0)) from by obtain ⟨cells, hc⟩ := HT.out ad rfl; exact ⟨cells, blk_below hc HD.out⟩); have hgf : go + 2 ≤ wr.heap.size := hzr; clear q0 q1 q2 q3 HD; refine (end_calls x.f0 p a1 v out (go + 1) (w.heap.size + 1) go w.heap.size w _ BA BL BO HV HB (by omega) (by omega) hp0 (by omega) (by omega) hx0 (by omega)).mono ?_
     rintro e_ w6 ⟨rfl, v', hgo', hv', hb', hs', hk'⟩
     obtain ⟨cells, hcl⟩ := HT.out; have hcl6 := hk' _ _ _ (by decide) (blk_ne hcl BO.out (by decide)) hcl; have HC6 := Aside0.mk (C_same HC.out (hcl6.trans hcl.symm))
     have HT6 : Hid (∀ ad', some ad = some ad' → ∃ cells, w6.heap[ad'.block]? = some (.cells cells 46 (0, 0))) := Lib.hid fun ad' e => by cases e; exact ⟨cells, hcl6⟩
     have BA6 := Aside0.mk (hk' _ _ _ (by decide) (by omega) BA.out); have BK6 := Aside0.mk (hk' _ _ _ (by decide) (by omega) BK.out); have BL6 := Aside0.mk (hk' _ _ _ (by decide) (by omega) BL.out); have BF6 := Aside0.mk (hk' _ _ _ (by decide) (by omega) BF.out); replace BO := Aside0.mk hgo'; have HV6 := Aside0.mk hv'; replace HB := Aside0.mk hb'
     replace hzr : go + 2 ≤ w6.heap.size := by have h_ := blk_lt BF6.out; omega
     clear hcl hcl6 HC HT BA BK BL BF HV hgo' hv' hb' hs' hk' hzf; have a0 := bc BA6.out 0 (.int .i64 p) rfl; have ya := blk_frozen BA6.out 0; have g0 := bc BF6.out 0 (.int .i64 x.f0) rfl; have g2 := bc BF6.out 2 (.int .i64 x.f2) rfl
     have hadd : x.f0 + x.f2 ≤ 1000000000000 := by omega
     have hadd0 : 0 ≤ x.f0 + x.f2 := by omega
     go_wp2_with fail
     have hne1 : ad.block ≠ go + 1 := by obtain ⟨cells, hc⟩ := HT6.out ad rfl; exact blk_ne hc BA6.out (by decide)
     obtain ⟨m, hm, hm0, hmL⟩ : ∃ m : Int, m = (if p < x.f0 + x.f2 then x.f0 + x.f2 else p) ∧ 0 ≤ m ∧ m ≤ a0_2 := ⟨_, rfl, by split <;> omega, by split <;> omega⟩
     have hmx : max p (x.f0 + x.f2) = m := by rw [hm]; split <;> omega
     rw [hmx] at hspec; rw [← hm]; clear hm hmx a0 ya g0 g2
     exact ⟨⟨j + 1, m, endL x.f0 p a1 out, v', by omega, by go_num, hm0, hmL, by omega, hspec, ⟨blk_far BO.out (by show go ≠ go + 1; omega) _⟩, ⟨blk_put (cs := #[.int .i64 p]) BA6.out 0 _ rfl⟩, ⟨blk_far BK6.out (by show w.heap.size ≠ go + 1; omega) _⟩, ⟨blk_far BL6.out (by show w.heap.size + 1 ≠ go + 1; omega) _⟩,
      ⟨Kd.R_mono (Kd.R_far (Kd.R_far1 HV6.out rfl (Kd.R_ne HV6.out BA6.out (by decide))) (fun _ hk => hk.2) _) (fun _ _ => trivial)⟩, ⟨C_same HC6.out (Below.heap_setCell _ _ _ _ hne1)⟩,
      Lib.hid fun ad' e => by cases e; obtain ⟨cells, hc⟩ := HT6.out ad rfl; exact ⟨cells, blk_far hc hne1 _⟩, ⟨below_setS HB.out (by omega)⟩, by rw [heap_size_set]; exact hzr⟩, by simp [intOf]; omega⟩
    ·obtain rfl : j = l'.length := by omega
     have hltI : ¬ (l'.length : Int) < (l'.length : Int) := by omega
     replace hspec : Hid (endL a0_2 p a1 out = r1) := Lib.hid (by
      have h_ := hspec.out; have h2 := endL_zones a0_2 p a1 out []; rw [List.drop_length, List.map_nil] at h_
      unfold Gaps.go at h_
      have h3 : zonesL a1 [] = [] := rfl; rw [h3, List.append_nil] at h2
      rw [h2, ← h_])
     have b2 := bc BK.out 2 (.int .i64 a0_2) rfl
     go_wp2_with fail
     refine (end_calls a0_2 p a1 v out (go + 1) (w.heap.size + 1) go w.heap.size w _ BA BL BO HV HB (by omega) (by omega) hp0 (by omega) hL hL0 (by omega)).mono ?_
     rintro e_ w6 ⟨rfl, v', hgo', hv', hb', hs', hk'⟩
     rw [hspec.out] at hv'; have HO6 := Aside0.mk hgo'; have HV6 := Aside0.mk hv'; have HB6 := Aside0.mk hb'; clear hgo' hv' hb' hs' hk' b2 BA BK BL BO HV HC HT HB hspec; have o0 := bc HO6.out 0 v' rfl
     go_wp2_with fail
     go_ret2
     exact ⟨_, rfl, HV6.out, HB6.out⟩
  ·rw [if_neg hok] at h; cases h
 ·replace h := h.out; rw [if_neg hz0] at h; simp only [Option.some.injEq, Prod.mk.injEq] at h; obtain ⟨rfl, rfl⟩ := h
  go_wp2_with fail
  go_ret2
  exact ⟨_, rfl, Kd.R_nil _ _ _ _ _, HB.out⟩

end Go.Proofs.YtdblkmnbkpphjaaGreatDoor.P
namespace Go.Proofs.YtdblkmnbkpphjaaGreatDoor.P
open Go.RowKit Go.Proofs.YtdblkmnbkpphjaaGreatDoorW.PrintWords Go.Proofs.YtdblkmnbkpphjaaGreatDoorW.PrintLast Go.Proofs.YtdblkmnbkpphjaaGreatDoorW.PrintMore
attribute [local go_sem] max2_int min2_int max_two min_two max_three min_three max_four min_four   -- for this text's walks alone
set_option linter.unusedVariables false
set_option linter.unusedSimpArgs false

theorem eqA44 (d : Nat) (w : World) (x0 y0 : Int) (x1 y1 : Int) :
  (Op.equalIn (d + 2) 44 (.agg #[.int .i64 x0, .int .i64 x1]) (.agg #[.int .i64 y0, .int .i64 y1])).run Tryz.prog w = .ok (x0 == y0 && (x1 == y1)) w := by
 refine eqA_of Tryz.underlying44 (by kernel_rfl) ?_
 refine eqf_cons (by rfl) (by go_simp; rfl) (by go_simp; rfl) (by go_simp) ?_
 exact eqf_last (by rfl) (by go_simp; rfl) (by go_simp; rfl) (by go_simp)
end Go.Proofs.YtdblkmnbkpphjaaGreatDoor.P
namespace Go.Proofs.YtdblkmnbkpphjaaGreatDoor.P
open Go.RowKit Go.Proofs.YtdblkmnbkpphjaaGreatDoorW.PrintWords Go.Proofs.YtdblkmnbkpphjaaGreatDoorW.PrintLast Go.Proofs.YtdblkmnbkpphjaaGreatDoorW.PrintMore Go.Proofs.YtdblkmnbkpphjaaGreatDoorW.PrintAuto
attribute [local go_sem] max2_int min2_int max_two min_two max_three min_three max_four min_four   -- for this text's walks alone
set_option linter.unusedVariables false
set_option linter.unusedSimpArgs false

attribute [local go_sem high] eqA44
def garmentref27_SameZones.l0 : Nat → List (S44) → List (S44) → Int → Option (Bool)
 | 0, _, _, _ => none
 | k + 1, x0, x1, x5 => if x5 < (x0.length : Int) then (if 0 ≤ x5 then (if x5 < (x1.length : Int) then (if (!(((rd_T44 x0 x5).f0) == ((rd_T44 x1 x5).f0)) || (!(((rd_T44 x0 x5).f1) == ((rd_T44 x1 x5).f1)))) = true then (some false) else (garmentref27_SameZones.l0 k x0 x1 (wrap64 (x5 + 1)))) else (none)) else (none)) else (some true)
def garmentref27_SameZones.f (k : Nat) (l0 : List (S44)) (l1 : List (S44)) : Option (Bool) := if (l0.length : Int) = (l1.length : Int) then (garmentref27_SameZones.l0 k l0 l1 0) else (some false)
theorem garmentref27_SameZones.mono_l : ∀ k, (∀ y0 y1 y2, LeO (garmentref27_SameZones.l0 k y0 y1 y2) (garmentref27_SameZones.l0 (k + 1) y0 y1 y2))
 | 0 => fun _ _ _ r h => by simp [garmentref27_SameZones.l0] at h
 | k + 1 => by
  have ih0 := garmentref27_SameZones.mono_l k
  ·intro y0 y1 y2
   unfold garmentref27_SameZones.l0
   repeat' first
   | (with_reducible exact ih0 _ _ _)
   | (with_reducible exact LeO.refl _)
   | (with_reducible exact LeO.none _)
   | (with_reducible refine LeO.ite ?_ ?_)
   | (with_reducible refine LeO.bind ?_ (fun _ => ?_))
   | exact ih0 _ _ _
   | exact LeO.none _
   | refine LeO.ite ?_ ?_
   | refine LeO.bind ?_ (fun _ => ?_)
theorem garmentref27_SameZones.mono : ∀ a0 a1 k, LeO (garmentref27_SameZones.f k a0 a1) (garmentref27_SameZones.f (k + 1) a0 a1) := by
 intro a0 a1 k; have ih0 := garmentref27_SameZones.mono_l k
 unfold garmentref27_SameZones.f
 repeat' first
  | (with_reducible exact ih0 _ _ _)
  | (with_reducible exact LeO.refl _)
  | (with_reducible exact LeO.none _)
  | (with_reducible refine LeO.ite ?_ ?_)
  | (with_reducible refine LeO.bind ?_ (fun _ => ?_))
  | exact ih0 _ _ _
  | exact LeO.none _
  | refine LeO.ite ?_ ?_
  | refine LeO.bind ?_ (fun _ => ?_)
set_option maxHeartbeats 8000000 in
set_option maxRecDepth 100000 in
theorem garmentref27_SameZones.calls (k : Nat) (A0 : Option Addr) (c0 : Nat) (l0 : List (S44)) (A1 : Option Addr) (c1 : Nat) (l1 : List (S44)) (r : Bool) (w : World) (hr0 : Kd.C k44 w A0 l0.length l0) (hc0 : l0.length ≤ c0) (hr1 : Kd.C k44 w A1 l1.length l1) (hc1 : l1.length ≤ c1) (h : garmentref27_SameZones.f k l0 l1 = some r) :
  Calls Tryz.prog 19 #[.slice A0 l0.length c0, .slice A1 l1.length c1] w fun e w' => e = .returned (.bool r) ∧ Drawn0 w w' := by
 have hu44 := Tryz.underlying44; have HR0 := Aside0.mk hr0; have HC0 := Aside0.mk hc0; clear hr0 hc0; have HR1 := Aside0.mk hr1; have HC1 := Aside0.mk hc1; clear hr1 hc1; have H : (if (l0.length : Int) = (l1.length : Int) then (garmentref27_SameZones.l0 k l0 l1 0) else (some false)) = some r := h; clear h
 by_cases c3 : (l0.length : Int) = (l1.length : Int)
 ·rw [if_pos c3] at H; have c3b0 : ((l0.length : Int) == (l1.length : Int)) = true := beq_iff_eq.mpr c3; have c3b1 : ((l0.length : Int) != (l1.length : Int)) = false := bne_eq_false_iff_eq.mpr c3
  have c3b2 : (l0.length == l1.length) = true := by first | simpa using c3 | (simp at c3 ⊢; omega)
  clear c3; have H' := Aside0.mk H; clear H
  go_enter Tryz.func19, Tryz.ntmps19
  go_wp2
  repeat (go_quiet (fail); try go_wp2)
  go_loopg [5] k (fun kq v5 w' => ∃ (x5_1 : Int), v5 = .int .i64 x5_1 ∧ Aside0 (garmentref27_SameZones.l0 kq l0 l1 x5_1 = some r) ∧ Aside0 (kq ≤ k) ∧ Drawn0 w w')
  case atStart => exact ⟨(0), (by first | rfl | (simp; done) | (simp [*]; done)), H', ⟨Nat.le_refl _⟩, by repeat (first | exact Drawn0.refl _ | apply Drawn0.step)⟩
  case round =>
   clear H'
   try clear c1
   try clear p2
   try clear c3
   try clear c3b0
   try clear c3b1
   try clear c3b2
   obtain ⟨x5_1, rfl, HA, HK1, ⟨m1, rfl⟩⟩ := hrel
   cases gk with
   | zero => exact absurd HA.out (by simp [garmentref27_SameZones.l0])
   | succ k1 =>
    have H := HA.out; clear HA; simp only [garmentref27_SameZones.l0] at H
    by_cases c4 : x5_1 < (l0.length : Int)
    ·rw [if_pos c4] at H; have c4b0 : decide (x5_1 < (l0.length : Int)) = true := decide_eq_true c4; clear c4
     by_cases c5 : 0 ≤ x5_1
     ·rw [if_pos c5] at H; have c5b0 : decide (0 ≤ x5_1) = true := decide_eq_true c5; clear c5
      by_cases c6 : x5_1 < (l1.length : Int)
      ·rw [if_pos c6] at H; have c6b0 : decide (x5_1 < (l1.length : Int)) = true := decide_eq_true c6; clear c6
       by_cases c7 : (!(((rd_T44 l0 x5_1).f0) == ((rd_T44 l1 x5_1).f0)) || (!(((rd_T44 l0 x5_1).f1) == ((rd_T44 l1 x5_1).f1)))) = true
       ·rw [if_pos c7] at H; have c7b0 : (!(((rd_T44 l0 x5_1).f0) == ((rd_T44 l1 x5_1).f0)) || (!(((rd_T44 l0 x5_1).f1) == ((rd_T44 l1 x5_1).f1)))) = true := c7; clear c7; obtain rfl := Option.some.inj H; have p159 : 0 ≤ (x5_1 : Int) := oda; have q159 : x5_1 < (l0.length : Int) := oda; obtain ⟨ad159, e159, hx159_0, hx159_1⟩ := at_T44 HR0.out x5_1 p159 q159; cases e159; replace p159 := eq_true p159; replace q159 := eq_true q159; have p160 : 0 ≤ (x5_1 : Int) := oda; have q160 : x5_1 < (l1.length : Int) := oda; obtain ⟨ad160, e160, hx160_0, hx160_1⟩ := at_T44 HR1.out x5_1 p160 q160; cases e160; replace p160 := eq_true p160; replace q160 := eq_true q160
        go_wp2
        repeat (go_quiet (fail); try go_wp2)
        go_ret
        exact ⟨by first | rfl | (simp; done) | (simp [*]; done), by repeat (first | exact Drawn0.refl _ | apply Drawn0.step)⟩
       ·rw [if_neg c7] at H
        have c7b0 : (!(((rd_T44 l0 x5_1).f0) == ((rd_T44 l1 x5_1).f0)) || (!(((rd_T44 l0 x5_1).f1) == ((rd_T44 l1 x5_1).f1)))) = false := by simpa using c7
        clear c7; have H' := Aside0.mk H; clear H; have p159 : 0 ≤ (x5_1 : Int) := oda; have q159 : x5_1 < (l0.length : Int) := oda; obtain ⟨ad159, e159, hx159_0, hx159_1⟩ := at_T44 HR0.out x5_1 p159 q159; cases e159; replace p159 := eq_true p159; replace q159 := eq_true q159; have p160 : 0 ≤ (x5_1 : Int) := oda; have q160 : x5_1 < (l1.length : Int) := oda; obtain ⟨ad160, e160, hx160_0, hx160_1⟩ := at_T44 HR1.out x5_1 p160 q160; cases e160; replace p160 := eq_true p160; replace q160 := eq_true q160
        go_wp2
        repeat (go_quiet (fail); try go_wp2)
        go_roundg k1
        case measure => have := HK1.out; omega
        case rel => exact ⟨(wrap64 (x5_1 + 1)), (by first | rfl | (simp; done) | (simp [*]; done)), H', ⟨by have := HK1.out; omega⟩, by repeat (first | exact Drawn0.refl _ | apply Drawn0.step)⟩
      ·rw [if_neg c6] at H; exact absurd H (by simp)
     ·rw [if_neg c5] at H; exact absurd H (by simp)
    ·rw [if_neg c4] at H; have c4b0 : decide (x5_1 < (l0.length : Int)) = false := decide_eq_false c4; clear c4; obtain rfl := Option.some.inj H
     go_wp2
     repeat (go_quiet (fail); try go_wp2)
     go_ret
     exact ⟨by first | rfl | (simp; done) | (simp [*]; done), by repeat (first | exact Drawn0.refl _ | apply Drawn0.step)⟩
 ·rw [if_neg c3] at H; have c3b0 : ((l0.length : Int) == (l1.length : Int)) = false := beq_eq_false_iff_ne.mpr c3; have c3b1 : ((l0.length : Int) != (l1.length : Int)) = true := bne_iff_ne.mpr c3
  have c3b2 : (l0.length == l1.length) = false := by first | simpa using c3 | (simp at c3 ⊢; omega)
  obtain rfl := Option.some.inj H
  go_enter Tryz.func19, Tryz.ntmps19
  go_wp2
  repeat (go_quiet (fail); try go_wp2)
  go_ret
  exact ⟨by first | rfl | (simp; done) | (simp [*]; done), by repeat (first | exact Drawn0.refl _ | apply Drawn0.step)⟩

end Go.Proofs.YtdblkmnbkpphjaaGreatDoor.P
namespace Go.Proofs.YtdblkmnbkpphjaaGreatDoor.P
open Go.RowKit Go.Proofs.YtdblkmnbkpphjaaGreatDoorW.PrintWords Go.Proofs.YtdblkmnbkpphjaaGreatDoorW.PrintLast Go.Proofs.YtdblkmnbkpphjaaGreatDoorW.PrintMore Go.Proofs.YtdblkmnbkpphjaaGreatDoorW.PrintAuto
attribute [local go_sem] max2_int min2_int max_two min_two max_three min_three max_four min_four   -- for this text's walks alone
set_option linter.unusedVariables false
set_option linter.unusedSimpArgs false

--FLAGS making laid
--IMPORT Derived.Test.YtdblkmnbkpphjaaGreatDoorGL
def strings_Split.f (a0 : ByteArray) (a1 : ByteArray) : Option (List ByteArray) := if a0.size < 4294967281 ∧ 1 ≤ a1.size then some (pieces a1 a0) else none
theorem strings_Split.calls (a0 : ByteArray) (a1 : ByteArray) (r : List ByteArray) (w : World) (h : strings_Split.f a0 a1 = some r) (hG : Aside0 (GL w)) :
  Calls Tryz.prog 43 #[.string a0, .string a1] w fun e w' => ∃ v0_ : Value, e = .returned (v0_) ∧ Kd.R Kd.string 9 w' w.heap.size (fun _ => True) v0_ r ∧ Below w.heap.size w w' := by
 unfold strings_Split.f at h
 split at h
 ·rename_i hb
  obtain rfl := Option.some.inj h; obtain ⟨m, hm⟩ := hG.out.ml; refine (Tryz.strings_Split a0 a1 m w hb.1 hm hb.2).mono ?_
  rintro e w' ⟨rfl, rfl⟩
  have hl : (pieces a1 a0).length = Lib.countB a0 a1 + 1 := pieces_length a1 a0 hb.2; have ho := strs_own w (pieces a1 a0) 9 (by rw [hl]; have := Lib.count_le a0.data.toList a1.data.toList; have e : Lib.countB a0 a1 = Lib.count a0.data.toList a1.data.toList := rfl; have e2 : a0.data.toList.length = a0.size := (Lib.size_eq a0).symm; omega); rw [hl] at ho; rw [← pieces_eq a1 a0 hb.2]; exact ⟨_, rfl, ho, below_alloc (Below.refl _ _) _⟩
 ·cases h

end Go.Proofs.YtdblkmnbkpphjaaGreatDoor.P
namespace Go.Proofs.YtdblkmnbkpphjaaGreatDoor.P
open Go.RowKit Go.Proofs.YtdblkmnbkpphjaaGreatDoorW.PrintWords Go.Proofs.YtdblkmnbkpphjaaGreatDoorW.PrintLast Go.Proofs.YtdblkmnbkpphjaaGreatDoorW.PrintMore Go.Proofs.YtdblkmnbkpphjaaGreatDoorW.PrintAuto
attribute [local go_sem] max2_int min2_int max_two min_two max_three min_three max_four min_four   -- for this text's walks alone
set_option linter.unusedVariables false
set_option linter.unusedSimpArgs false

def stringslite_HasPrefix.f (a0 : ByteArray) (a1 : ByteArray) : Option (Bool) := if (a0.size : Int) ≥ (a1.size : Int) then (if 0 ≤ (a1.size : Int) then (if (a1.size : Int) ≤ (a0.size : Int) then (some ((a0.extract 0 ((a1.size : Int) : Int).toNat).toList == a1.toList)) else (none)) else (none)) else (some false)
set_option maxHeartbeats 8000000 in
set_option maxRecDepth 100000 in
theorem stringslite_HasPrefix.calls (a0 : ByteArray) (a1 : ByteArray) (r : Bool) (w : World) (h : stringslite_HasPrefix.f a0 a1 = some r) :
  Calls Tryz.prog 110 #[.string a0, .string a1] w fun e w' => e = .returned (.bool r) ∧ Drawn0 w w' := by
 have H : (if (a0.size : Int) ≥ (a1.size : Int) then (if 0 ≤ (a1.size : Int) then (if (a1.size : Int) ≤ (a0.size : Int) then (some ((a0.extract 0 ((a1.size : Int) : Int).toNat).toList == a1.toList)) else (none)) else (none)) else (some false)) = some r := h; clear h
 by_cases c3 : (a0.size : Int) ≥ (a1.size : Int)
 ·rw [if_pos c3] at H; have c3b0 : decide ((a1.size : Int) ≤ (a0.size : Int)) = true := decide_eq_true c3; have c3b1 : decide (a1.size ≤ a0.size) = true := decide_eq_true (Int.ofNat_le.mp c3); clear c3
  by_cases c4 : 0 ≤ (a1.size : Int)
  ·rw [if_pos c4] at H; have c4b0 := eq_true c4; have c4b1 : decide (0 ≤ (a1.size : Int)) = true := decide_eq_true c4; clear c4
   by_cases c5 : (a1.size : Int) ≤ (a0.size : Int)
   ·rw [if_pos c5] at H; have c5b0 := eq_true c5; have c5b1 : decide ((a1.size : Int) ≤ (a0.size : Int)) = true := decide_eq_true c5; clear c5; obtain rfl := Option.some.inj H
    go_enter Tryz.func110, Tryz.ntmps110
    go_wp2
    go_ret
    exact ⟨by first | rfl | (simp; done) | (simp [*]; done), by repeat (first | exact Drawn0.refl _ | apply Drawn0.step)⟩
   ·rw [if_neg c5] at H; exact absurd H (by simp)
  ·rw [if_neg c4] at H; exact absurd H (by simp)
 ·rw [if_neg c3] at H; have c3b0 : decide ((a1.size : Int) ≤ (a0.size : Int)) = false := decide_eq_false c3; have c3b1 : decide (a1.size ≤ a0.size) = false := decide_eq_false (fun h => c3 (Int.ofNat_le.mpr h)); clear c3; obtain rfl := Option.some.inj H
  go_enter Tryz.func110, Tryz.ntmps110
  go_wp2
  go_ret
  exact ⟨by first | rfl | (simp; done) | (simp [*]; done), by repeat (first | exact Drawn0.refl _ | apply Drawn0.step)⟩

end Go.Proofs.YtdblkmnbkpphjaaGreatDoor.P
namespace Go.Proofs.YtdblkmnbkpphjaaGreatDoor.P
open Go.RowKit Go.Proofs.YtdblkmnbkpphjaaGreatDoorW.PrintWords Go.Proofs.YtdblkmnbkpphjaaGreatDoorW.PrintLast Go.Proofs.YtdblkmnbkpphjaaGreatDoorW.PrintMore Go.Proofs.YtdblkmnbkpphjaaGreatDoorW.PrintAuto
attribute [local go_sem] max2_int min2_int max_two min_two max_three min_three max_four min_four   -- for this text's walks alone
set_option linter.unusedVariables false
set_option linter.unusedSimpArgs false

def stringslite_TrimPrefix.f (a0 : ByteArray) (a1 : ByteArray) : Option (ByteArray) := (stringslite_HasPrefix.f a0 a1).bind fun t163 => (if t163 = true then (if 0 ≤ (a1.size : Int) then (if (a1.size : Int) ≤ (a0.size : Int) then (some (a0.extract ((a1.size : Int) : Int).toNat a0.size)) else (none)) else (none)) else (some a0))
set_option maxHeartbeats 8000000 in
set_option maxRecDepth 100000 in
theorem stringslite_TrimPrefix.calls (a0 : ByteArray) (a1 : ByteArray) (r : ByteArray) (w : World) (h : stringslite_TrimPrefix.f a0 a1 = some r) :
  Calls Tryz.prog 105 #[.string a0, .string a1] w fun e w' => e = .returned (.string r) ∧ Drawn0 w w' := by
 have H : ((stringslite_HasPrefix.f a0 a1).bind fun t163 => (if t163 = true then (if 0 ≤ (a1.size : Int) then (if (a1.size : Int) ≤ (a0.size : Int) then (some (a0.extract ((a1.size : Int) : Int).toNat a0.size)) else (none)) else (none)) else (some a0))) = some r := h; clear h; replace H := Option.bind_eq_some_iff.mp H; obtain ⟨t163, A30, H⟩ := H; replace H : (if t163 = true then (if 0 ≤ (a1.size : Int) then (if (a1.size : Int) ≤ (a0.size : Int) then (some (a0.extract ((a1.size : Int) : Int).toNat a0.size)) else (none)) else (none)) else (some a0)) = some r := H; have A3 := Aside0.mk A30; clear A30
 by_cases c4 : t163 = true
 ·subst c4
  have H1 : (if 0 ≤ (a1.size : Int) then (if (a1.size : Int) ≤ (a0.size : Int) then (some (a0.extract ((a1.size : Int) : Int).toNat a0.size)) else (none)) else (none)) = some r := by rw [if_pos rfl] at H; exact H
  clear H; have H := H1; clear H1
  by_cases c5 : 0 ≤ (a1.size : Int)
  ·rw [if_pos c5] at H; have c5b0 := eq_true c5; have c5b1 : decide (0 ≤ (a1.size : Int)) = true := decide_eq_true c5; clear c5
   by_cases c6 : (a1.size : Int) ≤ (a0.size : Int)
   ·rw [if_pos c6] at H; have c6b0 := eq_true c6; have c6b1 : decide ((a1.size : Int) ≤ (a0.size : Int)) = true := decide_eq_true c6; clear c6; obtain rfl := Option.some.inj H
    go_enter Tryz.func105, Tryz.ntmps105
    go_wp2_with (first | ((with_reducible refine gate_callee (f := 110) rfl ?_); refine goesA (some 7) rfl rfl Tryz.func110 (by kernel_rfl) rfl #[.string a0, .string a1] rfl ?_; (with_reducible refine (stringslite_HasPrefix.calls a0 a1 true _ A3.out).mono ?_); rintro e w' ⟨rfl, ⟨nd, rfl⟩⟩; refine ⟨_, rfl, ?_⟩))
    go_ret
    exact ⟨by first | rfl | (simp; done) | (simp [*]; done), by repeat (first | exact Drawn0.refl _ | apply Drawn0.step)⟩
   ·rw [if_neg c6] at H; exact absurd H (by simp)
  ·rw [if_neg c5] at H; exact absurd H (by simp)
 ·replace c4 := Bool.eq_false_iff.mpr c4; subst c4
  have H1 : (some a0) = some r := by rw [if_neg (show ¬ (false = true) by decide)] at H; exact H
  clear H; have H := H1; clear H1; obtain rfl := Option.some.inj H
  go_enter Tryz.func105, Tryz.ntmps105
  go_wp2_with (first | ((with_reducible refine gate_callee (f := 110) rfl ?_); refine goesA (some 7) rfl rfl Tryz.func110 (by kernel_rfl) rfl #[.string a0, .string a1] rfl ?_; (with_reducible refine (stringslite_HasPrefix.calls a0 a1 false _ A3.out).mono ?_); rintro e w' ⟨rfl, ⟨nd, rfl⟩⟩; refine ⟨_, rfl, ?_⟩))
  go_ret
  exact ⟨by first | rfl | (simp; done) | (simp [*]; done), by repeat (first | exact Drawn0.refl _ | apply Drawn0.step)⟩

end Go.Proofs.YtdblkmnbkpphjaaGreatDoor.P
namespace Go.Proofs.YtdblkmnbkpphjaaGreatDoor.P
open Go.RowKit Go.Proofs.YtdblkmnbkpphjaaGreatDoorW.PrintWords Go.Proofs.YtdblkmnbkpphjaaGreatDoorW.PrintLast Go.Proofs.YtdblkmnbkpphjaaGreatDoorW.PrintMore Go.Proofs.YtdblkmnbkpphjaaGreatDoorW.PrintAuto
attribute [local go_sem] max2_int min2_int max_two min_two max_three min_three max_four min_four   -- for this text's walks alone
set_option linter.unusedVariables false
set_option linter.unusedSimpArgs false

def strings_TrimPrefix.f (a0 : ByteArray) (a1 : ByteArray) : Option (ByteArray) := (stringslite_TrimPrefix.f a0 a1).bind fun t164 => (some t164)
set_option maxHeartbeats 8000000 in
set_option maxRecDepth 100000 in
theorem strings_TrimPrefix.calls (a0 : ByteArray) (a1 : ByteArray) (r : ByteArray) (w : World) (h : strings_TrimPrefix.f a0 a1 = some r) :
  Calls Tryz.prog 97 #[.string a0, .string a1] w fun e w' => e = .returned (.string r) ∧ Drawn0 w w' := by
 have H : ((stringslite_TrimPrefix.f a0 a1).bind fun t164 => (some t164)) = some r := h; clear h; replace H := Option.bind_eq_some_iff.mp H; obtain ⟨t164, A30, H⟩ := H; replace H : (some t164) = some r := H; have A3 := Aside0.mk A30; clear A30; obtain rfl := Option.some.inj H
 go_enter Tryz.func97, Tryz.ntmps97
 go_wp2_with (first | ((with_reducible refine gate_callee (f := 105) rfl ?_); refine goesA (some 7) rfl rfl Tryz.func105 (by kernel_rfl) rfl #[.string a0, .string a1] rfl ?_; (with_reducible refine (stringslite_TrimPrefix.calls a0 a1 t164 _ A3.out).mono ?_); rintro e w' ⟨rfl, ⟨nd, rfl⟩⟩; refine ⟨_, rfl, ?_⟩))
 go_ret
 exact ⟨by first | rfl | (simp; done) | (simp [*]; done), by repeat (first | exact Drawn0.refl _ | apply Drawn0.step)⟩

end Go.Proofs.YtdblkmnbkpphjaaGreatDoor.P
namespace Go.Proofs.YtdblkmnbkpphjaaGreatDoor.P
open Go.RowKit Go.Proofs.YtdblkmnbkpphjaaGreatDoorW.PrintWords Go.Proofs.YtdblkmnbkpphjaaGreatDoorW.PrintLast Go.Proofs.YtdblkmnbkpphjaaGreatDoorW.PrintMore Go.Proofs.YtdblkmnbkpphjaaGreatDoorW.PrintAuto
attribute [local go_sem] max2_int min2_int max_two min_two max_three min_three max_four min_four   -- for this text's walks alone
set_option linter.unusedVariables false
set_option linter.unusedSimpArgs false

--FLAGS making
--IMPORT Derived.Test.YtdblkmnbkpphjaaGreatDoorGL
def strconv_Atoi_98.f (a0 : ByteArray) : Option (Int × Option Int) := if a0.size ≤ 9223372036854775806 then (match Lib.atoiAll a0.data.toList with
 | .ok v => some (v, none)
 | _ => none) else none
theorem strconv_Atoi_98.calls (a0 : ByteArray) (r1 : Int) (r2 : Option Int) (w : World) (h : strconv_Atoi_98.f a0 = some (r1, r2)) :
  Calls Tryz.prog 98 #[.string a0] w fun e w' => e = .returned (.tuple #[.int .i64 r1, errW r2]) ∧ Below w.heap.size w w' := by
 unfold strconv_Atoi_98.f at h
 split at h
 ·rename_i hb
  split at h
  ·rename_i v hv
   simp only [Option.some.injEq, Prod.mk.injEq] at h; obtain ⟨rfl, rfl⟩ := h; refine (Tryz.strconv_Atoi_ok a0 hb _ hv w).mono ?_
   rintro e w' ⟨rfl, hw⟩
   exact ⟨rfl, atoi_w hw⟩
  ·cases h
 ·cases h

end Go.Proofs.YtdblkmnbkpphjaaGreatDoor.P
namespace Go.Proofs.YtdblkmnbkpphjaaGreatDoor.P
open Go.RowKit Go.Proofs.YtdblkmnbkpphjaaGreatDoorW.PrintWords Go.Proofs.YtdblkmnbkpphjaaGreatDoorW.PrintLast Go.Proofs.YtdblkmnbkpphjaaGreatDoorW.PrintMore Go.Proofs.YtdblkmnbkpphjaaGreatDoorW.PrintAuto
attribute [local go_sem] max2_int min2_int max_two min_two max_three min_three max_four min_four   -- for this text's walks alone
set_option linter.unusedVariables false
set_option linter.unusedSimpArgs false

mutual
def roll_number.j0 : Nat → ByteArray → ByteArray → Bool → Option (Int × Bool)
 | 0, _, _, _ => none
 | k + 1, x0, x4, x25 => if x25 = true then (some (0, false)) else (roll_number.l0 k x0 x4 (x4.size : Int) 0)
def roll_number.l0 : Nat → ByteArray → ByteArray → Int → Int → Option (Int × Bool)
 | 0, _, _, _, _ => none
 | k + 1, x0, x4, x27, x28 => if x28 < x27 then (if 0 ≤ x28 then (if x28 < (x4.size : Int) then ((roll_digit.f (bt x4 x28)).bind fun t183 => (if t183 = true then (roll_number.l0 k x0 x4 x27 (wrap64 (x28 + 1))) else (some (0, false)))) else (none)) else (none)) else ((strconv_Atoi_98.f x0).bind fun bt181 => (some (bt181.1, true)))
end
def roll_number.f (k : Nat) (a0 : ByteArray) : Option (Int × Bool) := (strings_TrimPrefix.f a0 (⟨#[45]⟩ : ByteArray)).bind fun t180 => (if t180.toList = ([] : List UInt8) then (roll_number.j0 k a0 t180 true) else (if (t180.size : Int) > 18 then (roll_number.j0 k a0 t180 true) else (if 0 < (t180.size : Int) then (if (bt t180 0) = 48 then (roll_number.j0 k a0 t180 (a0.toList != ([48] : List UInt8))) else (roll_number.j0 k a0 t180 false)) else (none))))
theorem roll_number.mono_l : ∀ k, (∀ y0 y1 y2, LeO (roll_number.j0 k y0 y1 y2) (roll_number.j0 (k + 1) y0 y1 y2)) ∧ (∀ y0 y1 y2 y3, LeO (roll_number.l0 k y0 y1 y2 y3) (roll_number.l0 (k + 1) y0 y1 y2 y3))
 | 0 => ⟨fun _ _ _ r h => by simp [roll_number.j0] at h, fun _ _ _ _ r h => by simp [roll_number.l0] at h⟩
 | k + 1 => by
  obtain ⟨ih0, ih1⟩ := roll_number.mono_l k
  refine ⟨?_, ?_⟩
  ·intro y0 y1 y2
   unfold roll_number.j0
   repeat' first
   | (with_reducible exact ih0 _ _ _)
   | (with_reducible exact ih1 _ _ _ _)
   | (with_reducible exact LeO.refl _)
   | (with_reducible exact LeO.none _)
   | (with_reducible refine LeO.ite ?_ ?_)
   | (with_reducible refine LeO.bind ?_ (fun _ => ?_))
   | exact ih0 _ _ _
   | exact ih1 _ _ _ _
   | exact LeO.none _
   | refine LeO.ite ?_ ?_
   | refine LeO.bind ?_ (fun _ => ?_)
  ·intro y0 y1 y2 y3
   unfold roll_number.l0
   repeat' first
   | (with_reducible exact ih0 _ _ _)
   | (with_reducible exact ih1 _ _ _ _)
   | (with_reducible exact LeO.refl _)
   | (with_reducible exact LeO.none _)
   | (with_reducible refine LeO.ite ?_ ?_)
   | (with_reducible refine LeO.bind ?_ (fun _ => ?_))
   | exact ih0 _ _ _
   | exact ih1 _ _ _ _
   | exact LeO.none _
   | refine LeO.ite ?_ ?_
   | refine LeO.bind ?_ (fun _ => ?_)
theorem roll_number.mono : ∀ a0 k, LeO (roll_number.f k a0) (roll_number.f (k + 1) a0) := by
 intro a0 k; obtain ⟨ih0, ih1⟩ := roll_number.mono_l k
 unfold roll_number.f
 repeat' first
  | (with_reducible exact ih0 _ _ _)
  | (with_reducible exact ih1 _ _ _ _)
  | (with_reducible exact LeO.refl _)
  | (with_reducible exact LeO.none _)
  | (with_reducible refine LeO.ite ?_ ?_)
  | (with_reducible refine LeO.bind ?_ (fun _ => ?_))
  | exact ih0 _ _ _
  | exact ih1 _ _ _ _
  | exact LeO.none _
  | refine LeO.ite ?_ ?_
  | refine LeO.bind ?_ (fun _ => ?_)
set_option maxHeartbeats 8000000 in
set_option maxRecDepth 100000 in
theorem roll_number.calls (k : Nat) (a0 : ByteArray) (r1 : Int) (r2 : Bool) (w : World) (h : roll_number.f k a0 = some (r1, r2)) :
  Calls Tryz.prog 86 #[.string a0] w fun e w' => e = .returned (.tuple #[.int .i64 r1, .bool r2]) ∧ Below w.heap.size w w' := by
 have HB := Aside0.mk (Below.refl w.heap.size w); have H : ((strings_TrimPrefix.f a0 (⟨#[45]⟩ : ByteArray)).bind fun t180 => (if t180.toList = ([] : List UInt8) then (roll_number.j0 k a0 t180 true) else (if (t180.size : Int) > 18 then (roll_number.j0 k a0 t180 true) else (if 0 < (t180.size : Int) then (if (bt t180 0) = 48 then (roll_number.j0 k a0 t180 (a0.toList != ([48] : List UInt8))) else (roll_number.j0 k a0 t180 false)) else (none))))) = some (r1, r2) := h; clear h; replace H := Option.bind_eq_some_iff.mp H; obtain ⟨t180, A20, H⟩ := H; replace H : (if t180.toList = ([] : List UInt8) then (roll_number.j0 k a0 t180 true) else (if (t180.size : Int) > 18 then (roll_number.j0 k a0 t180 true) else (if 0 < (t180.size : Int) then (if (bt t180 0) = 48 then (roll_number.j0 k a0 t180 (a0.toList != ([48] : List UInt8))) else (roll_number.j0 k a0 t180 false)) else (none)))) = some (r1, r2) := H; have A2 := Aside0.mk A20; clear A20; have HC3 := Aside0.mk H; clear H
 go_enter Tryz.func86, Tryz.ntmps86
 go_upto_region 2 with (first | ((with_reducible refine gate_callee (f := 97) rfl ?_); refine goesA (some 9) rfl rfl Tryz.func97 (by kernel_rfl) rfl #[.string a0, .string (⟨#[45]⟩ : ByteArray)] rfl ?_; (with_reducible refine (strings_TrimPrefix.calls a0 (⟨#[45]⟩ : ByteArray) t180 _ A2.out).mono ?_); rintro e w' ⟨rfl, ⟨nd, rfl⟩⟩; refine ⟨_, rfl, ?_⟩))
 (try simp only [Act.put, List.setIfInBounds_toArray, List.set_cons_zero, List.set_cons_succ])
 go_cut [25] (fun v25 wc => ∃ (kq : Nat) (x25_2 : Bool), v25 = .bool x25_2 ∧ Aside0 (roll_number.j0 kq a0 t180 x25_2 = some (r1, r2)) ∧ Aside0 (kq ≤ k) ∧ Aside0 (Below w.heap.size w wc))
 case first =>
  have H := HC3.out; clear HC3
  by_cases c4 : t180.toList = ([] : List UInt8)
  ·rw [if_pos c4] at H; have c4b0 : (t180.toList == ([] : List UInt8)) = true := beq_iff_eq.mpr c4; have c4b1 : (t180.toList != ([] : List UInt8)) = false := bne_eq_false_iff_eq.mpr c4; clear c4
   (first | rw [c4b0] | (simp only [i64_w, i32_w]; rw [c4b0]) | skip)
   have H' := Aside0.mk H; clear H
   go_wp2
   go_meet
   case rel => exact ⟨_, (true), (by first | rfl | (simp; done) | (simp [*]; done)), H', ⟨by first | omega | exact Nat.le_refl _⟩, ⟨be HB.out⟩⟩
  ·rw [if_neg c4] at H; have c4b0 : (t180.toList == ([] : List UInt8)) = false := beq_eq_false_iff_ne.mpr c4; have c4b1 : (t180.toList != ([] : List UInt8)) = true := bne_iff_ne.mpr c4
   (first | rw [c4b0] | (simp only [i64_w, i32_w]; rw [c4b0]) | skip)
   by_cases c5 : (t180.size : Int) > 18
   ·rw [if_pos c5] at H; have c5b0 : decide (18 < (t180.size : Int)) = true := decide_eq_true c5; have c5b1 : decide (18 < t180.size) = true := decide_eq_true (by omega); clear c5; have H' := Aside0.mk H; clear H
    go_wp2
    go_meet
    case rel => exact ⟨_, (true), (by first | rfl | (simp; done) | (simp [*]; done)), H', ⟨by first | omega | exact Nat.le_refl _⟩, ⟨be HB.out⟩⟩
   ·rw [if_neg c5] at H; have c5b0 : decide (18 < (t180.size : Int)) = false := decide_eq_false c5; have c5b1 : decide (18 < t180.size) = false := decide_eq_false (by omega); clear c5
    by_cases c6 : 0 < (t180.size : Int)
    ·rw [if_pos c6] at H; have c6b0 : decide (0 < (t180.size : Int)) = true := decide_eq_true c6; have c6b1 : decide (0 < t180.size) = true := decide_eq_true (by omega); clear c6
     by_cases c8 : (bt t180 0) = 48
     ·rw [if_pos c8] at H; have c8b0 : ((bt t180 0) == 48) = true := beq_iff_eq.mpr c8; have c8b1 : ((bt t180 0) != 48) = false := bne_eq_false_iff_eq.mpr c8; clear c8; have H' := Aside0.mk H; clear H; have p7 : 0 ≤ (0 : Int) := (by omega); have q7 : 0 < t180.size := (by have : (0 : Int) < (t180.size : Int) := oda; omega); have hx7 : ∀ h : 0 < t180.size, ((t180[0]'h).toNat : Int) = bt t180 0 := bt_at t180 0; clear p7; have qi7 : (0 < (t180.size : Int)) = True := eq_true (oda); replace q7 := eq_true q7
      go_wp2
      go_meet
      case rel => exact ⟨_, ((a0.toList != ([48] : List UInt8))), (by first | rfl | (simp; done) | (simp [*]; done)), H', ⟨by first | omega | exact Nat.le_refl _⟩, ⟨be HB.out⟩⟩
     ·rw [if_neg c8] at H; have c8b0 : ((bt t180 0) == 48) = false := beq_eq_false_iff_ne.mpr c8; have c8b1 : ((bt t180 0) != 48) = true := bne_iff_ne.mpr c8; have H' := Aside0.mk H; clear H; have p7 : 0 ≤ (0 : Int) := (by omega); have q7 : 0 < t180.size := (by have : (0 : Int) < (t180.size : Int) := oda; omega); have hx7 : ∀ h : 0 < t180.size, ((t180[0]'h).toNat : Int) = bt t180 0 := bt_at t180 0; clear p7; have qi7 : (0 < (t180.size : Int)) = True := eq_true (oda); replace q7 := eq_true q7
      go_wp2
      go_meet
      case rel => exact ⟨_, (false), (by first | rfl | (simp; done) | (simp [*]; done)), H', ⟨by first | omega | exact Nat.le_refl _⟩, ⟨be HB.out⟩⟩
    ·rw [if_neg c6] at H; exact absurd H (by simp)
 case rest =>
  clear HC3
  try clear p2
  try clear c4
  try clear c4b0
  try clear c4b1
  try clear c5
  try clear c5b0
  try clear c5b1
  try clear c6
  try clear c6b0
  try clear c6b1
  try clear p7
  try clear q7
  try clear hx7
  try clear qi7
  try clear c8
  try clear c8b0
  try clear c8b1
  try clear p7
  try clear q7
  obtain ⟨kq, x25_2, rfl, HA, HJ2, HB⟩ := hcut
  cases kq with
  | zero => exact absurd HA.out (by simp [roll_number.j0])
  | succ kj2 =>
   have H := HA.out; clear HA; simp only [roll_number.j0] at H
   by_cases c9 : x25_2 = true
   ·subst c9
    have H1 : (some (0, false)) = some (r1, r2) := by rw [if_pos rfl] at H; exact H
    clear H; have H := H1; clear H1; simp only [Option.some.injEq, Prod.mk.injEq] at H; obtain ⟨rfl, rfl⟩ := H
    go_wp2
    go_ret2
    exact ⟨by first | rfl | (simp [errW_none, errW_some] <;> rfl) | (simp [*, errW_none, errW_some] <;> rfl), be HB.out⟩
   ·replace c9 := Bool.eq_false_iff.mpr c9; subst c9
    have H1 : (roll_number.l0 kj2 a0 t180 (t180.size : Int) 0) = some (r1, r2) := by rw [if_neg (show ¬ (false = true) by decide)] at H; exact H
    clear H; have H := H1; clear H1; have H' := Aside0.mk H; clear H
    go_wp2
    go_loopg [28] kj2 (fun kq v28 w' => ∃ (x28_2 : Int), v28 = .int .i64 x28_2 ∧ Aside0 (roll_number.l0 kq a0 t180 (t180.size : Int) x28_2 = some (r1, r2)) ∧ Aside0 (kq ≤ kj2) ∧ Aside0 (Below w.heap.size w w'))
    case atStart => exact ⟨(0), (by first | rfl | (simp; done) | (simp [*]; done)), H', ⟨Nat.le_refl _⟩, ⟨be HB.out⟩⟩
    case round =>
     clear H'
     try clear p2
     try clear c4
     try clear c4b0
     try clear c4b1
     try clear c5
     try clear c5b0
     try clear c5b1
     try clear c6
     try clear c6b0
     try clear c6b1
     try clear p7
     try clear q7
     try clear hx7
     try clear qi7
     try clear c8
     try clear c8b0
     try clear c8b1
     try clear c9
     try clear p2
     try clear p7
     try clear q7
     obtain ⟨x28_2, rfl, HA, HK2, HB⟩ := hrel
     cases gk with
     | zero => exact absurd HA.out (by simp [roll_number.l0])
     | succ k2 =>
      have H := HA.out; clear HA; simp only [roll_number.l0] at H
      by_cases c10 : x28_2 < (t180.size : Int)
      ·rw [if_pos c10] at H; have c10b0 : decide (x28_2 < (t180.size : Int)) = true := decide_eq_true c10; clear c10
       by_cases c11 : 0 ≤ x28_2
       ·rw [if_pos c11] at H; have c11b0 : decide (0 ≤ x28_2) = true := decide_eq_true c11; clear c11
        by_cases c12 : x28_2 < (t180.size : Int)
        ·rw [if_pos c12] at H; have c12b0 : decide (x28_2 < (t180.size : Int)) = true := decide_eq_true c12; clear c12; replace H := Option.bind_eq_some_iff.mp H; obtain ⟨t183, A140, H⟩ := H; replace H : (if t183 = true then (roll_number.l0 k2 a0 t180 (t180.size : Int) (wrap64 (x28_2 + 1))) else (some (0, false))) = some (r1, r2) := H; have A14 := Aside0.mk A140; clear A140
         by_cases c15 : t183 = true
         ·subst c15
          have H1 : (roll_number.l0 k2 a0 t180 (t180.size : Int) (wrap64 (x28_2 + 1))) = some (r1, r2) := by rw [if_pos rfl] at H; exact H
          clear H; have H := H1; clear H1; have H' := Aside0.mk H; clear H; have p13 : 0 ≤ (x28_2 : Int) := oda; have q13 : x28_2 < (t180.size : Int) := oda; have hx13 := bt_at t180 x28_2; replace p13 := eq_true p13; replace q13 := eq_true q13
          go_wp2_with (first | ((with_reducible refine gate_callee (f := 46) rfl ?_); refine goesA (some 34) rfl rfl Tryz.func46 (by kernel_rfl) rfl #[.int .u8 (bt t180 x28_2)] rfl ?_; (with_reducible refine (roll_digit.calls (bt t180 x28_2) true _ A14.out).mono ?_); rintro e w' ⟨rfl, ⟨nd, rfl⟩⟩; refine ⟨_, rfl, ?_⟩))
          go_roundg k2
          case measure => have := HJ2.out; have := HK2.out; omega
          case rel => exact ⟨(wrap64 (x28_2 + 1)), (by first | rfl | (simp; done) | (simp [*]; done)), H', ⟨by have := HJ2.out; have := HK2.out; omega⟩, ⟨be HB.out⟩⟩
         ·replace c15 := Bool.eq_false_iff.mpr c15; subst c15
          have H1 : (some (0, false)) = some (r1, r2) := by rw [if_neg (show ¬ (false = true) by decide)] at H; exact H
          clear H; have H := H1; clear H1; simp only [Option.some.injEq, Prod.mk.injEq] at H; obtain ⟨rfl, rfl⟩ := H; have p13 : 0 ≤ (x28_2 : Int) := oda; have q13 : x28_2 < (t180.size : Int) := oda; have hx13 := bt_at t180 x28_2; replace p13 := eq_true p13; replace q13 := eq_true q13
          go_wp2_with (first | ((with_reducible refine gate_callee (f := 46) rfl ?_); refine goesA (some 34) rfl rfl Tryz.func46 (by kernel_rfl) rfl #[.int .u8 (bt t180 x28_2)] rfl ?_; (with_reducible refine (roll_digit.calls (bt t180 x28_2) false _ A14.out).mono ?_); rintro e w' ⟨rfl, ⟨nd, rfl⟩⟩; refine ⟨_, rfl, ?_⟩))
          go_ret2
          exact ⟨by first | rfl | (simp [errW_none, errW_some] <;> rfl) | (simp [*, errW_none, errW_some] <;> rfl), be HB.out⟩
        ·rw [if_neg c12] at H; exact absurd H (by simp)
       ·rw [if_neg c11] at H; exact absurd H (by simp)
      ·rw [if_neg c10] at H; have c10b0 : decide (x28_2 < (t180.size : Int)) = false := decide_eq_false c10; clear c10; replace H := Option.bind_eq_some_iff.mp H; obtain ⟨⟨t181, t182⟩, A160, H⟩ := H; replace H : (some (t181, true)) = some (r1, r2) := H; have A16 := Aside0.mk A160; clear A160; simp only [Option.some.injEq, Prod.mk.injEq] at H; obtain ⟨rfl, rfl⟩ := H
       go_wp2_with (first | ((with_reducible refine gate_callee (f := 98) rfl ?_); refine goesA (some 39) rfl rfl Tryz.func98 (by kernel_rfl) rfl #[.string a0] rfl ?_; (with_reducible refine (strconv_Atoi_98.calls a0 t181 t182 _ A16.out).mono ?_); rintro e w17 ⟨rfl, hb⟩; refine ⟨_, rfl, ?_⟩; replace HB := Aside0.mk (below_step (be HB.out) hb); (try clear hb); (try simp only [errW_none, errW_some])))
       go_ret2
       exact ⟨by first | rfl | (simp [errW_none, errW_some] <;> rfl) | (simp [*, errW_none, errW_some] <;> rfl), be HB.out⟩

end Go.Proofs.YtdblkmnbkpphjaaGreatDoor.P
namespace Go.Proofs.YtdblkmnbkpphjaaGreatDoor.P
open Go.RowKit Go.Proofs.YtdblkmnbkpphjaaGreatDoorW.PrintWords Go.Proofs.YtdblkmnbkpphjaaGreatDoorW.PrintLast Go.Proofs.YtdblkmnbkpphjaaGreatDoorW.PrintMore Go.Proofs.YtdblkmnbkpphjaaGreatDoorW.PrintAuto
attribute [local go_sem] max2_int min2_int max_two min_two max_three min_three max_four min_four   -- for this text's walks alone
set_option linter.unusedVariables false
set_option linter.unusedSimpArgs false

def roll_numbers.l0 : Nat → List Int → List ByteArray → Int → Int → Option (List Int × Bool)
 | 0, _, _, _, _ => none
 | k + 1, x4, x12, x13, x14 => if x14 < x13 then (if 0 ≤ x14 then (if x14 < (x12.length : Int) then ((roll_number.f k (rdOf ByteArray.empty x12 x14)).bind fun bt188 => (if bt188.2 = true then (if x14 < (x4.length : Int) then (roll_numbers.l0 k (x4.set (x14 : Int).toNat bt188.1) x12 x13 (wrap64 (x14 + 1))) else (none)) else (some (([] : List Int), false)))) else (none)) else (none)) else (some (x4, true))
def roll_numbers.f (k : Nat) (l0 : List ByteArray) : Option (List Int × Bool) := if 0 ≤ (l0.length : Int) then (if ((l0.length : Int) : Int).toNat ≤ 35184372088832 then (roll_numbers.l0 k (List.replicate ((l0.length : Int) : Int).toNat 0) l0 (l0.length : Int) 0) else (none)) else (none)
theorem roll_numbers.mono_l : ∀ k, (∀ y0 y1 y2 y3, LeO (roll_numbers.l0 k y0 y1 y2 y3) (roll_numbers.l0 (k + 1) y0 y1 y2 y3))
 | 0 => fun _ _ _ _ r h => by simp [roll_numbers.l0] at h
 | k + 1 => by
  have ih0 := roll_numbers.mono_l k
  ·intro y0 y1 y2 y3
   unfold roll_numbers.l0
   repeat' first
   | (with_reducible exact ih0 _ _ _ _)
   | (with_reducible exact roll_number.mono _ _)
   | (with_reducible exact LeO.refl _)
   | (with_reducible exact LeO.none _)
   | (with_reducible refine LeO.ite ?_ ?_)
   | (with_reducible refine LeO.bind ?_ (fun _ => ?_))
   | exact ih0 _ _ _ _
   | exact roll_number.mono _ _
   | exact LeO.none _
   | refine LeO.ite ?_ ?_
   | refine LeO.bind ?_ (fun _ => ?_)
theorem roll_numbers.mono : ∀ a0 k, LeO (roll_numbers.f k a0) (roll_numbers.f (k + 1) a0) := by
 intro a0 k; have ih0 := roll_numbers.mono_l k
 unfold roll_numbers.f
 repeat' first
  | (with_reducible exact ih0 _ _ _ _)
  | (with_reducible exact roll_number.mono _ _)
  | (with_reducible exact LeO.refl _)
  | (with_reducible exact LeO.none _)
  | (with_reducible refine LeO.ite ?_ ?_)
  | (with_reducible refine LeO.bind ?_ (fun _ => ?_))
  | exact ih0 _ _ _ _
  | exact roll_number.mono _ _
  | exact LeO.none _
  | refine LeO.ite ?_ ?_
  | refine LeO.bind ?_ (fun _ => ?_)
set_option maxHeartbeats 8000000 in
set_option maxRecDepth 100000 in
theorem roll_numbers.calls (k : Nat) (A0 : Option Addr) (c0 : Nat) (l0 : List ByteArray) (r1 : List Int) (r2 : Bool) (w : World) (hr0 : Kd.C Kd.string w A0 l0.length l0) (hc0 : l0.length ≤ c0) (h : roll_numbers.f k l0 = some (r1, r2)) :
  Calls Tryz.prog 75 #[.slice A0 l0.length c0] w fun e w' => ∃ v0_ : Value, e = .returned (.tuple #[v0_, .bool r2]) ∧ Kd.R (Kd.int .i64) 3 w' w.heap.size (fun _ => True) v0_ r1 ∧ Below w.heap.size w w' := by
 have HR0 := Aside0.mk hr0; have HC0 := Aside0.mk hc0; clear hr0 hc0; have HB := Aside0.mk (Below.refl w.heap.size w); have H : (if 0 ≤ (l0.length : Int) then (if ((l0.length : Int) : Int).toNat ≤ 35184372088832 then (roll_numbers.l0 k (List.replicate ((l0.length : Int) : Int).toNat 0) l0 (l0.length : Int) 0) else (none)) else (none)) = some (r1, r2) := h; clear h
 by_cases c2 : 0 ≤ (l0.length : Int)
 ·rw [if_pos c2] at H; have c2b0 := eq_true c2; have c2b1 : decide (0 ≤ (l0.length : Int)) = true := decide_eq_true c2; clear c2
  by_cases c3 : ((l0.length : Int) : Int).toNat ≤ 35184372088832
  ·rw [if_pos c3] at H; have c3b0 := eq_true c3; have c3b1 : decide (((l0.length : Int) : Int).toNat ≤ 35184372088832) = true := decide_eq_true c3; clear c3; obtain ⟨y184, hy184⟩ : ∃ y_ : List Int, y_ = (List.replicate ((l0.length : Int) : Int).toNat 0) := ⟨_, rfl⟩
   replace H : (roll_numbers.l0 k y184 l0 (l0.length : Int) 0) = some (r1, r2) := by first | (rw [hy184]; with_reducible exact H) | (have H2_ := (Option.bind_some _ _).symm.trans H; rw [hy184]; with_reducible exact H2_) | (have H2_ := (Option.bind_some _ _).symm.trans H; with_reducible exact H2_) | with_reducible exact H | (rw [hy184]; exact H) | exact H
   have Ny184 := Aside0.mk hy184; clear hy184; have H' := Aside0.mk H; clear H
   go_enter Tryz.func75, Tryz.ntmps75
   go_wp2_with (first | ((with_reducible refine gate_dst (N := 11) rfl ?_); refine Kd.R_make (Kd.int .i64) _ 3 rfl (N := 11) rfl 76 _ _ rfl (l0.length : Int) rfl rfl Tryz.underlying76 (.int .i64 0) 8 info3 rfl (by decide) (by omega) 0 (ok := fun _ => True) (okp := fun _ => True) rfl (fun _ hk => hk) trivial (oda) (Nat.le_trans (Nat.mul_le_mul_right _ (oda : (l0.length : Int).toNat ≤ 35184372088832)) (by omega)) (Below.refl _ _) (Nat.le_refl _) ?_; intro v185 w4 ho5 hb hg_ hnew_; clear hg_ hnew_; (first | rw [← Ny184.out] at ho5 | (simp only [Int.reduceToNat] at ho5; rw [← Ny184.out] at ho5)); have HO186 := Aside0.mk (Kd.R_lower ho5 (below_size (be HB.out))); replace HB := Aside0.mk (below_step (be HB.out) hb); clear hb ho5))
   go_loopg [14] k (fun kq v14 w' => ∃ (x4_1 : List Int) (x14_1 : Int), v14 = .int .i64 x14_1 ∧ Aside0 (roll_numbers.l0 kq x4_1 l0 (l0.length : Int) x14_1 = some (r1, r2)) ∧ Aside0 (kq ≤ k) ∧ Aside0 (Kd.R (Kd.int .i64) 3 w' w.heap.size (fun _ => True) v185 x4_1) ∧ Aside0 (Below w.heap.size w w'))
   case atStart => exact ⟨(y184), (0), (by first | rfl | (simp; done) | (simp [*]; done)), H', ⟨Nat.le_refl _⟩, ⟨ku (HO186.out)⟩, ⟨be HB.out⟩⟩
   case round =>
    clear H'
    try clear c2
    try clear c2b0
    try clear c2b1
    try clear p2
    try clear c3
    try clear c3b0
    try clear c3b1
    obtain ⟨x4_1, x14_1, rfl, HA, HK1, HO_4, HB⟩ := hrel
    cases gk with
    | zero => exact absurd HA.out (by simp [roll_numbers.l0])
    | succ k1 =>
     have H := HA.out; clear HA; simp only [roll_numbers.l0] at H
     by_cases c6 : x14_1 < (l0.length : Int)
     ·rw [if_pos c6] at H; have c6b0 : decide (x14_1 < (l0.length : Int)) = true := decide_eq_true c6; clear c6
      by_cases c7 : 0 ≤ x14_1
      ·rw [if_pos c7] at H; have c7b0 : decide (0 ≤ x14_1) = true := decide_eq_true c7; clear c7
       by_cases c8 : x14_1 < (l0.length : Int)
       ·rw [if_pos c8] at H; have c8b0 : decide (x14_1 < (l0.length : Int)) = true := decide_eq_true c8; clear c8; replace H := Option.bind_eq_some_iff.mp H; obtain ⟨⟨t188, t189⟩, A90, H⟩ := H; replace H : (if t189 = true then (if x14_1 < (x4_1.length : Int) then (roll_numbers.l0 k1 (x4_1.set (x14_1 : Int).toNat t188) l0 (l0.length : Int) (wrap64 (x14_1 + 1))) else (none)) else (some (([] : List Int), false))) = some (r1, r2) := H; have A9 := Aside0.mk A90; clear A90
        by_cases c10 : t189 = true
        ·subst c10
         have H1 : (if x14_1 < (x4_1.length : Int) then (roll_numbers.l0 k1 (x4_1.set (x14_1 : Int).toNat t188) l0 (l0.length : Int) (wrap64 (x14_1 + 1))) else (none)) = some (r1, r2) := by rw [if_pos rfl] at H; exact H
         clear H; have H := H1; clear H1
         by_cases c11 : x14_1 < (x4_1.length : Int)
         ·rw [if_pos c11] at H; have c11b0 : decide (x14_1 < (x4_1.length : Int)) = true := decide_eq_true c11; clear c11; obtain ⟨y190, hy190⟩ : ∃ y_ : List Int, y_ = (x4_1.set (x14_1 : Int).toNat t188) := ⟨_, rfl⟩
          replace H : (roll_numbers.l0 k1 y190 l0 (l0.length : Int) (wrap64 (x14_1 + 1))) = some (r1, r2) := by first | (rw [hy190]; with_reducible exact H) | (have H2_ := (Option.bind_some _ _).symm.trans H; rw [hy190]; with_reducible exact H2_) | (have H2_ := (Option.bind_some _ _).symm.trans H; with_reducible exact H2_) | with_reducible exact H | (rw [hy190]; exact H) | exact H
          have Ny190 := Aside0.mk hy190; clear hy190; have H' := Aside0.mk H; clear H; have p187 : 0 ≤ (x14_1 : Int) := oda; have q187 : x14_1 < (l0.length : Int) := oda; obtain ⟨ad187, e187, hx187_0⟩ := Kd.at_string HR0.out x14_1 p187 q187; cases e187; replace hx187_0 := (HB.out.cell (World.block_lt_of_cell? w _ hx187_0)).trans hx187_0; replace p187 := eq_true p187; replace q187 := eq_true q187
          go_wp2_with (first | ((with_reducible refine gate_callee (f := 86) rfl ?_); refine goesA (some 21) rfl rfl Tryz.func86 (by kernel_rfl) rfl #[.string (rdOf ByteArray.empty l0 x14_1)] rfl ?_; (with_reducible refine (roll_number.calls k1 (rdOf ByteArray.empty l0 x14_1) t188 true _ A9.out).mono ?_); rintro e w13 ⟨rfl, hb⟩; refine ⟨_, rfl, ?_⟩; replace HO_4 := Aside0.mk (Kd.R_below (ku HO_4.out) hb); replace HB := Aside0.mk (below_step (be HB.out) hb); (try clear hb); have p12 : 0 ≤ (x14_1 : Int) := oda; have q12 : (x14_1 : Int) < ((x4_1.length : Int) : Int) := oda; obtain ⟨go12, co12, eo12, gb12, gl12, cl12, HG12⟩ := Kd.R_form HO_4.out (by omega); (first | cases eo12 | (injection eo12 with ea_ en_ ec_; (first | subst ea_ | (injection ea_ with ea_; subst ea_)); subst ec_; clear en_)); have GB12 := Aside0.mk gb12; have GG12 := Aside0.mk HG12; clear gb12 gl12 HG12; obtain ⟨hx12_0, hf12_0⟩ := Kd.R_celln 0 HO_4.out (x14_1 : Int) p12 q12; replace p12 := eq_true p12; replace q12 := eq_true q12; obtain ⟨hy14_, hz14_⟩ := Kd.R_celln 0 HO_4.out (x14_1 : Int) (oda) (oda); have HP14 := Kd.R_putg HO_4.out (x14_1 : Int) t188) | ((with_reducible refine gate_store (t := 3) (p := 29) rfl ?_); refine store_event (t := 3) (p := 29) (v := ?vo_w15) (w1 := (w13.setCell ⟨go12, (x14_1 : Int).toNat, none⟩ (.int .i64 t188))) ?hg ?ho ?hn ?hr ?_; (case ho => rfl); (case hg => rfl); (case hn => rfl); (case hr => first | (go_simp; done) | (go_simp; rfl)); intro w15 hw; have hg : w13.grownBy w15 (some go12) := (by rw [hw]; exact HP14.2); have hp_ : Kd.R (Kd.int .i64) 3 w15 w.heap.size (fun _ => True) (.slice (some ⟨go12, 0, none⟩) x4_1.length co12) y190 := (by rw [hw, Ny190.out]; exact HP14.1); clear HP14; replace HO_4 := Aside0.mk (hp_); replace HB := Aside0.mk ((by rw [hw]; exact below_set (HB.out) GB12.out : Below w.heap.size w w15)); clear hg hw hp_))
          go_roundg k1
          case measure => have := HK1.out; omega
          case rel => exact ⟨(y190), (wrap64 (x14_1 + 1)), (by first | rfl | (simp; done) | (simp [*]; done)), H', ⟨by have := HK1.out; omega⟩, ⟨ku (HO_4.out)⟩, ⟨be HB.out⟩⟩
         ·rw [if_neg c11] at H; exact absurd H (by simp)
        ·replace c10 := Bool.eq_false_iff.mpr c10; subst c10
         have H1 : (some (([] : List Int), false)) = some (r1, r2) := by rw [if_neg (show ¬ (false = true) by decide)] at H; exact H
         clear H; have H := H1; clear H1; simp only [Option.some.injEq, Prod.mk.injEq] at H; obtain ⟨rfl, rfl⟩ := H; have p187 : 0 ≤ (x14_1 : Int) := oda; have q187 : x14_1 < (l0.length : Int) := oda; obtain ⟨ad187, e187, hx187_0⟩ := Kd.at_string HR0.out x14_1 p187 q187; cases e187; replace hx187_0 := (HB.out.cell (World.block_lt_of_cell? w _ hx187_0)).trans hx187_0; replace p187 := eq_true p187; replace q187 := eq_true q187
         go_wp2_with (first | ((with_reducible refine gate_callee (f := 86) rfl ?_); refine goesA (some 21) rfl rfl Tryz.func86 (by kernel_rfl) rfl #[.string (rdOf ByteArray.empty l0 x14_1)] rfl ?_; (with_reducible refine (roll_number.calls k1 (rdOf ByteArray.empty l0 x14_1) t188 false _ A9.out).mono ?_); rintro e w16 ⟨rfl, hb⟩; refine ⟨_, rfl, ?_⟩; replace HO_4 := Aside0.mk (Kd.R_below (ku HO_4.out) hb); replace HB := Aside0.mk (below_step (be HB.out) hb); (try clear hb)))
         go_ret2
         exact ⟨_, by first | rfl | (simp [errW_none, errW_some] <;> rfl) | (simp [*, errW_none, errW_some] <;> rfl), by first | exact Kd.R_nil _ _ _ _ _ | exact Kd.N_nil _ _ _ _ _ | exact Kd.V_nil _ _ _ _ _ | exact Kd.Q_nil _ _ _ _ _ | exact Kd.S_nil _ _ _ _ _, be HB.out⟩
       ·rw [if_neg c8] at H; exact absurd H (by simp)
      ·rw [if_neg c7] at H; exact absurd H (by simp)
     ·rw [if_neg c6] at H; have c6b0 : decide (x14_1 < (l0.length : Int)) = false := decide_eq_false c6; clear c6; simp only [Option.some.injEq, Prod.mk.injEq] at H; obtain ⟨rfl, rfl⟩ := H
      go_wp2
      go_ret2
      exact ⟨_, by first | rfl | (simp [errW_none, errW_some] <;> rfl) | (simp [*, errW_none, errW_some] <;> rfl), ku (HO_4.out), be HB.out⟩
  ·rw [if_neg c3] at H; exact absurd H (by simp)
 ·rw [if_neg c2] at H; exact absurd H (by simp)

end Go.Proofs.YtdblkmnbkpphjaaGreatDoor.P
namespace Go.Proofs.YtdblkmnbkpphjaaGreatDoor.P
open Go.RowKit Go.Proofs.YtdblkmnbkpphjaaGreatDoorW.PrintWords Go.Proofs.YtdblkmnbkpphjaaGreatDoorW.PrintLast Go.Proofs.YtdblkmnbkpphjaaGreatDoorW.PrintMore Go.Proofs.YtdblkmnbkpphjaaGreatDoorW.PrintAuto
attribute [local go_sem] max2_int min2_int max_two min_two max_three min_three max_four min_four   -- for this text's walks alone
set_option linter.unusedVariables false
set_option linter.unusedSimpArgs false

--FLAGS making laid rounds
--IMPORT Derived.BigRegion
def flawsOf (k : Nat) (ws : List ByteArray) : Nat → Nat → List S46 → Option (Option (List S46))
 | 0, _, _ => none
 | n + 1, i, acc =>
  if i < ws.length then
   (roll_numbers.f k ((ws.drop (i + 1)).take 4)).bind fun (f, ok) =>
   if (rdOf ByteArray.empty ws (i : Int)).toList = [102, 108, 97, 119] ∧ ok = true then
    if acc.length < 4398046511104 ∧ f.length = 4 then flawsOf k ws n (i + 5) (acc ++ [⟨rd f 0, rd f 1, rd f 2, rd f 3⟩]) else none
   else some none
  else some (some acc)
def roll_read.f (k : Nat) (a0 : ByteArray) : Option (ByteArray × Int × Int × Int × Int × Int × List S46 × Bool) :=
 if a0.size < 4294967281 then
  if (pieces ⟨#[32]⟩ a0).length < 7 ∨ ((pieces ⟨#[32]⟩ a0).length - 7) % 5 ≠ 0 ∨ (rdOf ByteArray.empty (pieces ⟨#[32]⟩ a0) 0).toList ≠ [114, 111, 108, 108] ∨ (rdOf ByteArray.empty (pieces ⟨#[32]⟩ a0) 1).toList = [] then some (ByteArray.empty, 0, 0, 0, 0, 0, [], false) else
  (roll_numbers.f k (((pieces ⟨#[32]⟩ a0).drop 2).take 5)).bind fun (n, ok) =>
  if ok = true then
   if n.length = 5 then
    (flawsOf k (pieces ⟨#[32]⟩ a0) (pieces ⟨#[32]⟩ a0).length 7 []).bind fun o =>
    match o with
    | some fl => some (rdOf ByteArray.empty (pieces ⟨#[32]⟩ a0) 1, rd n 1, rd n 0, rd n 2, rd n 3, rd n 4, fl, true)
    | none => some (ByteArray.empty, 0, 0, 0, 0, 0, [], false)
   else none
  else some (ByteArray.empty, 0, 0, 0, 0, 0, [], false)
 else none
theorem flawsOf_mono (k : Nat) (ws : List ByteArray) : ∀ n i acc, LeO (flawsOf k ws n i acc) (flawsOf (k + 1) ws n i acc)
 | 0, _, _ => LeO.none _
 | n + 1, i, acc => by
  unfold flawsOf
  refine LeO.ite (LeO.bind (roll_numbers.mono _ _) fun x => ?_) (LeO.refl _); obtain ⟨f, ok⟩ := x; exact LeO.ite (LeO.ite (flawsOf_mono k ws n _ _) (LeO.refl _)) (LeO.refl _)
theorem roll_read.mono : ∀ a0 k, LeO (roll_read.f k a0) (roll_read.f (k + 1) a0) := by
 intro a0 k
 unfold roll_read.f
 refine LeO.ite (LeO.ite (LeO.refl _) (LeO.bind (roll_numbers.mono _ _) fun x => ?_)) (LeO.refl _); obtain ⟨n, ok⟩ := x; exact LeO.ite (LeO.ite (LeO.bind (flawsOf_mono k _ _ _ _) fun _ => LeO.refl _) (LeO.refl _)) (LeO.refl _)
def firstLoop : Code → Option Code
 | .loop c => some c
 | .seq a b => match firstLoop a with
  | some c => some c
  | none => firstLoop b
 | .block _ c => firstLoop c
 | .scope c => firstLoop c
 | .cond _ a b => match firstLoop a with
  | some c => some c
  | none => firstLoop b
 | _ => none
noncomputable def readBody : Code := ((Tryz.f58.body.bind firstLoop).getD .skip)
set_option maxHeartbeats 4000000 in
set_option maxRecDepth 1000000 in
theorem read_loop (k : Nat) (ws : List ByteArray) (o : Option (List S46)) (s1 : ByteArray) (m0 m1 m2 m3 m4 : Int) (ad : Addr) (c gb : Nat) (w w3 : World) (Q0 : Exit → Act → World → Prop) (t0 t1 t3 t5 t6 t9 t10 t11 t12 t13 t14 t15 t16 t17 t18 t19 t20 t21 t22 t23 t24 t25 t26 t27 t28 t29 t30 t31 t32 t33 t34 t35 t36 t37 t38 t39 t40 t41 t42 t43 t44 t45 t46 t47 t48 t49 t50 t51 t52 t53 t54 t55 t56 t57 t58 t59 t60 t61 t62 t63 t64 t65 t66 t67 t68 t69 t70 t71 t72 t73 t74 t75 t76 t77 t78 t79 t80 t81 t82 t83 t84 t85 t86 t87 t88 t89 t90 t91 t92 t93 t94 t95 t96 t97 t98 t99 t100 t101 t102 t103 t104 t105 t106 t107 t108 t109 : Value)
  (C : Code) (hC : C = readBody) (hc : ws.length ≤ c) (hlm : ws.length ≤ 9223372036854775807) (h7 : 7 ≤ ws.length) (h5 : (ws.length - 7) % 5 = 0) (hg2 : w.heap.size < gb) (HF : Aside0 (flawsOf k ws ws.length 7 [] = some o))
  (BK : Aside0 (w3.heap[w.heap.size]? = some (.cells #[.string ⟨#[]⟩, .int .i64 0, .int .i64 0, .int .i64 0, .int .i64 0, .int .i64 0, .slice none 0 0] 26 (0, 0)))) (BR : Aside0 (w3.heap[gb]? = some (.cells #[.string s1, .int .i64 m1, .int .i64 m0, .int .i64 m2, .int .i64 m3, .int .i64 m4, .slice none 0 0] 26 (0, 0)))) (HW : Aside0 (Kd.R Kd.string 9 w3 w.heap.size (fun _ => True) (.slice (some ad) ws.length c) ws)) (HB : Aside0 (Below w.heap.size w w3))
  (hpan : Hid (∀ x a b W, b.defers = a.defers → Q0 (.panic x) a W → Q0 (.panic x) b W))
  (hret : Hid (o = none → ∀ (t0 t1 t5 t6 t8 t9 t10 t11 t12 t13 t14 t15 t16 t17 t18 t19 t20 t21 t22 t23 t24 t25 t26 t27 t28 t29 t30 t31 t32 t33 t34 t35 t36 t37 t38 t39 t40 t41 t42 t43 t44 t45 t46 t47 t48 t49 t50 t51 t52 t53 t54 t55 t56 t57 t58 t59 t60 t61 t62 t63 t64 t65 t66 t67 t68 t69 t70 t71 t72 t73 t74 t75 t76 t77 t78 t79 t80 t81 t82 t83 t84 t85 t86 t87 t88 t89 t90 t91 t92 t93 t94 t95 t96 t97 t98 t99 t100 t101 t102 t103 t104 t105 t106 t107 t108 t109 : Value) (wr : World), wr.heap[w.heap.size]? = some (.cells #[.string ⟨#[]⟩, .int .i64 0, .int .i64 0, .int .i64 0, .int .i64 0, .int .i64 0, .slice none 0 0] 26 (0, 0)) → Below w.heap.size w wr → Q0 .ret ⟨(t0 :: t1 :: Value.pointer (some ⟨w.heap.size, 0, none⟩) :: Value.bool false :: Value.slice (some ad) ws.length c :: t5 :: t6 :: Value.pointer (some ⟨gb, 0, none⟩) :: t8 :: t9 :: t10 :: t11 :: t12 :: t13 :: t14 :: t15 :: t16 :: t17 :: t18 :: t19 :: t20 :: t21 :: t22 :: t23 :: t24 :: t25 :: t26 :: t27 :: t28 :: t29 :: t30 :: t31 :: t32 :: t33 :: t34 :: t35 :: t36 :: t37 :: t38 :: t39 :: t40 :: t41 :: t42 :: t43 :: t44 :: t45 :: t46 :: t47 :: t48 :: t49 :: t50 :: t51 :: t52 :: t53 :: t54 :: t55 :: t56 :: t57 :: t58 :: t59 :: t60 :: t61 :: t62 :: t63 :: t64 :: t65 :: t66 :: t67 :: t68 :: t69 :: t70 :: t71 :: t72 :: t73 :: t74 :: t75 :: t76 :: t77 :: t78 :: t79 :: t80 :: t81 :: t82 :: t83 :: t84 :: t85 :: t86 :: t87 :: t88 :: t89 :: t90 :: t91 :: t92 :: t93 :: t94 :: t95 :: t96 :: t97 :: t98 :: t99 :: t100 :: t101 :: t102 :: t103 :: t104 :: t105 :: t106 :: t107 :: t108 :: t109 :: []).toArray, []⟩ wr))
  (hexit : Hid (∀ (fl : List S46) (v : Value) (t0 t1 t3 t5 t6 t8 t9 t10 t11 t12 t13 t14 t15 t16 t17 t18 t19 t20 t21 t22 t23 t24 t25 t26 t27 t28 t29 t30 t31 t32 t33 t34 t35 t36 t37 t38 t39 t40 t41 t42 t43 t44 t45 t46 t47 t48 t49 t50 t51 t52 t53 t54 t55 t56 t57 t58 t59 t60 t61 t62 t63 t64 t65 t66 t67 t68 t69 t70 t71 t72 t73 t74 t75 t76 t77 t78 t79 t80 t81 t82 t83 t84 t85 t86 t87 t88 t89 t90 t91 t92 t93 t94 t95 t96 t97 t98 t99 t100 t101 t102 t103 t104 t105 t106 t107 t108 t109 : Value) (wr : World), o = some fl → wr.heap[w.heap.size]? = some (.cells #[.string ⟨#[]⟩, .int .i64 0, .int .i64 0, .int .i64 0, .int .i64 0, .int .i64 0, .slice none 0 0] 26 (0, 0)) → wr.heap[gb]? = some (.cells #[.string s1, .int .i64 m1, .int .i64 m0, .int .i64 m2, .int .i64 m3, .int .i64 m4, v] 26 (0, 0)) → Kd.R k46 46 wr w.heap.size (fun _ => True) v fl → Below w.heap.size w wr → Q0 (.exit 0) ⟨(t0 :: t1 :: Value.pointer (some ⟨w.heap.size, 0, none⟩) :: t3 :: Value.slice (some ad) ws.length c :: t5 :: t6 :: Value.pointer (some ⟨gb, 0, none⟩) :: t8 :: t9 :: t10 :: t11 :: t12 :: t13 :: t14 :: t15 :: t16 :: t17 :: t18 :: t19 :: t20 :: t21 :: t22 :: t23 :: t24 :: t25 :: t26 :: t27 :: t28 :: t29 :: t30 :: t31 :: t32 :: t33 :: t34 :: t35 :: t36 :: t37 :: t38 :: t39 :: t40 :: t41 :: t42 :: t43 :: t44 :: t45 :: t46 :: t47 :: t48 :: t49 :: t50 :: t51 :: t52 :: t53 :: t54 :: t55 :: t56 :: t57 :: t58 :: t59 :: t60 :: t61 :: t62 :: t63 :: t64 :: t65 :: t66 :: t67 :: t68 :: t69 :: t70 :: t71 :: t72 :: t73 :: t74 :: t75 :: t76 :: t77 :: t78 :: t79 :: t80 :: t81 :: t82 :: t83 :: t84 :: t85 :: t86 :: t87 :: t88 :: t89 :: t90 :: t91 :: t92 :: t93 :: t94 :: t95 :: t96 :: t97 :: t98 :: t99 :: t100 :: t101 :: t102 :: t103 :: t104 :: t105 :: t106 :: t107 :: t108 :: t109 :: []).toArray, []⟩ wr)) :
  Code.wp Tryz.prog (Code.loop C) Q0 ⟨(t0 :: t1 :: Value.pointer (some ⟨w.heap.size, 0, none⟩) :: t3 :: Value.slice (some ad) ws.length c :: t5 :: t6 :: Value.pointer (some ⟨gb, 0, none⟩) :: Value.int .i64 7 :: t9 :: t10 :: t11 :: t12 :: t13 :: t14 :: t15 :: t16 :: t17 :: t18 :: t19 :: t20 :: t21 :: t22 :: t23 :: t24 :: t25 :: t26 :: t27 :: t28 :: t29 :: t30 :: t31 :: t32 :: t33 :: t34 :: t35 :: t36 :: t37 :: t38 :: t39 :: t40 :: t41 :: t42 :: t43 :: t44 :: t45 :: t46 :: t47 :: t48 :: t49 :: t50 :: t51 :: t52 :: t53 :: t54 :: t55 :: t56 :: t57 :: t58 :: t59 :: t60 :: t61 :: t62 :: t63 :: t64 :: t65 :: t66 :: t67 :: t68 :: t69 :: t70 :: t71 :: t72 :: t73 :: t74 :: t75 :: t76 :: t77 :: t78 :: t79 :: t80 :: t81 :: t82 :: t83 :: t84 :: t85 :: t86 :: t87 :: t88 :: t89 :: t90 :: t91 :: t92 :: t93 :: t94 :: t95 :: t96 :: t97 :: t98 :: t99 :: t100 :: t101 :: t102 :: t103 :: t104 :: t105 :: t106 :: t107 :: t108 :: t109 :: []).toArray, []⟩ w3 := by
 have HV : Aside0 (Kd.R k46 46 w3 w.heap.size (fun _ => True) (.slice none 0 0) []) := ⟨Kd.R_nil _ _ _ _ _⟩; subst hC
 conv => arg 2; arg 1; whnf
 go_loopw [8] (fun i wr => ∃ (j fu : Nat) (acc : List S46) (v : Value), 7 ≤ j ∧ (j - 7) % 5 = 0 ∧ j ≤ ws.length ∧ i = .int .i64 (j : Int) ∧ Aside0 (flawsOf k ws fu j acc = some o) ∧ Aside0 (Kd.R k46 46 wr w.heap.size (fun _ => True) v acc) ∧ Aside0 (wr.heap[w.heap.size]? = some (.cells #[.string ⟨#[]⟩, .int .i64 0, .int .i64 0, .int .i64 0, .int .i64 0, .int .i64 0, .slice none 0 0] 26 (0, 0))) ∧ Aside0 (wr.heap[gb]? = some (.cells #[.string s1, .int .i64 m1, .int .i64 m0, .int .i64 m2, .int .i64 m3, .int .i64 m4, v] 26 (0, 0))) ∧ Aside0 (Kd.R Kd.string 9 wr w.heap.size (fun _ => True) (.slice (some ad) ws.length c) ws) ∧ Aside0 (Below w.heap.size w wr)) (fun i _ => ws.length - (intOf i).toNat)
 case atStart => exact ⟨7, _, _, _, Nat.le_refl _, rfl, h7, rfl, HF, HV, BK, BR, HW, HB⟩
 case round =>
  obtain ⟨j, fu, acc, v, hj7, hj5, hj, rfl, HF, HV, BK, BR, HW, HB⟩ := hrel; have HC := Aside0.mk (Kd.R_reads' HW.out).2.2
  cases fu with
  | zero => cases HF.out
  | succ fu =>
   replace HF := HF.out; rw [flawsOf] at HF
   by_cases hlt : j < ws.length
   ·rw [if_pos hlt] at HF; obtain ⟨⟨f, ok⟩, Hf, HF⟩ := Option.bind_eq_some_iff.mp HF
    have h4 : ((ws.drop (j + 1)).take 4).length = 4 := by rw [List.length_take, List.length_drop]; omega
    have HD := Kd.C_take (m := 4) (Kd.C_drop (m := j + 1) (c := c) HC.out (by omega) hc) (by rw [List.length_drop]; omega); rw [if_neg (by omega)] at HD
    have HE : Option.map (fun x : Addr => x.add ((j + 1) * Kd.string.sz)) (some ad) = some { block := ad.block, off := ad.off + (j + 1) } := by
     show some (ad.add ((j + 1) * 1)) = _
     unfold Addr.add
     rw [if_neg (by omega), Nat.mul_one]
    rw [HE] at HD; clear HE; have HH := roll_numbers.calls k (some { block := ad.block, off := ad.off + (j + 1) }) (c - (j + 1)) ((ws.drop (j + 1)).take 4) f ok wr HD (by omega) Hf; rw [h4] at HH; clear HD Hf h4
    go_wp2_with fail
    refine HH.mono ?_
    rintro e w2 ⟨u, rfl, ho, hb⟩
    clear HH; replace HV := Aside0.mk (Kd.R_below HV.out hb); replace BK := Aside0.mk (blk_below BK.out hb); replace BR := Aside0.mk (blk_below BR.out hb); replace HC := Aside0.mk (Kd.C_below HC.out hb); replace HW := Aside0.mk (Kd.R_below HW.out hb); have HN := Aside0.mk (Kd.R_lower ho (below_size HB.out)); replace HB := Aside0.mk (below_step HB.out hb); clear hb ho; obtain ⟨_, hA, x0⟩ := Kd.at_string HC.out (j : Int) (by omega) (by omega); obtain rfl := Option.some.inj hA; rw [Int.toNat_natCast] at x0
    have hltI : (j : Int) < (ws.length : Int) := by omega
    have hj0 : (0 : Int) ≤ (j : Int) := by omega
    generalize rdOf ByteArray.empty ws (j : Int) = sj at *; clear hA; have z0 := bc BK.out 0 (.string ⟨#[]⟩) rfl; have z1 := bc BK.out 1 (.int .i64 0) rfl; have z2 := bc BK.out 2 (.int .i64 0) rfl; have z3 := bc BK.out 3 (.int .i64 0) rfl; have z4 := bc BK.out 4 (.int .i64 0) rfl; have z5 := bc BK.out 5 (.int .i64 0) rfl; have z6 := bc BK.out 6 (.slice none 0 0) rfl; have y0 := blk_frozen BK.out 0; have y1 := blk_frozen BK.out 1; have y2 := blk_frozen BK.out 2; have y3 := blk_frozen BK.out 3; have y4 := blk_frozen BK.out 4; have y5 := blk_frozen BK.out 5; have y6 := blk_frozen BK.out 6
    by_cases ef : sj.toList = [102, 108, 97, 119]
    ·have d1 : (sj.toList == [102, 108, 97, 119]) = true := beq_iff_eq.mpr ef
     cases ok with
     | false =>
      rw [if_neg (by rintro ⟨_, h_⟩; cases h_)] at HF; have hn := (Option.some.inj HF).symm
      go_wp2_with fail
      refine hret.out hn _ _ _ _ _ _ _ _ _ _ _ _ _ _ _ _ _ _ _ _ _ _ _ _ _ _ _ _ _ _ _ _ _ _ _ _ _ _ _ _ _ _ _ _ _ _ _ _ _ _ _ _ _ _ _ _ _ _ _ _ _ _ _ _ _ _ _ _ _ _ _ _ _ _ _ _ _ _ _ _ _ _ _ _ _ _ _ _ _ _ _ _ _ _ _ _ _ _ _ _ _ _ _ _ _ _ _ ?_ ?_
      ·refine blk_put (cs := #[.string ⟨#[]⟩, .int .i64 0, .int .i64 0, .int .i64 0, .int .i64 0, .int .i64 0, .slice none 0 0]) ?_ 6 _ rfl; refine blk_put (cs := #[.string ⟨#[]⟩, .int .i64 0, .int .i64 0, .int .i64 0, .int .i64 0, .int .i64 0, .slice none 0 0]) ?_ 5 _ rfl; refine blk_put (cs := #[.string ⟨#[]⟩, .int .i64 0, .int .i64 0, .int .i64 0, .int .i64 0, .int .i64 0, .slice none 0 0]) ?_ 4 _ rfl; refine blk_put (cs := #[.string ⟨#[]⟩, .int .i64 0, .int .i64 0, .int .i64 0, .int .i64 0, .int .i64 0, .slice none 0 0]) ?_ 3 _ rfl; refine blk_put (cs := #[.string ⟨#[]⟩, .int .i64 0, .int .i64 0, .int .i64 0, .int .i64 0, .int .i64 0, .slice none 0 0]) ?_ 2 _ rfl; refine blk_put (cs := #[.string ⟨#[]⟩, .int .i64 0, .int .i64 0, .int .i64 0, .int .i64 0, .int .i64 0, .slice none 0 0]) ?_ 1 _ rfl; refine blk_put (cs := #[.string ⟨#[]⟩, .int .i64 0, .int .i64 0, .int .i64 0, .int .i64 0, .int .i64 0, .slice none 0 0]) ?_ 0 _ rfl; exact BK.out
      ·repeat (first | (with_reducible exact HB.out) | (with_reducible refine below_set ?_ (Nat.le_refl _)))
     | true =>
      rw [if_pos ⟨ef, rfl⟩] at HF
      by_cases hcap : acc.length < 4398046511104 ∧ f.length = 4
      ·rw [if_pos hcap] at HF; obtain ⟨hca, hf4⟩ := hcap; replace HF := Aside0.mk HF; clear z0 z1 z2 z3 z4 z5 z6 y0 y1 y2 y3 y4 y5 y6; obtain ⟨Af, cf, rfl, hcf, hNf⟩ := Kd.R_reads HN.out; rw [hf4] at hcf hNf ⊢; obtain ⟨af, hA, n0⟩ := Kd.at_int hNf 0 (by omega) (by omega); subst hA; obtain ⟨_, hA, n1⟩ := Kd.at_int hNf 1 (by omega) (by omega); obtain rfl := Option.some.inj hA; obtain ⟨_, hA, n2⟩ := Kd.at_int hNf 2 (by omega) (by omega); obtain rfl := Option.some.inj hA; obtain ⟨_, hA, n3⟩ := Kd.at_int hNf 3 (by omega) (by omega); obtain rfl := Option.some.inj hA; replace n0 : w2.cell? af = _ := n0; replace n1 : w2.cell? { block := af.block, off := af.off + 1 } = _ := n1; replace n2 : w2.cell? { block := af.block, off := af.off + 2 } = _ := n2; replace n3 : w2.cell? { block := af.block, off := af.off + 3 } = _ := n3; clear hA hNf HN hf4; generalize rd f 0 = f0 at *; generalize rd f 1 = f1 at *; generalize rd f 2 = f2 at *; generalize rd f 3 = f3 at *; have b6 := bc BR.out 6 v rfl
       go_wp2_with fail
       replace HV := Aside0.mk (Kd.R_drew HV.out); replace BK := Aside0.mk (blk_drew BK.out); replace BR := Aside0.mk (blk_drew BR.out); replace HW := Aside0.mk (Kd.R_drew HW.out); replace HB := Aside0.mk (below_drew1 HB.out); refine start_ (n := 19) (S := fun w' => w'.cell? ⟨gb, 6, none⟩ = some v ∧ w'.cell? af = some (.int .i64 f0) ∧ w'.cell? { block := af.block, off := af.off + 1 } = some (.int .i64 f1) ∧ w'.cell? { block := af.block, off := af.off + 2 } = some (.int .i64 f2) ∧ w'.cell? { block := af.block, off := af.off + 3 } = some (.int .i64 f3)) (ds := [16, 18]) #[false, false, false, false, false, false, false, false, false, false, false, false, false, false, false, false, false, false, false] (by kernel_rfl) rfl rfl ⟨b6, n0, n1, n2, n3⟩ (fun hHeld => ?_); generalize w2.drew = w4 at HV BK BR HW HB hHeld ⊢; refine pure_ (i := 0) (N := some 91) (v := ?_) (a' := ?_) #[true, false, false, false, false, false, false, false, false, false, false, false, false, false, false, false, false, false, false] rfl rfl (by kernel_rfl) (fun _ _ _ h => hpan.out _ _ _ _ (by rfl) h) (Or.inl ⟨by rfl, ?_⟩) ?_ ?_
       rotate_left
       ·intro w'
        go_simp
        with_reducible rfl
       rotate_left
       ·simp only [Act.put, List.setIfInBounds_toArray, List.set_cons_zero, List.set_cons_succ, i64_w, i32_w]
        rfl
       refine pure_ (i := 2) (N := some 93) (v := ?_) (a' := ?_) #[true, false, true, false, false, false, false, false, false, false, false, false, false, false, false, false, false, false, false] rfl rfl (by kernel_rfl) (fun _ _ _ h => hpan.out _ _ _ _ (by rfl) h) (Or.inl ⟨by rfl, ?_⟩) ?_ ?_
       rotate_left
       ·intro w'
        go_simp
        with_reducible rfl
       rotate_left
       ·simp only [Act.put, List.setIfInBounds_toArray, List.set_cons_zero, List.set_cons_succ, i64_w, i32_w]
        rfl
       refine pure_ (i := 3) (N := some 94) (v := ?_) (a' := ?_) #[true, false, true, true, false, false, false, false, false, false, false, false, false, false, false, false, false, false, false] rfl rfl (by kernel_rfl) (fun _ _ _ h => hpan.out _ _ _ _ (by rfl) h) (Or.inl ⟨by rfl, ?_⟩) ?_ ?_
       rotate_left
       ·intro w'
        go_simp
        with_reducible rfl
       rotate_left
       ·simp only [Act.put, List.setIfInBounds_toArray, List.set_cons_zero, List.set_cons_succ, i64_w, i32_w]
        rfl
       refine pure_ (i := 5) (N := some 96) (v := ?_) (a' := ?_) #[true, false, true, true, false, true, false, false, false, false, false, false, false, false, false, false, false, false, false] rfl rfl (by kernel_rfl) (fun _ _ _ h => hpan.out _ _ _ _ (by rfl) h) (Or.inl ⟨by rfl, ?_⟩) ?_ ?_
       rotate_left
       ·intro w'
        go_simp
        with_reducible rfl
       rotate_left
       ·simp only [Act.put, List.setIfInBounds_toArray, List.set_cons_zero, List.set_cons_succ, i64_w, i32_w]
        rfl
       refine pure_ (i := 6) (N := some 97) (v := ?_) (a' := ?_) #[true, false, true, true, false, true, true, false, false, false, false, false, false, false, false, false, false, false, false] rfl rfl (by kernel_rfl) (fun _ _ _ h => hpan.out _ _ _ _ (by rfl) h) (Or.inl ⟨by rfl, ?_⟩) ?_ ?_
       rotate_left
       ·intro w'
        go_simp
        with_reducible rfl
       rotate_left
       ·simp only [Act.put, List.setIfInBounds_toArray, List.set_cons_zero, List.set_cons_succ, i64_w, i32_w]
        rfl
       refine pure_ (i := 8) (N := some 99) (v := ?_) (a' := ?_) #[true, false, true, true, false, true, true, false, true, false, false, false, false, false, false, false, false, false, false] rfl rfl (by kernel_rfl) (fun _ _ _ h => hpan.out _ _ _ _ (by rfl) h) (Or.inl ⟨by rfl, ?_⟩) ?_ ?_
       rotate_left
       ·intro w'
        go_simp
        with_reducible rfl
       rotate_left
       ·simp only [Act.put, List.setIfInBounds_toArray, List.set_cons_zero, List.set_cons_succ, i64_w, i32_w]
        rfl
       refine pure_ (i := 9) (N := some 100) (v := ?_) (a' := ?_) #[true, false, true, true, false, true, true, false, true, true, false, false, false, false, false, false, false, false, false] rfl rfl (by kernel_rfl) (fun _ _ _ h => hpan.out _ _ _ _ (by rfl) h) (Or.inl ⟨by rfl, ?_⟩) ?_ ?_
       rotate_left
       ·intro w'
        go_simp
        with_reducible rfl
       rotate_left
       ·simp only [Act.put, List.setIfInBounds_toArray, List.set_cons_zero, List.set_cons_succ, i64_w, i32_w]
        rfl
       refine pure_ (i := 11) (N := some 102) (v := ?_) (a' := ?_) #[true, false, true, true, false, true, true, false, true, true, false, true, false, false, false, false, false, false, false] rfl rfl (by kernel_rfl) (fun _ _ _ h => hpan.out _ _ _ _ (by rfl) h) (Or.inl ⟨by rfl, ?_⟩) ?_ ?_
       rotate_left
       ·intro w'
        go_simp
        with_reducible rfl
       rotate_left
       ·simp only [Act.put, List.setIfInBounds_toArray, List.set_cons_zero, List.set_cons_succ, i64_w, i32_w]
        rfl
       refine pure_ (i := 12) (N := some 103) (v := ?_) (a' := ?_) #[true, false, true, true, false, true, true, false, true, true, false, true, true, false, false, false, false, false, false] rfl rfl (by kernel_rfl) (fun _ _ _ h => hpan.out _ _ _ _ (by rfl) h) (Or.inl ⟨by rfl, ?_⟩) ?_ ?_
       rotate_left
       ·intro w'
        go_simp
        with_reducible rfl
       rotate_left
       ·simp only [Act.put, List.setIfInBounds_toArray, List.set_cons_zero, List.set_cons_succ, i64_w, i32_w]
        rfl
       refine take_ (i := 1) (N := some 92) (v := ?_) (a' := ?_) #[true, true, true, true, false, true, true, false, true, true, false, true, true, false, false, false, false, false, false] rfl rfl (by kernel_rfl) (fun _ _ _ h => hpan.out _ _ _ _ (by rfl) h) (Or.inl ⟨by rfl, ?_⟩) hHeld ?_ ?_
       rotate_left
       ·rintro w' ⟨s0, s1, s2, s3, s4⟩
        go_simp
        with_reducible rfl
       rotate_left
       ·simp only [Act.put, List.setIfInBounds_toArray, List.set_cons_zero, List.set_cons_succ, i64_w, i32_w]
        rfl
       refine take_ (i := 4) (N := some 95) (v := ?_) (a' := ?_) #[true, true, true, true, true, true, true, false, true, true, false, true, true, false, false, false, false, false, false] rfl rfl (by kernel_rfl) (fun _ _ _ h => hpan.out _ _ _ _ (by rfl) h) (Or.inl ⟨by rfl, ?_⟩) hHeld ?_ ?_
       rotate_left
       ·rintro w' ⟨s0, s1, s2, s3, s4⟩
        go_simp
        with_reducible rfl
       rotate_left
       ·simp only [Act.put, List.setIfInBounds_toArray, List.set_cons_zero, List.set_cons_succ, i64_w, i32_w]
        rfl
       refine take_ (i := 7) (N := some 98) (v := ?_) (a' := ?_) #[true, true, true, true, true, true, true, true, true, true, false, true, true, false, false, false, false, false, false] rfl rfl (by kernel_rfl) (fun _ _ _ h => hpan.out _ _ _ _ (by rfl) h) (Or.inl ⟨by rfl, ?_⟩) hHeld ?_ ?_
       rotate_left
       ·rintro w' ⟨s0, s1, s2, s3, s4⟩
        go_simp
        with_reducible rfl
       rotate_left
       ·simp only [Act.put, List.setIfInBounds_toArray, List.set_cons_zero, List.set_cons_succ, i64_w, i32_w]
        rfl
       refine take_ (i := 10) (N := some 101) (v := ?_) (a' := ?_) #[true, true, true, true, true, true, true, true, true, true, true, true, true, false, false, false, false, false, false] rfl rfl (by kernel_rfl) (fun _ _ _ h => hpan.out _ _ _ _ (by rfl) h) (Or.inl ⟨by rfl, ?_⟩) hHeld ?_ ?_
       rotate_left
       ·rintro w' ⟨s0, s1, s2, s3, s4⟩
        go_simp
        with_reducible rfl
       rotate_left
       ·simp only [Act.put, List.setIfInBounds_toArray, List.set_cons_zero, List.set_cons_succ, i64_w, i32_w]
        rfl
       refine take_ (i := 13) (N := some 104) (v := ?_) (a' := ?_) #[true, true, true, true, true, true, true, true, true, true, true, true, true, true, false, false, false, false, false] rfl rfl (by kernel_rfl) (fun _ _ _ h => hpan.out _ _ _ _ (by rfl) h) (Or.inl ⟨by rfl, ?_⟩) hHeld ?_ ?_
       rotate_left
       ·rintro w' ⟨s0, s1, s2, s3, s4⟩
        go_simp
        with_reducible rfl
       rotate_left
       ·simp only [Act.put, List.setIfInBounds_toArray, List.set_cons_zero, List.set_cons_succ, i64_w, i32_w]
        rfl
       refine pure_ (i := 14) (N := some 105) (v := ?_) (a' := ?_) #[true, true, true, true, true, true, true, true, true, true, true, true, true, true, true, false, false, false, false] rfl rfl (by kernel_rfl) (fun _ _ _ h => hpan.out _ _ _ _ (by rfl) h) (Or.inl ⟨by rfl, ?_⟩) ?_ ?_
       rotate_left
       ·intro w'
        go_simp
        with_reducible rfl
       rotate_left
       ·simp only [Act.put, List.setIfInBounds_toArray, List.set_cons_zero, List.set_cons_succ, i64_w, i32_w]
        rfl
       refine one_ (i := 15) (N := some 106) #[true, true, true, true, true, true, true, true, true, true, true, true, true, true, true, true, false, false, false] rfl rfl (by kernel_rfl) (by decide) (fun K hK => ?_); refine value_ (w1 := ?_) (v := ?_) (by rfl) rfl ?_ ?_
       rotate_left 2
       ·go_simp
        constructor
        ·rfl
        ·rfl
       refine hK.out _ _ ⟨(World.cell?_alloc_lt _ _ _ (World.block_lt_of_cell? _ _ (hHeld.1))).trans (hHeld.1), (World.cell?_alloc_lt _ _ _ (World.block_lt_of_cell? _ _ (hHeld.2.1))).trans (hHeld.2.1), (World.cell?_alloc_lt _ _ _ (World.block_lt_of_cell? _ _ (hHeld.2.2.1))).trans (hHeld.2.2.1), (World.cell?_alloc_lt _ _ _ (World.block_lt_of_cell? _ _ (hHeld.2.2.2.1))).trans (hHeld.2.2.2.1), (World.cell?_alloc_lt _ _ _ (World.block_lt_of_cell? _ _ (hHeld.2.2.2.2))).trans (hHeld.2.2.2.2)⟩ (fun hHeld => ?_); clear hK K; refine norm_ (a' := ?_) ?_ ?_
       rotate_left
       ·show Act.put _ (some 106) _ = _
        simp only [Act.put, List.setIfInBounds_toArray, List.set_cons_zero, List.set_cons_succ, i64_w, i32_w]
        rfl
       refine last_ (i := 16) (N := some 107) #[true, true, true, true, true, true, true, true, true, true, true, true, true, true, true, true, true, false, false] rfl rfl (by kernel_rfl) (by decide) (fun K hK => ?_); refine Kd.R_append_step k46 (w0 := w) w.heap.size (by rfl) (.tmp 92) (.tmp 106) 24 46 (.agg #[(.int .i64 0), (.int .i64 0), (.int .i64 0), (.int .i64 0)]) 32 rfl Tryz.underlying24 info46 rfl (by decide) (by omega) v acc (⟨f0, f1, f2, f3⟩ : S46) [.int .i64 f0, .int .i64 f1, .int .i64 f2, .int .i64 f3] (fun _ => True) (fun _ => False) rfl rfl ?aP (fun _ hk => hk.elim) ?aF ?aO ?aB ?aS ?aL ?_
       (case aP => exact k46_mkM _ _ _ (⟨f0, f1, f2, f3⟩ : S46))
       (case aB => exact HB.out)
       (case aF => exact (fun _ _ => trivial))
       (case aO => exact HV.out)
       (case aS => exact (below_size HB.out))
       (case aL => omega)
       intro v1 w5 ho hb hg hat; clear hat; have BK5 := Aside0.mk (blk_grown BK.out hg (Kd.R_ne HV.out BK.out (by decide))); have BR5 := Aside0.mk (blk_grown BR.out hg (Kd.R_ne HV.out BR.out (by decide))); have HW5 := Aside0.mk (Kd.R_grown1 HW.out rfl hg (fun e_ => by obtain ⟨cs_, hcs_⟩ := Kd.R_typed HW.out ad.block rfl; exact Kd.R_ne HV.out hcs_ (by decide) e_.symm)); have HB5 := Aside0.mk hb; have HV5 := Aside0.mk ho; clear hb ho hg; obtain ⟨Ao, co, eo⟩ := Kd.R_slice HV5.out; subst eo; have y6 := blk_frozen BR5.out 6; have c6 := bc BR5.out 6 v rfl; refine hK.out _ _ ?_; clear hK K; refine norm_ (a' := ?_) ?_ ?_
       rotate_left
       ·show Act.put _ (some 107) _ = _
        simp only [Act.put, List.setIfInBounds_toArray, List.set_cons_zero, List.set_cons_succ, i64_w, i32_w]
        rfl
       refine pure_ (i := 17) (N := some 108) (v := ?_) (a' := ?_) #[true, true, true, true, true, true, true, true, true, true, true, true, true, true, true, true, true, true, false] rfl rfl (by kernel_rfl) (fun _ _ _ h => hpan.out _ _ _ _ (by rfl) h) (Or.inl ⟨by rfl, ?_⟩) ?_ ?_
       rotate_left
       ·intro w'
        go_simp
        with_reducible rfl
       rotate_left
       ·simp only [Act.put, List.setIfInBounds_toArray, List.set_cons_zero, List.set_cons_succ, i64_w, i32_w]
        rfl
       refine last_ (i := 18) (N := none) #[true, true, true, true, true, true, true, true, true, true, true, true, true, true, true, true, true, true, true] rfl rfl (by kernel_rfl) (by decide) (fun K hK => ?_); refine skip_ (w1 := ?_) (by rfl) rfl ?_ ?_
       rotate_left
       ·go_simp
        rfl
       refine hK.out _ _ ?_; clear hK K; refine done_ (by kernel_rfl) ?_
       have hlen : (acc ++ [(⟨f0, f1, f2, f3⟩ : S46)]).length = acc.length + 1 := by simp
       rw [hlen] at HV5; have hv1 : Hid (some gb ≠ (Value.slice Ao (acc.length + 1) co).ownBlock) := Kd.R_ne HV5.out BR5.out (by decide); have hwb : Hid (some gb ≠ (Value.slice (some ad) ws.length c).ownBlock) := Kd.R_ne HW5.out BR5.out (by decide)
       go_wp2_with fail
       exact ⟨⟨j + 5, fu, acc ++ [⟨f0, f1, f2, f3⟩], _, by omega, by omega, by omega, rfl, HF, ⟨Kd.R_mono (Kd.R_far (Kd.R_far1 HV5.out rfl hv1.out) (fun _ hk => hk.2) _) (fun _ _ => trivial)⟩, ⟨blk_far BK5.out (by show w.heap.size ≠ gb; omega) _⟩, ⟨blk_put (cs := #[.string s1, .int .i64 m1, .int .i64 m0, .int .i64 m2, .int .i64 m3, .int .i64 m4, v]) BR5.out 6 _ rfl⟩, ⟨Kd.R_mono (Kd.R_far (Kd.R_far1 HW5.out rfl hwb.out) (fun _ hk => hk.2) _) (fun _ _ => trivial)⟩, ⟨below_set HB5.out (by omega)⟩⟩, by simp [intOf]; omega⟩
      ·rw [if_neg hcap] at HF; cases HF
    ·have d1 : (sj.toList == [102, 108, 97, 119]) = false := beq_eq_false_iff_ne.mpr ef; rw [if_neg (by rintro ⟨h_, _⟩; exact ef h_)] at HF; have hn := (Option.some.inj HF).symm
     go_wp2_with fail
     refine hret.out hn _ _ _ _ _ _ _ _ _ _ _ _ _ _ _ _ _ _ _ _ _ _ _ _ _ _ _ _ _ _ _ _ _ _ _ _ _ _ _ _ _ _ _ _ _ _ _ _ _ _ _ _ _ _ _ _ _ _ _ _ _ _ _ _ _ _ _ _ _ _ _ _ _ _ _ _ _ _ _ _ _ _ _ _ _ _ _ _ _ _ _ _ _ _ _ _ _ _ _ _ _ _ _ _ _ _ _ ?_ ?_
     ·refine blk_put (cs := #[.string ⟨#[]⟩, .int .i64 0, .int .i64 0, .int .i64 0, .int .i64 0, .int .i64 0, .slice none 0 0]) ?_ 6 _ rfl; refine blk_put (cs := #[.string ⟨#[]⟩, .int .i64 0, .int .i64 0, .int .i64 0, .int .i64 0, .int .i64 0, .slice none 0 0]) ?_ 5 _ rfl; refine blk_put (cs := #[.string ⟨#[]⟩, .int .i64 0, .int .i64 0, .int .i64 0, .int .i64 0, .int .i64 0, .slice none 0 0]) ?_ 4 _ rfl; refine blk_put (cs := #[.string ⟨#[]⟩, .int .i64 0, .int .i64 0, .int .i64 0, .int .i64 0, .int .i64 0, .slice none 0 0]) ?_ 3 _ rfl; refine blk_put (cs := #[.string ⟨#[]⟩, .int .i64 0, .int .i64 0, .int .i64 0, .int .i64 0, .int .i64 0, .slice none 0 0]) ?_ 2 _ rfl; refine blk_put (cs := #[.string ⟨#[]⟩, .int .i64 0, .int .i64 0, .int .i64 0, .int .i64 0, .int .i64 0, .slice none 0 0]) ?_ 1 _ rfl; refine blk_put (cs := #[.string ⟨#[]⟩, .int .i64 0, .int .i64 0, .int .i64 0, .int .i64 0, .int .i64 0, .slice none 0 0]) ?_ 0 _ rfl; exact BK.out
     ·repeat (first | (with_reducible exact HB.out) | (with_reducible refine below_set ?_ (Nat.le_refl _)))
   ·rw [if_neg hlt] at HF; have hn := (Option.some.inj HF).symm
    have hltI : ¬ (j : Int) < (ws.length : Int) := by omega
    go_wp2_with fail
    exact hexit.out acc v _ _ _ _ _ _ _ _ _ _ _ _ _ _ _ _ _ _ _ _ _ _ _ _ _ _ _ _ _ _ _ _ _ _ _ _ _ _ _ _ _ _ _ _ _ _ _ _ _ _ _ _ _ _ _ _ _ _ _ _ _ _ _ _ _ _ _ _ _ _ _ _ _ _ _ _ _ _ _ _ _ _ _ _ _ _ _ _ _ _ _ _ _ _ _ _ _ _ _ _ _ _ _ _ _ _ _ _ hn.symm.symm BK.out BR.out HV.out HB.out
set_option maxHeartbeats 1000000 in
set_option maxRecDepth 100000 in
theorem roll_read.calls (k : Nat) (a0 : ByteArray) (r1 : ByteArray) (r2 : Int) (r3 : Int) (r4 : Int) (r5 : Int) (r6 : Int) (r7 : List S46) (r8 : Bool) (w : World) (h : roll_read.f k a0 = some (r1, r2, r3, r4, r5, r6, r7, r8)) (hG : Aside0 (GL w)) :
  Calls Tryz.prog 58 #[.string a0] w fun e w' => ∃ v6_ : Value, e = .returned (.tuple #[.agg #[.string r1, .int .i64 r2, .int .i64 r3, .int .i64 r4, .int .i64 r5, .int .i64 r6, v6_], .bool r8]) ∧ Kd.R k46 46 w' w.heap.size (fun _ => True) v6_ r7 ∧ Below w.heap.size w w' := by
 unfold roll_read.f at h
 split at h
 ·rename_i hsz
  go_enter Tryz.func58, Tryz.ntmps58
  go_wp2_with fail
  have BK := Aside0.mk (heap_alloc_new w (.cells #[.string ⟨#[]⟩, .int .i64 0, .int .i64 0, .int .i64 0, .int .i64 0, .int .i64 0, .slice none 0 0] 26)); have HB := Aside0.mk (below_alloc (Below.refl w.heap.size w) (.cells #[.string ⟨#[]⟩, .int .i64 0, .int .i64 0, .int .i64 0, .int .i64 0, .int .i64 0, .slice none 0 0] 26))
  have hs : strings_Split.f a0 ⟨#[32]⟩ = some (pieces ⟨#[32]⟩ a0) := by unfold strings_Split.f; rw [if_pos ⟨hsz, by decide⟩]
  refine (strings_Split.calls a0 ⟨#[32]⟩ _ _ hs (Aside0.mk (GL.below hG.out HB.out))).mono ?_
  rintro e w1 ⟨v, rfl, ho, hb⟩
  have HO := Aside0.mk (Kd.R_lower ho (below_size HB.out)); replace BK := Aside0.mk (blk_below BK.out hb); replace HB := Aside0.mk (below_step HB.out hb); clear ho hb hs; generalize pieces ⟨#[32]⟩ a0 = ws at *; obtain ⟨A, c, rfl, hc, hC⟩ := Kd.R_reads HO.out; have HC := Aside0.mk hC; have hlm : ws.length ≤ 9223372036854775807 := hC.2.1; clear hC; have z0 := bc BK.out 0 (.string ⟨#[]⟩) rfl; have z1 := bc BK.out 1 (.int .i64 0) rfl; have z2 := bc BK.out 2 (.int .i64 0) rfl; have z3 := bc BK.out 3 (.int .i64 0) rfl; have z4 := bc BK.out 4 (.int .i64 0) rfl; have z5 := bc BK.out 5 (.int .i64 0) rfl; have z6 := bc BK.out 6 (.slice none 0 0) rfl; have y0 := blk_frozen BK.out 0; have y1 := blk_frozen BK.out 1; have y2 := blk_frozen BK.out 2; have y3 := blk_frozen BK.out 3; have y4 := blk_frozen BK.out 4; have y5 := blk_frozen BK.out 5; have y6 := blk_frozen BK.out 6
  by_cases e1 : ws.length < 7
  ·rw [if_pos (Or.inl e1)] at h; have d1 : decide ((ws.length : Int) < 7) = true := decide_eq_true (by omega)
   go_wp2_with fail
   simp only [Option.some.injEq, Prod.mk.injEq] at h; obtain ⟨rfl, rfl, rfl, rfl, rfl, rfl, rfl, rfl⟩ := h; refine bodyPost_ret (results_ct rfl _ _ w.heap.size 26 #[.string ⟨#[]⟩, .int .i64 0, .int .i64 0, .int .i64 0, .int .i64 0, .int .i64 0, .slice none 0 0] (0, 0) _ rfl (by (with_reducible repeat (first | refine blk_drewN ?_ _ | refine blk_drew ?_ | refine blk_alloc ?_ _)); refine blk_put (cs := #[.string ⟨#[]⟩, .int .i64 0, .int .i64 0, .int .i64 0, .int .i64 0, .int .i64 0, .slice none 0 0]) ?_ 6 _ rfl; (with_reducible repeat (first | refine blk_drewN ?_ _ | refine blk_drew ?_ | refine blk_alloc ?_ _)); refine blk_put (cs := #[.string ⟨#[]⟩, .int .i64 0, .int .i64 0, .int .i64 0, .int .i64 0, .int .i64 0, .slice none 0 0]) ?_ 5 _ rfl; (with_reducible repeat (first | refine blk_drewN ?_ _ | refine blk_drew ?_ | refine blk_alloc ?_ _)); refine blk_put (cs := #[.string ⟨#[]⟩, .int .i64 0, .int .i64 0, .int .i64 0, .int .i64 0, .int .i64 0, .slice none 0 0]) ?_ 4 _ rfl; (with_reducible repeat (first | refine blk_drewN ?_ _ | refine blk_drew ?_ | refine blk_alloc ?_ _)); refine blk_put (cs := #[.string ⟨#[]⟩, .int .i64 0, .int .i64 0, .int .i64 0, .int .i64 0, .int .i64 0, .slice none 0 0]) ?_ 3 _ rfl; (with_reducible repeat (first | refine blk_drewN ?_ _ | refine blk_drew ?_ | refine blk_alloc ?_ _)); refine blk_put (cs := #[.string ⟨#[]⟩, .int .i64 0, .int .i64 0, .int .i64 0, .int .i64 0, .int .i64 0, .slice none 0 0]) ?_ 2 _ rfl; (with_reducible repeat (first | refine blk_drewN ?_ _ | refine blk_drew ?_ | refine blk_alloc ?_ _)); refine blk_put (cs := #[.string ⟨#[]⟩, .int .i64 0, .int .i64 0, .int .i64 0, .int .i64 0, .int .i64 0, .slice none 0 0]) ?_ 1 _ rfl; (with_reducible repeat (first | refine blk_drewN ?_ _ | refine blk_drew ?_ | refine blk_alloc ?_ _)); refine blk_put (cs := #[.string ⟨#[]⟩, .int .i64 0, .int .i64 0, .int .i64 0, .int .i64 0, .int .i64 0, .slice none 0 0]) ?_ 0 _ rfl; (with_reducible repeat (first | refine blk_drewN ?_ _ | refine blk_drew ?_ | refine blk_alloc ?_ _)); exact BK.out) Tryz.underlying26 rfl (by kernel_rfl)) rfl ?_; exact ⟨_, rfl, Kd.R_nil _ _ _ _ _, by repeat (first | (with_reducible exact HB.out) | (with_reducible apply below_drew1) | (with_reducible refine below_set ?_ (Nat.le_refl _)))⟩
  have d1 : decide ((ws.length : Int) < 7) = false := decide_eq_false (by omega)
  have hw7 : wrap64 ((ws.length : Int) - 7) = ((ws.length - 7 : Nat) : Int) := by unfold wrap64; omega
  by_cases e2 : (ws.length - 7) % 5 ≠ 0
  ·rw [if_pos (Or.inr (Or.inl e2))] at h
   have d2 : ((wrap64 ((ws.length : Int) - 7)).tmod 5 != 0) = true := by rw [hw7, Int.tmod_eq_emod_of_nonneg (by omega)]; exact bne_iff_ne.mpr (by omega)
   go_wp2_with fail
   simp only [Option.some.injEq, Prod.mk.injEq] at h; obtain ⟨rfl, rfl, rfl, rfl, rfl, rfl, rfl, rfl⟩ := h; refine bodyPost_ret (results_ct rfl _ _ w.heap.size 26 #[.string ⟨#[]⟩, .int .i64 0, .int .i64 0, .int .i64 0, .int .i64 0, .int .i64 0, .slice none 0 0] (0, 0) _ rfl (by (with_reducible repeat (first | refine blk_drewN ?_ _ | refine blk_drew ?_ | refine blk_alloc ?_ _)); refine blk_put (cs := #[.string ⟨#[]⟩, .int .i64 0, .int .i64 0, .int .i64 0, .int .i64 0, .int .i64 0, .slice none 0 0]) ?_ 6 _ rfl; (with_reducible repeat (first | refine blk_drewN ?_ _ | refine blk_drew ?_ | refine blk_alloc ?_ _)); refine blk_put (cs := #[.string ⟨#[]⟩, .int .i64 0, .int .i64 0, .int .i64 0, .int .i64 0, .int .i64 0, .slice none 0 0]) ?_ 5 _ rfl; (with_reducible repeat (first | refine blk_drewN ?_ _ | refine blk_drew ?_ | refine blk_alloc ?_ _)); refine blk_put (cs := #[.string ⟨#[]⟩, .int .i64 0, .int .i64 0, .int .i64 0, .int .i64 0, .int .i64 0, .slice none 0 0]) ?_ 4 _ rfl; (with_reducible repeat (first | refine blk_drewN ?_ _ | refine blk_drew ?_ | refine blk_alloc ?_ _)); refine blk_put (cs := #[.string ⟨#[]⟩, .int .i64 0, .int .i64 0, .int .i64 0, .int .i64 0, .int .i64 0, .slice none 0 0]) ?_ 3 _ rfl; (with_reducible repeat (first | refine blk_drewN ?_ _ | refine blk_drew ?_ | refine blk_alloc ?_ _)); refine blk_put (cs := #[.string ⟨#[]⟩, .int .i64 0, .int .i64 0, .int .i64 0, .int .i64 0, .int .i64 0, .slice none 0 0]) ?_ 2 _ rfl; (with_reducible repeat (first | refine blk_drewN ?_ _ | refine blk_drew ?_ | refine blk_alloc ?_ _)); refine blk_put (cs := #[.string ⟨#[]⟩, .int .i64 0, .int .i64 0, .int .i64 0, .int .i64 0, .int .i64 0, .slice none 0 0]) ?_ 1 _ rfl; (with_reducible repeat (first | refine blk_drewN ?_ _ | refine blk_drew ?_ | refine blk_alloc ?_ _)); refine blk_put (cs := #[.string ⟨#[]⟩, .int .i64 0, .int .i64 0, .int .i64 0, .int .i64 0, .int .i64 0, .slice none 0 0]) ?_ 0 _ rfl; (with_reducible repeat (first | refine blk_drewN ?_ _ | refine blk_drew ?_ | refine blk_alloc ?_ _)); exact BK.out) Tryz.underlying26 rfl (by kernel_rfl)) rfl ?_; exact ⟨_, rfl, Kd.R_nil _ _ _ _ _, by repeat (first | (with_reducible exact HB.out) | (with_reducible apply below_drew1) | (with_reducible refine below_set ?_ (Nat.le_refl _)))⟩
  have d2 : ((wrap64 ((ws.length : Int) - 7)).tmod 5 != 0) = false := by rw [hw7, Int.tmod_eq_emod_of_nonneg (by omega)]; exact bne_eq_false_iff_eq.mpr (by omega)
  obtain ⟨ad, hA, x0⟩ := Kd.at_string HC.out 0 (by omega) (by omega); subst hA; obtain ⟨ad_, hA, x1⟩ := Kd.at_string HC.out 1 (by omega) (by omega); obtain rfl := Option.some.inj hA
  have q0 : (0 : Int) < (ws.length : Int) := by omega
  have q1 : (1 : Int) < (ws.length : Int) := by omega
  simp only [show Int.toNat 0 = 0 from rfl, show Int.toNat 1 = 1 from rfl] at x0 x1; generalize hs0 : rdOf ByteArray.empty ws 0 = s0 at *; generalize hs1 : rdOf ByteArray.empty ws 1 = s1 at *; replace x0 : w1.cell? ad = some (.string s0) := x0; clear hs0 hA hw7; replace x1 : w1.cell? { block := ad.block, off := ad.off + 1 } = some (.string s1) := x1
  by_cases e3 : s0.toList ≠ [114, 111, 108, 108]
  ·rw [if_pos (Or.inr (Or.inr (Or.inl e3)))] at h; have d3 : (s0.toList == [114, 111, 108, 108]) = false := beq_eq_false_iff_ne.mpr e3
   go_wp2_with fail
   simp only [Option.some.injEq, Prod.mk.injEq] at h; obtain ⟨rfl, rfl, rfl, rfl, rfl, rfl, rfl, rfl⟩ := h; refine bodyPost_ret (results_ct rfl _ _ w.heap.size 26 #[.string ⟨#[]⟩, .int .i64 0, .int .i64 0, .int .i64 0, .int .i64 0, .int .i64 0, .slice none 0 0] (0, 0) _ rfl (by (with_reducible repeat (first | refine blk_drewN ?_ _ | refine blk_drew ?_ | refine blk_alloc ?_ _)); refine blk_put (cs := #[.string ⟨#[]⟩, .int .i64 0, .int .i64 0, .int .i64 0, .int .i64 0, .int .i64 0, .slice none 0 0]) ?_ 6 _ rfl; (with_reducible repeat (first | refine blk_drewN ?_ _ | refine blk_drew ?_ | refine blk_alloc ?_ _)); refine blk_put (cs := #[.string ⟨#[]⟩, .int .i64 0, .int .i64 0, .int .i64 0, .int .i64 0, .int .i64 0, .slice none 0 0]) ?_ 5 _ rfl; (with_reducible repeat (first | refine blk_drewN ?_ _ | refine blk_drew ?_ | refine blk_alloc ?_ _)); refine blk_put (cs := #[.string ⟨#[]⟩, .int .i64 0, .int .i64 0, .int .i64 0, .int .i64 0, .int .i64 0, .slice none 0 0]) ?_ 4 _ rfl; (with_reducible repeat (first | refine blk_drewN ?_ _ | refine blk_drew ?_ | refine blk_alloc ?_ _)); refine blk_put (cs := #[.string ⟨#[]⟩, .int .i64 0, .int .i64 0, .int .i64 0, .int .i64 0, .int .i64 0, .slice none 0 0]) ?_ 3 _ rfl; (with_reducible repeat (first | refine blk_drewN ?_ _ | refine blk_drew ?_ | refine blk_alloc ?_ _)); refine blk_put (cs := #[.string ⟨#[]⟩, .int .i64 0, .int .i64 0, .int .i64 0, .int .i64 0, .int .i64 0, .slice none 0 0]) ?_ 2 _ rfl; (with_reducible repeat (first | refine blk_drewN ?_ _ | refine blk_drew ?_ | refine blk_alloc ?_ _)); refine blk_put (cs := #[.string ⟨#[]⟩, .int .i64 0, .int .i64 0, .int .i64 0, .int .i64 0, .int .i64 0, .slice none 0 0]) ?_ 1 _ rfl; (with_reducible repeat (first | refine blk_drewN ?_ _ | refine blk_drew ?_ | refine blk_alloc ?_ _)); refine blk_put (cs := #[.string ⟨#[]⟩, .int .i64 0, .int .i64 0, .int .i64 0, .int .i64 0, .int .i64 0, .slice none 0 0]) ?_ 0 _ rfl; (with_reducible repeat (first | refine blk_drewN ?_ _ | refine blk_drew ?_ | refine blk_alloc ?_ _)); exact BK.out) Tryz.underlying26 rfl (by kernel_rfl)) rfl ?_; exact ⟨_, rfl, Kd.R_nil _ _ _ _ _, by repeat (first | (with_reducible exact HB.out) | (with_reducible apply below_drew1) | (with_reducible refine below_set ?_ (Nat.le_refl _)))⟩
  have d3 : (s0.toList == [114, 111, 108, 108]) = true := beq_iff_eq.mpr (Decidable.not_not.mp e3)
  by_cases e4 : s1.toList = []
  ·rw [if_pos (Or.inr (Or.inr (Or.inr e4)))] at h; have d4 : (s1.toList == []) = true := beq_iff_eq.mpr e4
   go_wp2_with fail
   simp only [Option.some.injEq, Prod.mk.injEq] at h; obtain ⟨rfl, rfl, rfl, rfl, rfl, rfl, rfl, rfl⟩ := h; refine bodyPost_ret (results_ct rfl _ _ w.heap.size 26 #[.string ⟨#[]⟩, .int .i64 0, .int .i64 0, .int .i64 0, .int .i64 0, .int .i64 0, .slice none 0 0] (0, 0) _ rfl (by (with_reducible repeat (first | refine blk_drewN ?_ _ | refine blk_drew ?_ | refine blk_alloc ?_ _)); refine blk_put (cs := #[.string ⟨#[]⟩, .int .i64 0, .int .i64 0, .int .i64 0, .int .i64 0, .int .i64 0, .slice none 0 0]) ?_ 6 _ rfl; (with_reducible repeat (first | refine blk_drewN ?_ _ | refine blk_drew ?_ | refine blk_alloc ?_ _)); refine blk_put (cs := #[.string ⟨#[]⟩, .int .i64 0, .int .i64 0, .int .i64 0, .int .i64 0, .int .i64 0, .slice none 0 0]) ?_ 5 _ rfl; (with_reducible repeat (first | refine blk_drewN ?_ _ | refine blk_drew ?_ | refine blk_alloc ?_ _)); refine blk_put (cs := #[.string ⟨#[]⟩, .int .i64 0, .int .i64 0, .int .i64 0, .int .i64 0, .int .i64 0, .slice none 0 0]) ?_ 4 _ rfl; (with_reducible repeat (first | refine blk_drewN ?_ _ | refine blk_drew ?_ | refine blk_alloc ?_ _)); refine blk_put (cs := #[.string ⟨#[]⟩, .int .i64 0, .int .i64 0, .int .i64 0, .int .i64 0, .int .i64 0, .slice none 0 0]) ?_ 3 _ rfl; (with_reducible repeat (first | refine blk_drewN ?_ _ | refine blk_drew ?_ | refine blk_alloc ?_ _)); refine blk_put (cs := #[.string ⟨#[]⟩, .int .i64 0, .int .i64 0, .int .i64 0, .int .i64 0, .int .i64 0, .slice none 0 0]) ?_ 2 _ rfl; (with_reducible repeat (first | refine blk_drewN ?_ _ | refine blk_drew ?_ | refine blk_alloc ?_ _)); refine blk_put (cs := #[.string ⟨#[]⟩, .int .i64 0, .int .i64 0, .int .i64 0, .int .i64 0, .int .i64 0, .slice none 0 0]) ?_ 1 _ rfl; (with_reducible repeat (first | refine blk_drewN ?_ _ | refine blk_drew ?_ | refine blk_alloc ?_ _)); refine blk_put (cs := #[.string ⟨#[]⟩, .int .i64 0, .int .i64 0, .int .i64 0, .int .i64 0, .int .i64 0, .slice none 0 0]) ?_ 0 _ rfl; (with_reducible repeat (first | refine blk_drewN ?_ _ | refine blk_drew ?_ | refine blk_alloc ?_ _)); exact BK.out) Tryz.underlying26 rfl (by kernel_rfl)) rfl ?_; exact ⟨_, rfl, Kd.R_nil _ _ _ _ _, by repeat (first | (with_reducible exact HB.out) | (with_reducible apply below_drew1) | (with_reducible refine below_set ?_ (Nat.le_refl _)))⟩
  have d4 : (s1.toList == []) = false := beq_eq_false_iff_ne.mpr e4; rw [if_neg (by rintro (h_ | h_ | h_ | h_) <;> contradiction)] at h; obtain ⟨⟨n, ok⟩, Hn, h⟩ := Option.bind_eq_some_iff.mp h
  have h5 : ((ws.drop 2).take 5).length = 5 := by rw [List.length_take, List.length_drop]; omega
  have HD := Kd.C_take (m := 5) (Kd.C_drop (m := 2) (c := c) HC.out (by omega) hc) (by rw [List.length_drop]; omega); rw [if_neg (by omega)] at HD; have HH := roll_numbers.calls k (some { block := ad.block, off := ad.off + 2 }) (c - 2) ((ws.drop 2).take 5) n ok w1 HD (by omega) Hn; rw [h5] at HH; clear HD Hn
  go_wp2_with fail
  refine HH.mono ?_
  rintro e w2 ⟨v, rfl, ho, hb⟩
  clear HH h5 x0 x1 z0 z1 z2 z3 z4 z5 z6 y0 y1 y2 y3 y4 y5 y6 q0 q1; replace BK := Aside0.mk (blk_below BK.out hb); replace HC := Aside0.mk (Kd.C_below HC.out hb); replace HO := Aside0.mk (Kd.R_below HO.out hb); replace HB := Aside0.mk (below_step HB.out hb); clear hb; have z0 := bc BK.out 0 (.string ⟨#[]⟩) rfl; have z1 := bc BK.out 1 (.int .i64 0) rfl; have z2 := bc BK.out 2 (.int .i64 0) rfl; have z3 := bc BK.out 3 (.int .i64 0) rfl; have z4 := bc BK.out 4 (.int .i64 0) rfl; have z5 := bc BK.out 5 (.int .i64 0) rfl; have z6 := bc BK.out 6 (.slice none 0 0) rfl; have y0 := blk_frozen BK.out 0; have y1 := blk_frozen BK.out 1; have y2 := blk_frozen BK.out 2; have y3 := blk_frozen BK.out 3; have y4 := blk_frozen BK.out 4; have y5 := blk_frozen BK.out 5; have y6 := blk_frozen BK.out 6
  cases ok with
  | false =>
   rw [if_neg (by decide)] at h
   go_wp2_with fail
   simp only [Option.some.injEq, Prod.mk.injEq] at h; obtain ⟨rfl, rfl, rfl, rfl, rfl, rfl, rfl, rfl⟩ := h; refine bodyPost_ret (results_ct rfl _ _ w.heap.size 26 #[.string ⟨#[]⟩, .int .i64 0, .int .i64 0, .int .i64 0, .int .i64 0, .int .i64 0, .slice none 0 0] (0, 0) _ rfl (by (with_reducible repeat (first | refine blk_drewN ?_ _ | refine blk_drew ?_ | refine blk_alloc ?_ _)); refine blk_put (cs := #[.string ⟨#[]⟩, .int .i64 0, .int .i64 0, .int .i64 0, .int .i64 0, .int .i64 0, .slice none 0 0]) ?_ 6 _ rfl; (with_reducible repeat (first | refine blk_drewN ?_ _ | refine blk_drew ?_ | refine blk_alloc ?_ _)); refine blk_put (cs := #[.string ⟨#[]⟩, .int .i64 0, .int .i64 0, .int .i64 0, .int .i64 0, .int .i64 0, .slice none 0 0]) ?_ 5 _ rfl; (with_reducible repeat (first | refine blk_drewN ?_ _ | refine blk_drew ?_ | refine blk_alloc ?_ _)); refine blk_put (cs := #[.string ⟨#[]⟩, .int .i64 0, .int .i64 0, .int .i64 0, .int .i64 0, .int .i64 0, .slice none 0 0]) ?_ 4 _ rfl; (with_reducible repeat (first | refine blk_drewN ?_ _ | refine blk_drew ?_ | refine blk_alloc ?_ _)); refine blk_put (cs := #[.string ⟨#[]⟩, .int .i64 0, .int .i64 0, .int .i64 0, .int .i64 0, .int .i64 0, .slice none 0 0]) ?_ 3 _ rfl; (with_reducible repeat (first | refine blk_drewN ?_ _ | refine blk_drew ?_ | refine blk_alloc ?_ _)); refine blk_put (cs := #[.string ⟨#[]⟩, .int .i64 0, .int .i64 0, .int .i64 0, .int .i64 0, .int .i64 0, .slice none 0 0]) ?_ 2 _ rfl; (with_reducible repeat (first | refine blk_drewN ?_ _ | refine blk_drew ?_ | refine blk_alloc ?_ _)); refine blk_put (cs := #[.string ⟨#[]⟩, .int .i64 0, .int .i64 0, .int .i64 0, .int .i64 0, .int .i64 0, .slice none 0 0]) ?_ 1 _ rfl; (with_reducible repeat (first | refine blk_drewN ?_ _ | refine blk_drew ?_ | refine blk_alloc ?_ _)); refine blk_put (cs := #[.string ⟨#[]⟩, .int .i64 0, .int .i64 0, .int .i64 0, .int .i64 0, .int .i64 0, .slice none 0 0]) ?_ 0 _ rfl; (with_reducible repeat (first | refine blk_drewN ?_ _ | refine blk_drew ?_ | refine blk_alloc ?_ _)); exact BK.out) Tryz.underlying26 rfl (by kernel_rfl)) rfl ?_; exact ⟨_, rfl, Kd.R_nil _ _ _ _ _, by repeat (first | (with_reducible exact HB.out) | (with_reducible apply below_drew1) | (with_reducible refine below_set ?_ (Nat.le_refl _)))⟩
  | true =>
   rw [if_pos rfl] at h
   by_cases hn : n.length = 5
   ·rw [if_pos hn] at h; obtain ⟨o, Ho, h⟩ := Option.bind_eq_some_iff.mp h; obtain ⟨An, cn, rfl, hcn, hN⟩ := Kd.R_reads ho; rw [hn] at hcn hN ⊢; obtain ⟨an, hA, n0⟩ := Kd.at_int hN 0 (by omega) (by omega); subst hA; obtain ⟨_, hA, n1⟩ := Kd.at_int hN 1 (by omega) (by omega); obtain rfl := Option.some.inj hA; obtain ⟨_, hA, n2⟩ := Kd.at_int hN 2 (by omega) (by omega); obtain rfl := Option.some.inj hA; obtain ⟨_, hA, n3⟩ := Kd.at_int hN 3 (by omega) (by omega); obtain rfl := Option.some.inj hA; obtain ⟨_, hA, n4⟩ := Kd.at_int hN 4 (by omega) (by omega); obtain rfl := Option.some.inj hA; replace n0 : w2.cell? an = _ := n0; replace n1 : w2.cell? { block := an.block, off := an.off + 1 } = _ := n1; replace n2 : w2.cell? { block := an.block, off := an.off + 2 } = _ := n2; replace n3 : w2.cell? { block := an.block, off := an.off + 3 } = _ := n3; replace n4 : w2.cell? { block := an.block, off := an.off + 4 } = _ := n4; clear hA hN ho hn; generalize rd n 0 = m0 at *; generalize rd n 1 = m1 at *; generalize rd n 2 = m2 at *; generalize rd n 3 = m3 at *; generalize rd n 4 = m4 at *; obtain ⟨_, hA, x1⟩ := Kd.at_string HC.out 1 (by omega) (by omega); obtain rfl := Option.some.inj hA; rw [hs1] at x1; replace x1 : w2.cell? { block := ad.block, off := ad.off + 1 } = some (.string s1) := x1
    have q1 : (1 : Int) < (ws.length : Int) := by omega
    clear hA z0 z1 z2 z3 z4 z5 z6 y0 y1 y2 y3 y4 y5 y6
    go_wp2_with fail
    replace BK := Aside0.mk (blk_drew BK.out); replace HC := Aside0.mk (Kd.C_drew HC.out); replace HO := Aside0.mk (Kd.R_drew HO.out); replace HB := Aside0.mk (below_drew1 HB.out); refine start_ (n := 22) (S := fun w' => w'.cell? { block := ad.block, off := ad.off + 1 } = some (.string s1) ∧ w'.cell? an = some (.int .i64 m0) ∧ w'.cell? { block := an.block, off := an.off + 1 } = some (.int .i64 m1) ∧ w'.cell? { block := an.block, off := an.off + 2 } = some (.int .i64 m2) ∧ w'.cell? { block := an.block, off := an.off + 3 } = some (.int .i64 m3) ∧ w'.cell? { block := an.block, off := an.off + 4 } = some (.int .i64 m4)) (ds := [21]) #[false, false, false, false, false, false, false, false, false, false, false, false, false, false, false, false, false, false, false, false, false, false] (by kernel_rfl) rfl rfl ⟨x1, n0, n1, n2, n3, n4⟩ (fun hHeld => ?_); generalize w2.drew = w4 at BK HC HO HB hHeld ⊢; refine pure_ (i := 0) (N := some 45) (v := ?_) (a' := ?_) #[true, false, false, false, false, false, false, false, false, false, false, false, false, false, false, false, false, false, false, false, false, false] rfl rfl (by kernel_rfl) (fun _ _ _ h => h) (Or.inl ⟨by rfl, ?_⟩) ?_ ?_
    rotate_left
    ·intro w'
     go_simp
     with_reducible rfl
    rotate_left
    ·simp only [Act.put, List.setIfInBounds_toArray, List.set_cons_zero, List.set_cons_succ, i64_w, i32_w]
     rfl
    refine pure_ (i := 1) (N := some 46) (v := ?_) (a' := ?_) #[true, true, false, false, false, false, false, false, false, false, false, false, false, false, false, false, false, false, false, false, false, false] rfl rfl (by kernel_rfl) (fun _ _ _ h => h) (Or.inl ⟨by rfl, ?_⟩) ?_ ?_
    rotate_left
    ·intro w'
     go_simp
     with_reducible rfl
    rotate_left
    ·simp only [Act.put, List.setIfInBounds_toArray, List.set_cons_zero, List.set_cons_succ, i64_w, i32_w]
     rfl
    refine pure_ (i := 3) (N := some 48) (v := ?_) (a' := ?_) #[true, true, false, true, false, false, false, false, false, false, false, false, false, false, false, false, false, false, false, false, false, false] rfl rfl (by kernel_rfl) (fun _ _ _ h => h) (Or.inl ⟨by rfl, ?_⟩) ?_ ?_
    rotate_left
    ·intro w'
     go_simp
     with_reducible rfl
    rotate_left
    ·simp only [Act.put, List.setIfInBounds_toArray, List.set_cons_zero, List.set_cons_succ, i64_w, i32_w]
     rfl
    refine pure_ (i := 4) (N := some 49) (v := ?_) (a' := ?_) #[true, true, false, true, true, false, false, false, false, false, false, false, false, false, false, false, false, false, false, false, false, false] rfl rfl (by kernel_rfl) (fun _ _ _ h => h) (Or.inl ⟨by rfl, ?_⟩) ?_ ?_
    rotate_left
    ·intro w'
     go_simp
     with_reducible rfl
    rotate_left
    ·simp only [Act.put, List.setIfInBounds_toArray, List.set_cons_zero, List.set_cons_succ, i64_w, i32_w]
     rfl
    refine pure_ (i := 6) (N := some 51) (v := ?_) (a' := ?_) #[true, true, false, true, true, false, true, false, false, false, false, false, false, false, false, false, false, false, false, false, false, false] rfl rfl (by kernel_rfl) (fun _ _ _ h => h) (Or.inl ⟨by rfl, ?_⟩) ?_ ?_
    rotate_left
    ·intro w'
     go_simp
     with_reducible rfl
    rotate_left
    ·simp only [Act.put, List.setIfInBounds_toArray, List.set_cons_zero, List.set_cons_succ, i64_w, i32_w]
     rfl
    refine pure_ (i := 7) (N := some 52) (v := ?_) (a' := ?_) #[true, true, false, true, true, false, true, true, false, false, false, false, false, false, false, false, false, false, false, false, false, false] rfl rfl (by kernel_rfl) (fun _ _ _ h => h) (Or.inl ⟨by rfl, ?_⟩) ?_ ?_
    rotate_left
    ·intro w'
     go_simp
     with_reducible rfl
    rotate_left
    ·simp only [Act.put, List.setIfInBounds_toArray, List.set_cons_zero, List.set_cons_succ, i64_w, i32_w]
     rfl
    refine pure_ (i := 9) (N := some 54) (v := ?_) (a' := ?_) #[true, true, false, true, true, false, true, true, false, true, false, false, false, false, false, false, false, false, false, false, false, false] rfl rfl (by kernel_rfl) (fun _ _ _ h => h) (Or.inl ⟨by rfl, ?_⟩) ?_ ?_
    rotate_left
    ·intro w'
     go_simp
     with_reducible rfl
    rotate_left
    ·simp only [Act.put, List.setIfInBounds_toArray, List.set_cons_zero, List.set_cons_succ, i64_w, i32_w]
     rfl
    refine pure_ (i := 10) (N := some 55) (v := ?_) (a' := ?_) #[true, true, false, true, true, false, true, true, false, true, true, false, false, false, false, false, false, false, false, false, false, false] rfl rfl (by kernel_rfl) (fun _ _ _ h => h) (Or.inl ⟨by rfl, ?_⟩) ?_ ?_
    rotate_left
    ·intro w'
     go_simp
     with_reducible rfl
    rotate_left
    ·simp only [Act.put, List.setIfInBounds_toArray, List.set_cons_zero, List.set_cons_succ, i64_w, i32_w]
     rfl
    refine pure_ (i := 12) (N := some 57) (v := ?_) (a' := ?_) #[true, true, false, true, true, false, true, true, false, true, true, false, true, false, false, false, false, false, false, false, false, false] rfl rfl (by kernel_rfl) (fun _ _ _ h => h) (Or.inl ⟨by rfl, ?_⟩) ?_ ?_
    rotate_left
    ·intro w'
     go_simp
     with_reducible rfl
    rotate_left
    ·simp only [Act.put, List.setIfInBounds_toArray, List.set_cons_zero, List.set_cons_succ, i64_w, i32_w]
     rfl
    refine pure_ (i := 13) (N := some 58) (v := ?_) (a' := ?_) #[true, true, false, true, true, false, true, true, false, true, true, false, true, true, false, false, false, false, false, false, false, false] rfl rfl (by kernel_rfl) (fun _ _ _ h => h) (Or.inl ⟨by rfl, ?_⟩) ?_ ?_
    rotate_left
    ·intro w'
     go_simp
     with_reducible rfl
    rotate_left
    ·simp only [Act.put, List.setIfInBounds_toArray, List.set_cons_zero, List.set_cons_succ, i64_w, i32_w]
     rfl
    refine pure_ (i := 15) (N := some 60) (v := ?_) (a' := ?_) #[true, true, false, true, true, false, true, true, false, true, true, false, true, true, false, true, false, false, false, false, false, false] rfl rfl (by kernel_rfl) (fun _ _ _ h => h) (Or.inl ⟨by rfl, ?_⟩) ?_ ?_
    rotate_left
    ·intro w'
     go_simp
     with_reducible rfl
    rotate_left
    ·simp only [Act.put, List.setIfInBounds_toArray, List.set_cons_zero, List.set_cons_succ, i64_w, i32_w]
     rfl
    refine pure_ (i := 16) (N := some 61) (v := ?_) (a' := ?_) #[true, true, false, true, true, false, true, true, false, true, true, false, true, true, false, true, true, false, false, false, false, false] rfl rfl (by kernel_rfl) (fun _ _ _ h => h) (Or.inl ⟨by rfl, ?_⟩) ?_ ?_
    rotate_left
    ·intro w'
     go_simp
     with_reducible rfl
    rotate_left
    ·simp only [Act.put, List.setIfInBounds_toArray, List.set_cons_zero, List.set_cons_succ, i64_w, i32_w]
     rfl
    refine take_ (i := 2) (N := some 47) (v := ?_) (a' := ?_) #[true, true, true, true, true, false, true, true, false, true, true, false, true, true, false, true, true, false, false, false, false, false] rfl rfl (by kernel_rfl) (fun _ _ _ h => h) (Or.inl ⟨by rfl, ?_⟩) hHeld ?_ ?_
    rotate_left
    ·rintro w' ⟨s0, s1, s2, s3, s4, s5⟩
     go_simp
     with_reducible rfl
    rotate_left
    ·simp only [Act.put, List.setIfInBounds_toArray, List.set_cons_zero, List.set_cons_succ, i64_w, i32_w]
     rfl
    refine take_ (i := 5) (N := some 50) (v := ?_) (a' := ?_) #[true, true, true, true, true, true, true, true, false, true, true, false, true, true, false, true, true, false, false, false, false, false] rfl rfl (by kernel_rfl) (fun _ _ _ h => h) (Or.inl ⟨by rfl, ?_⟩) hHeld ?_ ?_
    rotate_left
    ·rintro w' ⟨s0, s1, s2, s3, s4, s5⟩
     go_simp
     with_reducible rfl
    rotate_left
    ·simp only [Act.put, List.setIfInBounds_toArray, List.set_cons_zero, List.set_cons_succ, i64_w, i32_w]
     rfl
    refine take_ (i := 8) (N := some 53) (v := ?_) (a' := ?_) #[true, true, true, true, true, true, true, true, true, true, true, false, true, true, false, true, true, false, false, false, false, false] rfl rfl (by kernel_rfl) (fun _ _ _ h => h) (Or.inl ⟨by rfl, ?_⟩) hHeld ?_ ?_
    rotate_left
    ·rintro w' ⟨s0, s1, s2, s3, s4, s5⟩
     go_simp
     with_reducible rfl
    rotate_left
    ·simp only [Act.put, List.setIfInBounds_toArray, List.set_cons_zero, List.set_cons_succ, i64_w, i32_w]
     rfl
    refine take_ (i := 11) (N := some 56) (v := ?_) (a' := ?_) #[true, true, true, true, true, true, true, true, true, true, true, true, true, true, false, true, true, false, false, false, false, false] rfl rfl (by kernel_rfl) (fun _ _ _ h => h) (Or.inl ⟨by rfl, ?_⟩) hHeld ?_ ?_
    rotate_left
    ·rintro w' ⟨s0, s1, s2, s3, s4, s5⟩
     go_simp
     with_reducible rfl
    rotate_left
    ·simp only [Act.put, List.setIfInBounds_toArray, List.set_cons_zero, List.set_cons_succ, i64_w, i32_w]
     rfl
    refine take_ (i := 14) (N := some 59) (v := ?_) (a' := ?_) #[true, true, true, true, true, true, true, true, true, true, true, true, true, true, true, true, true, false, false, false, false, false] rfl rfl (by kernel_rfl) (fun _ _ _ h => h) (Or.inl ⟨by rfl, ?_⟩) hHeld ?_ ?_
    rotate_left
    ·rintro w' ⟨s0, s1, s2, s3, s4, s5⟩
     go_simp
     with_reducible rfl
    rotate_left
    ·simp only [Act.put, List.setIfInBounds_toArray, List.set_cons_zero, List.set_cons_succ, i64_w, i32_w]
     rfl
    refine take_ (i := 17) (N := some 62) (v := ?_) (a' := ?_) #[true, true, true, true, true, true, true, true, true, true, true, true, true, true, true, true, true, true, false, false, false, false] rfl rfl (by kernel_rfl) (fun _ _ _ h => h) (Or.inl ⟨by rfl, ?_⟩) hHeld ?_ ?_
    rotate_left
    ·rintro w' ⟨s0, s1, s2, s3, s4, s5⟩
     go_simp
     with_reducible rfl
    rotate_left
    ·simp only [Act.put, List.setIfInBounds_toArray, List.set_cons_zero, List.set_cons_succ, i64_w, i32_w]
     rfl
    refine pure_ (i := 18) (N := some 63) (v := ?_) (a' := ?_) #[true, true, true, true, true, true, true, true, true, true, true, true, true, true, true, true, true, true, true, false, false, false] rfl rfl (by kernel_rfl) (fun _ _ _ h => h) (Or.inl ⟨by rfl, ?_⟩) ?_ ?_
    rotate_left
    ·intro w'
     go_simp
     with_reducible rfl
    rotate_left
    ·simp only [Act.put, List.setIfInBounds_toArray, List.set_cons_zero, List.set_cons_succ, i64_w, i32_w]
     rfl
    refine pure_ (i := 19) (N := some 64) (v := ?_) (a' := ?_) #[true, true, true, true, true, true, true, true, true, true, true, true, true, true, true, true, true, true, true, true, false, false] rfl rfl (by kernel_rfl) (fun _ _ _ h => h) (Or.inl ⟨by rfl, ?_⟩) ?_ ?_
    rotate_left
    ·intro w'
     go_simp
     with_reducible rfl
    rotate_left
    ·simp only [Act.put, List.setIfInBounds_toArray, List.set_cons_zero, List.set_cons_succ, i64_w, i32_w]
     rfl
    refine one_ (i := 20) (N := some 7) #[true, true, true, true, true, true, true, true, true, true, true, true, true, true, true, true, true, true, true, true, true, false] rfl rfl (by kernel_rfl) (by decide) (fun K hK => ?_); refine box_step ?hg (N := 7) ?hd (cs := #[.string ⟨#[]⟩, .int .i64 0, .int .i64 0, .int .i64 0, .int .i64 0, .int .i64 0, .slice none 0 0]) (t := 26) ?hr ?_
    (case hd => rfl)
    (case hg => rfl)
    (case hr => first | (go_simp; done) | (go_simp; rfl))
    intro gb hg w5 hbox hb; have BR := Aside0.mk hbox
    have hg2 : w.heap.size < gb := by rw [hg]; exact blk_lt BK.out
    replace BK := Aside0.mk (blk_below BK.out hb); replace HC := Aside0.mk (Kd.C_below HC.out hb); replace HO := Aside0.mk (Kd.R_below HO.out hb); replace HB := Aside0.mk (below_step HB.out hb); clear hg hbox; refine hK.out _ _ ⟨pw_cell_below hb (hHeld.1), pw_cell_below hb (hHeld.2.1), pw_cell_below hb (hHeld.2.2.1), pw_cell_below hb (hHeld.2.2.2.1), pw_cell_below hb (hHeld.2.2.2.2.1), pw_cell_below hb (hHeld.2.2.2.2.2)⟩ (fun hHeld => ?_); clear hK K; refine norm_ (a' := ?_) ?_ ?_
    rotate_left
    ·show Act.put _ (some 7) _ = _
     simp only [Act.put, List.setIfInBounds_toArray, List.set_cons_zero, List.set_cons_succ, i64_w, i32_w]
     rfl
    refine last_ (i := 21) (N := none) #[true, true, true, true, true, true, true, true, true, true, true, true, true, true, true, true, true, true, true, true, true, true] rfl rfl (by kernel_rfl) (by decide) (fun K hK => ?_); have c0 := bc BR.out 0 (.string ⟨#[]⟩) rfl; have c1 := bc BR.out 1 (.int .i64 0) rfl; have c2 := bc BR.out 2 (.int .i64 0) rfl; have c3 := bc BR.out 3 (.int .i64 0) rfl; have c4 := bc BR.out 4 (.int .i64 0) rfl; have c5 := bc BR.out 5 (.int .i64 0) rfl; have c6 := bc BR.out 6 (.slice none 0 0) rfl; have y0 := blk_frozen BR.out 0; have y1 := blk_frozen BR.out 1; have y2 := blk_frozen BR.out 2; have y3 := blk_frozen BR.out 3; have y4 := blk_frozen BR.out 4; have y5 := blk_frozen BR.out 5; have y6 := blk_frozen BR.out 6; refine skip_ (w1 := ?_) (by rfl) rfl ?_ ?_
    rotate_left
    ·go_simp
     rfl
    refine hK.out _ _ ?_; clear hK K; refine done_ (by kernel_rfl) ?_; have hwb : Hid (some gb ≠ (Value.slice (some ad) ws.length c).ownBlock) := Kd.R_ne HO.out BR.out (by decide); replace BR := Aside0.mk (show (((((((w5.setCell ⟨gb, 0, none⟩ (.string s1)).setCell ⟨gb, 1, none⟩ (.int .i64 m1)).setCell ⟨gb, 2, none⟩ (.int .i64 m0)).setCell ⟨gb, 3, none⟩ (.int .i64 m2)).setCell ⟨gb, 4, none⟩ (.int .i64 m3)).setCell ⟨gb, 5, none⟩ (.int .i64 m4)).setCell ⟨gb, 6, none⟩ (.slice none 0 0)).heap[gb]? = some (Obj.cells #[.string s1, .int .i64 m1, .int .i64 m0, .int .i64 m2, .int .i64 m3, .int .i64 m4, .slice none 0 0] 26 (0, 0)) by refine blk_put (cs := #[.string s1, .int .i64 m1, .int .i64 m0, .int .i64 m2, .int .i64 m3, .int .i64 m4, .slice none 0 0]) ?_ 6 _ rfl; refine blk_put (cs := #[.string s1, .int .i64 m1, .int .i64 m0, .int .i64 m2, .int .i64 m3, .int .i64 0, .slice none 0 0]) ?_ 5 _ rfl; refine blk_put (cs := #[.string s1, .int .i64 m1, .int .i64 m0, .int .i64 m2, .int .i64 0, .int .i64 0, .slice none 0 0]) ?_ 4 _ rfl; refine blk_put (cs := #[.string s1, .int .i64 m1, .int .i64 m0, .int .i64 0, .int .i64 0, .int .i64 0, .slice none 0 0]) ?_ 3 _ rfl; refine blk_put (cs := #[.string s1, .int .i64 m1, .int .i64 0, .int .i64 0, .int .i64 0, .int .i64 0, .slice none 0 0]) ?_ 2 _ rfl; refine blk_put (cs := #[.string s1, .int .i64 0, .int .i64 0, .int .i64 0, .int .i64 0, .int .i64 0, .slice none 0 0]) ?_ 1 _ rfl; refine blk_put (cs := #[.string ⟨#[]⟩, .int .i64 0, .int .i64 0, .int .i64 0, .int .i64 0, .int .i64 0, .slice none 0 0]) ?_ 0 _ rfl; exact BR.out); replace BK := Aside0.mk (show (((((((w5.setCell ⟨gb, 0, none⟩ (.string s1)).setCell ⟨gb, 1, none⟩ (.int .i64 m1)).setCell ⟨gb, 2, none⟩ (.int .i64 m0)).setCell ⟨gb, 3, none⟩ (.int .i64 m2)).setCell ⟨gb, 4, none⟩ (.int .i64 m3)).setCell ⟨gb, 5, none⟩ (.int .i64 m4)).setCell ⟨gb, 6, none⟩ (.slice none 0 0)).heap[w.heap.size]? = some (Obj.cells #[.string ⟨#[]⟩, .int .i64 0, .int .i64 0, .int .i64 0, .int .i64 0, .int .i64 0, .slice none 0 0] 26 (0, 0)) from (blk_far (blk_far (blk_far (blk_far (blk_far (blk_far (blk_far BK.out (by show w.heap.size ≠ gb; omega) _) (by show w.heap.size ≠ gb; omega) _) (by show w.heap.size ≠ gb; omega) _) (by show w.heap.size ≠ gb; omega) _) (by show w.heap.size ≠ gb; omega) _) (by show w.heap.size ≠ gb; omega) _) (by show w.heap.size ≠ gb; omega) _)); replace HO := Aside0.mk (show Kd.R Kd.string 9 (((((((w5.setCell ⟨gb, 0, none⟩ (.string s1)).setCell ⟨gb, 1, none⟩ (.int .i64 m1)).setCell ⟨gb, 2, none⟩ (.int .i64 m0)).setCell ⟨gb, 3, none⟩ (.int .i64 m2)).setCell ⟨gb, 4, none⟩ (.int .i64 m3)).setCell ⟨gb, 5, none⟩ (.int .i64 m4)).setCell ⟨gb, 6, none⟩ (.slice none 0 0)) w.heap.size (fun _ => True) (.slice (some ad) ws.length c) ws from Kd.R_mono (Kd.R_far (Kd.R_far (Kd.R_far (Kd.R_far (Kd.R_far (Kd.R_far (Kd.R_far (Kd.R_far1 HO.out rfl hwb.out) (fun _ hk => hk.2) _) (fun _ hk => hk.2) _) (fun _ hk => hk.2) _) (fun _ hk => hk.2) _) (fun _ hk => hk.2) _) (fun _ hk => hk.2) _) (fun _ hk => hk.2) _) (fun _ _ => trivial)); replace HB := Aside0.mk (show Below w.heap.size w (((((((w5.setCell ⟨gb, 0, none⟩ (.string s1)).setCell ⟨gb, 1, none⟩ (.int .i64 m1)).setCell ⟨gb, 2, none⟩ (.int .i64 m0)).setCell ⟨gb, 3, none⟩ (.int .i64 m2)).setCell ⟨gb, 4, none⟩ (.int .i64 m3)).setCell ⟨gb, 5, none⟩ (.int .i64 m4)).setCell ⟨gb, 6, none⟩ (.slice none 0 0)) by (repeat (first | (with_reducible exact HB.out) | (with_reducible refine below_set ?_ (by omega))))); clear HC hwb c0 c1 c2 c3 c4 c5 c6 y0 y1 y2 y3 y4 y5 y6; generalize (((((((w5.setCell ⟨gb, 0, none⟩ (.string s1)).setCell ⟨gb, 1, none⟩ (.int .i64 m1)).setCell ⟨gb, 2, none⟩ (.int .i64 m0)).setCell ⟨gb, 3, none⟩ (.int .i64 m2)).setCell ⟨gb, 4, none⟩ (.int .i64 m3)).setCell ⟨gb, 5, none⟩ (.int .i64 m4)).setCell ⟨gb, 6, none⟩ (.slice none 0 0)) = w3 at BR BK HO HB ⊢
    go_wp2_with fail
    refine read_loop k ws o s1 m0 m1 m2 m3 m4 ad c gb w w3 _ _ _ _ _ _ _ _ _ _ _ _ _ _ _ _ _ _ _ _ _ _ _ _ _ _ _ _ _ _ _ _ _ _ _ _ _ _ _ _ _ _ _ _ _ _ _ _ _ _ _ _ _ _ _ _ _ _ _ _ _ _ _ _ _ _ _ _ _ _ _ _ _ _ _ _ _ _ _ _ _ _ _ _ _ _ _ _ _ _ _ _ _ _ _ _ _ _ _ _ _ _ _ _ _ _ _ _ (by kernel_rfl) hc hlm (by omega) (by omega) hg2 ⟨Ho⟩ BK BR HO HB (Lib.hid fun _ _ _ _ hd_ h_ => ⟨hd_.trans h_.1, h_.2⟩) (Lib.hid ?_) (Lib.hid ?_)
    ·intro hn t0 t1 t5 t6 t8 t9 t10 t11 t12 t13 t14 t15 t16 t17 t18 t19 t20 t21 t22 t23 t24 t25 t26 t27 t28 t29 t30 t31 t32 t33 t34 t35 t36 t37 t38 t39 t40 t41 t42 t43 t44 t45 t46 t47 t48 t49 t50 t51 t52 t53 t54 t55 t56 t57 t58 t59 t60 t61 t62 t63 t64 t65 t66 t67 t68 t69 t70 t71 t72 t73 t74 t75 t76 t77 t78 t79 t80 t81 t82 t83 t84 t85 t86 t87 t88 t89 t90 t91 t92 t93 t94 t95 t96 t97 t98 t99 t100 t101 t102 t103 t104 t105 t106 t107 t108 t109 wr BK HB; subst hn; simp only [Option.some.injEq, Prod.mk.injEq] at h; obtain ⟨rfl, rfl, rfl, rfl, rfl, rfl, rfl, rfl⟩ := h; dsimp only [Exit.inBlock, Exit.then]; refine bodyPost_ret (results_ct rfl _ _ w.heap.size 26 #[.string ⟨#[]⟩, .int .i64 0, .int .i64 0, .int .i64 0, .int .i64 0, .int .i64 0, .slice none 0 0] (0, 0) _ rfl BK Tryz.underlying26 rfl (by kernel_rfl)) rfl ?_; exact ⟨_, rfl, Kd.R_nil _ _ _ _ _, HB⟩
    ·intro fl v t0 t1 t3 t5 t6 t8 t9 t10 t11 t12 t13 t14 t15 t16 t17 t18 t19 t20 t21 t22 t23 t24 t25 t26 t27 t28 t29 t30 t31 t32 t33 t34 t35 t36 t37 t38 t39 t40 t41 t42 t43 t44 t45 t46 t47 t48 t49 t50 t51 t52 t53 t54 t55 t56 t57 t58 t59 t60 t61 t62 t63 t64 t65 t66 t67 t68 t69 t70 t71 t72 t73 t74 t75 t76 t77 t78 t79 t80 t81 t82 t83 t84 t85 t86 t87 t88 t89 t90 t91 t92 t93 t94 t95 t96 t97 t98 t99 t100 t101 t102 t103 t104 t105 t106 t107 t108 t109 wr hn BK BR HV HB; subst hn; simp only [Option.some.injEq, Prod.mk.injEq] at h; obtain ⟨rfl, rfl, rfl, rfl, rfl, rfl, rfl, rfl⟩ := h; obtain ⟨Ao, co, rfl⟩ := Kd.R_slice HV; replace BK := Aside0.mk BK; replace BR := Aside0.mk BR; replace HV := Aside0.mk HV; replace HB := Aside0.mk HB; have hv1 : Hid (some w.heap.size ≠ (Value.slice Ao fl.length co).ownBlock) := Kd.R_ne HV.out BK.out (by decide); have x0 := bc BR.out 0 (.string s1) rfl; have x1 := bc BR.out 1 (.int .i64 m1) rfl; have x2 := bc BR.out 2 (.int .i64 m0) rfl; have x3 := bc BR.out 3 (.int .i64 m2) rfl; have x4 := bc BR.out 4 (.int .i64 m3) rfl; have x5 := bc BR.out 5 (.int .i64 m4) rfl; have x6 := bc BR.out 6 (.slice Ao fl.length co) rfl; have z0 := bc BK.out 0 (.string ⟨#[]⟩) rfl; have z1 := bc BK.out 1 (.int .i64 0) rfl; have z2 := bc BK.out 2 (.int .i64 0) rfl; have z3 := bc BK.out 3 (.int .i64 0) rfl; have z4 := bc BK.out 4 (.int .i64 0) rfl; have z5 := bc BK.out 5 (.int .i64 0) rfl; have z6 := bc BK.out 6 (.slice none 0 0) rfl; have y0 := blk_frozen BK.out 0; have y1 := blk_frozen BK.out 1; have y2 := blk_frozen BK.out 2; have y3 := blk_frozen BK.out 3; have y4 := blk_frozen BK.out 4; have y5 := blk_frozen BK.out 5; have y6 := blk_frozen BK.out 6
     go_wp2_with fail
     refine bodyPost_ret (results_ct rfl _ _ w.heap.size 26 #[.string s1, .int .i64 m1, .int .i64 m0, .int .i64 m2, .int .i64 m3, .int .i64 m4, .slice Ao fl.length co] (0, 0) _ rfl (by refine blk_put (cs := #[.string s1, .int .i64 m1, .int .i64 m0, .int .i64 m2, .int .i64 m3, .int .i64 m4, .slice none 0 0]) ?_ 6 _ rfl; refine blk_put (cs := #[.string s1, .int .i64 m1, .int .i64 m0, .int .i64 m2, .int .i64 m3, .int .i64 0, .slice none 0 0]) ?_ 5 _ rfl; refine blk_put (cs := #[.string s1, .int .i64 m1, .int .i64 m0, .int .i64 m2, .int .i64 0, .int .i64 0, .slice none 0 0]) ?_ 4 _ rfl; refine blk_put (cs := #[.string s1, .int .i64 m1, .int .i64 m0, .int .i64 0, .int .i64 0, .int .i64 0, .slice none 0 0]) ?_ 3 _ rfl; refine blk_put (cs := #[.string s1, .int .i64 m1, .int .i64 0, .int .i64 0, .int .i64 0, .int .i64 0, .slice none 0 0]) ?_ 2 _ rfl; refine blk_put (cs := #[.string s1, .int .i64 0, .int .i64 0, .int .i64 0, .int .i64 0, .int .i64 0, .slice none 0 0]) ?_ 1 _ rfl; refine blk_put (cs := #[.string ⟨#[]⟩, .int .i64 0, .int .i64 0, .int .i64 0, .int .i64 0, .int .i64 0, .slice none 0 0]) ?_ 0 _ rfl; exact BK.out) Tryz.underlying26 rfl (by kernel_rfl)) rfl ?_; exact ⟨_, rfl, Kd.R_mono (Kd.R_far (Kd.R_far (Kd.R_far (Kd.R_far (Kd.R_far (Kd.R_far (Kd.R_far (Kd.R_far1 HV.out rfl hv1.out) (fun _ hk => hk.2) _) (fun _ hk => hk.2) _) (fun _ hk => hk.2) _) (fun _ hk => hk.2) _) (fun _ hk => hk.2) _) (fun _ hk => hk.2) _) (fun _ hk => hk.2) _) (fun _ _ => trivial), by repeat (first | (with_reducible exact HB.out) | (with_reducible refine below_set ?_ (Nat.le_refl _)))⟩
   ·rw [if_neg hn] at h; cases h
 ·cases h

end Go.Proofs.YtdblkmnbkpphjaaGreatDoor.P
namespace Go.Proofs.YtdblkmnbkpphjaaGreatDoor.P
open Go.RowKit Go.Proofs.YtdblkmnbkpphjaaGreatDoorW.PrintWords Go.Proofs.YtdblkmnbkpphjaaGreatDoorW.PrintLast Go.Proofs.YtdblkmnbkpphjaaGreatDoorW.PrintMore Go.Proofs.YtdblkmnbkpphjaaGreatDoorW.PrintAuto
attribute [local go_sem] max2_int min2_int max_two min_two max_three min_three max_four min_four   -- for this text's walks alone
set_option linter.unusedVariables false
set_option linter.unusedSimpArgs false

--IMPORT Derived.Test.YtdblkmnbkpphjaaGreatDoorGL
def roll_next.f (k : Nat) (l0 : List (S26)) (a1 : ByteArray) : Option (ByteArray × Int × Int × Int × Int × Int × (List (S46)) × Int) := if (l0.length : Int) ≥ 20 then (some ((⟨#[]⟩ : ByteArray), 0, 0, 0, 0, 0, ([] : List (S46)), 5)) else ((roll_read.f k a1).bind fun bt192 => (if bt192.2.2.2.2.2.2.2 = true then ((roll_Check.f k bt192.1 bt192.2.1 bt192.2.2.1 bt192.2.2.2.1 bt192.2.2.2.2.1 bt192.2.2.2.2.2.1 bt192.2.2.2.2.2.2.1).bind fun t203 => (if t203 = 0 then ((roll_has.f l0 bt192.1).bind fun t204 => (if t204 = true then (some ((⟨#[]⟩ : ByteArray), 0, 0, 0, 0, 0, ([] : List (S46)), 7)) else (some (bt192.1, bt192.2.1, bt192.2.2.1, bt192.2.2.2.1, bt192.2.2.2.2.1, bt192.2.2.2.2.2.1, bt192.2.2.2.2.2.2.1, 0)))) else (some ((⟨#[]⟩ : ByteArray), 0, 0, 0, 0, 0, ([] : List (S46)), t203)))) else (some ((⟨#[]⟩ : ByteArray), 0, 0, 0, 0, 0, ([] : List (S46)), 2))))
theorem roll_next.mono : ∀ a0 a1 k, LeO (roll_next.f k a0 a1) (roll_next.f (k + 1) a0 a1) := by
 intro a0 a1 k
 unfold roll_next.f
 repeat' first
  | (with_reducible exact roll_Check.mono _ _ _ _ _ _ _ _)
  | (with_reducible exact roll_read.mono _ _)
  | (with_reducible exact LeO.refl _)
  | (with_reducible exact LeO.none _)
  | (with_reducible refine LeO.ite ?_ ?_)
  | (with_reducible refine LeO.bind ?_ (fun _ => ?_))
  | exact roll_Check.mono _ _ _ _ _ _ _ _
  | exact roll_read.mono _ _
  | exact LeO.none _
  | refine LeO.ite ?_ ?_
  | refine LeO.bind ?_ (fun _ => ?_)
set_option maxHeartbeats 8000000 in
set_option maxRecDepth 100000 in
theorem roll_next.calls (k : Nat) (A0 : Option Addr) (c0 : Nat) (l0 : List (S26)) (a1 : ByteArray) (r1 : ByteArray) (r2 : Int) (r3 : Int) (r4 : Int) (r5 : Int) (r6 : Int) (r7 : List (S46)) (r8 : Int) (w : World) (hr0 : Kd.C k26 w A0 l0.length l0) (hc0 : l0.length ≤ c0) (h : roll_next.f k l0 a1 = some (r1, r2, r3, r4, r5, r6, r7, r8)) (hG : Aside0 (GL w)) :
  Calls Tryz.prog 44 #[.slice A0 l0.length c0, .string a1] w fun e w' => ∃ v6_ : Value, e = .returned (.tuple #[.agg #[.string r1, .int .i64 r2, .int .i64 r3, .int .i64 r4, .int .i64 r5, .int .i64 r6, v6_], .int .i64 r8]) ∧ Kd.R k46 46 w' w.heap.size (fun _ => True) v6_ r7 ∧ Below w.heap.size w w' := by
 have hu26 := Tryz.underlying26; have HR0 := Aside0.mk hr0; have HC0 := Aside0.mk hc0; clear hr0 hc0; have HB := Aside0.mk (Below.refl w.heap.size w); have H : (if (l0.length : Int) ≥ 20 then (some ((⟨#[]⟩ : ByteArray), 0, 0, 0, 0, 0, ([] : List (S46)), 5)) else ((roll_read.f k a1).bind fun bt192 => (if bt192.2.2.2.2.2.2.2 = true then ((roll_Check.f k bt192.1 bt192.2.1 bt192.2.2.1 bt192.2.2.2.1 bt192.2.2.2.2.1 bt192.2.2.2.2.2.1 bt192.2.2.2.2.2.2.1).bind fun t203 => (if t203 = 0 then ((roll_has.f l0 bt192.1).bind fun t204 => (if t204 = true then (some ((⟨#[]⟩ : ByteArray), 0, 0, 0, 0, 0, ([] : List (S46)), 7)) else (some (bt192.1, bt192.2.1, bt192.2.2.1, bt192.2.2.2.1, bt192.2.2.2.2.1, bt192.2.2.2.2.2.1, bt192.2.2.2.2.2.2.1, 0)))) else (some ((⟨#[]⟩ : ByteArray), 0, 0, 0, 0, 0, ([] : List (S46)), t203)))) else (some ((⟨#[]⟩ : ByteArray), 0, 0, 0, 0, 0, ([] : List (S46)), 2))))) = some (r1, r2, r3, r4, r5, r6, r7, r8) := h; clear h
 by_cases c3 : (l0.length : Int) ≥ 20
 ·rw [if_pos c3] at H; have c3b0 : decide (20 ≤ (l0.length : Int)) = true := decide_eq_true c3; have c3b1 : decide (20 ≤ l0.length) = true := decide_eq_true (by omega); clear c3; simp only [Option.some.injEq, Prod.mk.injEq] at H; obtain ⟨rfl, rfl, rfl, rfl, rfl, rfl, rfl, rfl⟩ := H
  go_enter Tryz.func44, Tryz.ntmps44
  go_wp2_with (first | ((with_reducible refine gate_dst (N := 4) rfl ?_); refine box_event ?hg (N := 4) ?hd (cs := #[.string (⟨#[]⟩ : ByteArray), .int .i64 0, .int .i64 0, .int .i64 0, .int .i64 0, .int .i64 0, .slice none 0 0]) (t := 26) ?hr ?_; (case hd => rfl); (case hg => rfl); (case hr => first | (go_simp; done) | (go_simp; rfl)); intro gb191 hg w4 hbox hb; have BK191 := Aside0.mk (hbox); have GW191 := Aside0.mk ((by rw [hg]; exact (below_size (be HB.out)) : w.heap.size ≤ gb191)); have GE191 := Aside0.mk ((by rw [hg]; exact (below_size (be HB.out)) : w.heap.size ≤ gb191)); replace HB := Aside0.mk (below_step (be HB.out) hb); clear hb hbox hg; have hcz5_0 := bc BK191.out 0 (.string (⟨#[]⟩ : ByteArray)) rfl; have hcz5_1 := bc BK191.out 1 (.int .i64 0) rfl; have hcz5_2 := bc BK191.out 2 (.int .i64 0) rfl; have hcz5_3 := bc BK191.out 3 (.int .i64 0) rfl; have hcz5_4 := bc BK191.out 4 (.int .i64 0) rfl; have hcz5_5 := bc BK191.out 5 (.int .i64 0) rfl; have hcz5_6 := bc BK191.out 6 (.slice none 0 0) rfl; have hfz5_0 := blk_frozen BK191.out 0; have hfz5_1 := blk_frozen BK191.out 1; have hfz5_2 := blk_frozen BK191.out 2; have hfz5_3 := blk_frozen BK191.out 3; have hfz5_4 := blk_frozen BK191.out 4; have hfz5_5 := blk_frozen BK191.out 5; have hfz5_6 := blk_frozen BK191.out 6))
  refine bodyPost_ret (results_ct rfl _ _ gb191 26 #[.string (⟨#[]⟩ : ByteArray), .int .i64 0, .int .i64 0, .int .i64 0, .int .i64 0, .int .i64 0, .slice none 0 0] (0, 0) _ rfl (by (with_reducible repeat (first | refine blk_drewN ?_ _ | refine blk_drew ?_ | refine blk_alloc ?_ _)); refine blk_put (cs := #[.string (⟨#[]⟩ : ByteArray), .int .i64 0, .int .i64 0, .int .i64 0, .int .i64 0, .int .i64 0, .slice none 0 0]) ?_ 6 _ rfl; (with_reducible repeat (first | refine blk_drewN ?_ _ | refine blk_drew ?_ | refine blk_alloc ?_ _)); refine blk_put (cs := #[.string (⟨#[]⟩ : ByteArray), .int .i64 0, .int .i64 0, .int .i64 0, .int .i64 0, .int .i64 0, .slice none 0 0]) ?_ 5 _ rfl; (with_reducible repeat (first | refine blk_drewN ?_ _ | refine blk_drew ?_ | refine blk_alloc ?_ _)); refine blk_put (cs := #[.string (⟨#[]⟩ : ByteArray), .int .i64 0, .int .i64 0, .int .i64 0, .int .i64 0, .int .i64 0, .slice none 0 0]) ?_ 4 _ rfl; (with_reducible repeat (first | refine blk_drewN ?_ _ | refine blk_drew ?_ | refine blk_alloc ?_ _)); refine blk_put (cs := #[.string (⟨#[]⟩ : ByteArray), .int .i64 0, .int .i64 0, .int .i64 0, .int .i64 0, .int .i64 0, .slice none 0 0]) ?_ 3 _ rfl; (with_reducible repeat (first | refine blk_drewN ?_ _ | refine blk_drew ?_ | refine blk_alloc ?_ _)); refine blk_put (cs := #[.string (⟨#[]⟩ : ByteArray), .int .i64 0, .int .i64 0, .int .i64 0, .int .i64 0, .int .i64 0, .slice none 0 0]) ?_ 2 _ rfl; (with_reducible repeat (first | refine blk_drewN ?_ _ | refine blk_drew ?_ | refine blk_alloc ?_ _)); refine blk_put (cs := #[.string (⟨#[]⟩ : ByteArray), .int .i64 0, .int .i64 0, .int .i64 0, .int .i64 0, .int .i64 0, .slice none 0 0]) ?_ 1 _ rfl; (with_reducible repeat (first | refine blk_drewN ?_ _ | refine blk_drew ?_ | refine blk_alloc ?_ _)); refine blk_put (cs := #[.string (⟨#[]⟩ : ByteArray), .int .i64 0, .int .i64 0, .int .i64 0, .int .i64 0, .int .i64 0, .slice none 0 0]) ?_ 0 _ rfl; (with_reducible repeat (first | refine blk_drewN ?_ _ | refine blk_drew ?_ | refine blk_alloc ?_ _)); exact BK191.out) Tryz.underlying26 rfl (by kernel_rfl)) rfl ?_; exact ⟨_, by first | rfl | (simp [errW_none, errW_some] <;> rfl) | (simp [*, errW_none, errW_some] <;> rfl), by first | exact Kd.R_nil _ _ _ _ _ | exact Kd.N_nil _ _ _ _ _ | exact Kd.V_nil _ _ _ _ _ | exact Kd.Q_nil _ _ _ _ _ | exact Kd.S_nil _ _ _ _ _, be HB.out⟩
 ·rw [if_neg c3] at H; have c3b0 : decide (20 ≤ (l0.length : Int)) = false := decide_eq_false c3; have c3b1 : decide (20 ≤ l0.length) = false := decide_eq_false (by omega); clear c3; replace H := Option.bind_eq_some_iff.mp H; obtain ⟨⟨t192, t193, t194, t195, t196, t197, t198, t201⟩, A60, H⟩ := H; replace H : (if t201 = true then ((roll_Check.f k t192 t193 t194 t195 t196 t197 t198).bind fun t203 => (if t203 = 0 then ((roll_has.f l0 t192).bind fun t204 => (if t204 = true then (some ((⟨#[]⟩ : ByteArray), 0, 0, 0, 0, 0, ([] : List (S46)), 7)) else (some (t192, t193, t194, t195, t196, t197, t198, 0)))) else (some ((⟨#[]⟩ : ByteArray), 0, 0, 0, 0, 0, ([] : List (S46)), t203)))) else (some ((⟨#[]⟩ : ByteArray), 0, 0, 0, 0, 0, ([] : List (S46)), 2))) = some (r1, r2, r3, r4, r5, r6, r7, r8) := H; have A6 := Aside0.mk A60; clear A60
  by_cases c7 : t201 = true
  ·subst c7
   have H1 : ((roll_Check.f k t192 t193 t194 t195 t196 t197 t198).bind fun t203 => (if t203 = 0 then ((roll_has.f l0 t192).bind fun t204 => (if t204 = true then (some ((⟨#[]⟩ : ByteArray), 0, 0, 0, 0, 0, ([] : List (S46)), 7)) else (some (t192, t193, t194, t195, t196, t197, t198, 0)))) else (some ((⟨#[]⟩ : ByteArray), 0, 0, 0, 0, 0, ([] : List (S46)), t203)))) = some (r1, r2, r3, r4, r5, r6, r7, r8) := by rw [if_pos rfl] at H; exact H
   clear H; have H := H1; clear H1; replace H := Option.bind_eq_some_iff.mp H; obtain ⟨t203, A80, H⟩ := H; replace H : (if t203 = 0 then ((roll_has.f l0 t192).bind fun t204 => (if t204 = true then (some ((⟨#[]⟩ : ByteArray), 0, 0, 0, 0, 0, ([] : List (S46)), 7)) else (some (t192, t193, t194, t195, t196, t197, t198, 0)))) else (some ((⟨#[]⟩ : ByteArray), 0, 0, 0, 0, 0, ([] : List (S46)), t203))) = some (r1, r2, r3, r4, r5, r6, r7, r8) := H; have A8 := Aside0.mk A80; clear A80
   by_cases c9 : t203 = 0
   ·rw [if_pos c9] at H; have c9b0 : (t203 == 0) = true := beq_iff_eq.mpr c9; have c9b1 : (t203 != 0) = false := bne_eq_false_iff_eq.mpr c9; clear c9; replace H := Option.bind_eq_some_iff.mp H; obtain ⟨t204, A100, H⟩ := H; replace H : (if t204 = true then (some ((⟨#[]⟩ : ByteArray), 0, 0, 0, 0, 0, ([] : List (S46)), 7)) else (some (t192, t193, t194, t195, t196, t197, t198, 0))) = some (r1, r2, r3, r4, r5, r6, r7, r8) := H; have A10 := Aside0.mk A100; clear A100
    by_cases c11 : t204 = true
    ·subst c11
     have H1 : (some ((⟨#[]⟩ : ByteArray), 0, 0, 0, 0, 0, ([] : List (S46)), 7)) = some (r1, r2, r3, r4, r5, r6, r7, r8) := by rw [if_pos rfl] at H; exact H
     clear H; have H := H1; clear H1; simp only [Option.some.injEq, Prod.mk.injEq] at H; obtain ⟨rfl, rfl, rfl, rfl, rfl, rfl, rfl, rfl⟩ := H
     go_enter Tryz.func44, Tryz.ntmps44
     go_wp2_with (first | ((with_reducible refine gate_dst (N := 4) rfl ?_); refine box_event ?hg (N := 4) ?hd (cs := #[.string (⟨#[]⟩ : ByteArray), .int .i64 0, .int .i64 0, .int .i64 0, .int .i64 0, .int .i64 0, .slice none 0 0]) (t := 26) ?hr ?_; (case hd => rfl); (case hg => rfl); (case hr => first | (go_simp; done) | (go_simp; rfl)); intro gb191 hg w12 hbox hb; have BK191 := Aside0.mk (hbox); have GW191 := Aside0.mk ((by rw [hg]; exact (below_size (be HB.out)) : w.heap.size ≤ gb191)); have GE191 := Aside0.mk ((by rw [hg]; exact (below_size (be HB.out)) : w.heap.size ≤ gb191)); replace HB := Aside0.mk (below_step (be HB.out) hb); clear hb hbox hg) | ((with_reducible refine gate_callee (f := 58) rfl ?_); refine goesA (some 15) rfl rfl Tryz.func58 (by kernel_rfl) rfl #[.string a1] rfl ?_; (with_reducible refine (roll_read.calls k a1 t192 t193 t194 t195 t196 t197 t198 true _ A6.out (by first | exact Aside0.mk (GL.below hG.out (be HB.out)) | exact hG)).mono ?_); rintro e w13 ⟨v199, rfl, ho0, hb⟩; refine ⟨_, rfl, ?_⟩; have HO200 := Aside0.mk (Kd.R_lower ho0 (below_size (be HB.out))); replace BK191 := Aside0.mk (blk_below (g := gb191) (o := .cells #[.string (⟨#[]⟩ : ByteArray), .int .i64 0, .int .i64 0, .int .i64 0, .int .i64 0, .int .i64 0, .slice none 0 0] 26 (0, 0)) (bu BK191.out) hb); replace HB := Aside0.mk (below_step (be HB.out) hb); (try clear hb); (try clear ho0)) | ((with_reducible refine gate_dst (N := 6) rfl ?_); refine box_event ?hg (N := 6) ?hd (cs := #[.string (⟨#[]⟩ : ByteArray), .int .i64 0, .int .i64 0, .int .i64 0, .int .i64 0, .int .i64 0, .slice none 0 0]) (t := 26) ?hr ?_; (case hd => rfl); (case hg => rfl); (case hr => first | (go_simp; done) | (go_simp; rfl)); intro gb202 hg w14 hbox hb; have BK202 := Aside0.mk (hbox); have GW202 := Aside0.mk ((by rw [hg]; exact (below_size (be HB.out)) : w.heap.size ≤ gb202)); have GE202 := Aside0.mk ((by rw [hg]; exact (below_size (be HB.out)) : w.heap.size ≤ gb202)); have NB191_202 := Aside0.mk ((by rw [hg]; exact Nat.ne_of_lt (blk_lt (g := gb191) (o := .cells #[.string (⟨#[]⟩ : ByteArray), .int .i64 0, .int .i64 0, .int .i64 0, .int .i64 0, .int .i64 0, .slice none 0 0] 26 (0, 0)) (bu BK191.out)) : gb191 ≠ gb202)); have NB202_191 := Aside0.mk ((by rw [hg]; exact Nat.ne_of_gt (blk_lt (g := gb191) (o := .cells #[.string (⟨#[]⟩ : ByteArray), .int .i64 0, .int .i64 0, .int .i64 0, .int .i64 0, .int .i64 0, .slice none 0 0] 26 (0, 0)) (bu BK191.out)) : gb202 ≠ gb191)); replace HO200 := Aside0.mk (Kd.R_below (ku HO200.out) hb); replace BK191 := Aside0.mk (blk_below (g := gb191) (o := .cells #[.string (⟨#[]⟩ : ByteArray), .int .i64 0, .int .i64 0, .int .i64 0, .int .i64 0, .int .i64 0, .slice none 0 0] 26 (0, 0)) (bu BK191.out) hb); replace HB := Aside0.mk (below_step (be HB.out) hb); clear hb hbox hg; have hnb15 := NB202_191.out; have hnc15 := NB191_202.out; have hcz16_0 := bc BK202.out 0 (.string (⟨#[]⟩ : ByteArray)) rfl; have hcz16_1 := bc BK202.out 1 (.int .i64 0) rfl; have hcz16_2 := bc BK202.out 2 (.int .i64 0) rfl; have hcz16_3 := bc BK202.out 3 (.int .i64 0) rfl; have hcz16_4 := bc BK202.out 4 (.int .i64 0) rfl; have hcz16_5 := bc BK202.out 5 (.int .i64 0) rfl; have hcz16_6 := bc BK202.out 6 (.slice none 0 0) rfl; have hfz16_0 := blk_frozen BK202.out 0; have hfz16_1 := blk_frozen BK202.out 1; have hfz16_2 := blk_frozen BK202.out 2; have hfz16_3 := blk_frozen BK202.out 3; have hfz16_4 := blk_frozen BK202.out 4; have hfz16_5 := blk_frozen BK202.out 5; have hfz16_6 := blk_frozen BK202.out 6; obtain ⟨Ao17, co17, eo17⟩ := Kd.R_slice HO200.out; subst eo17) | ((with_reducible refine gate_callee (f := 11) rfl ?_); refine goesA (some 22) rfl rfl Tryz.func11 (by kernel_rfl) rfl #[.agg #[.string t192, .int .i64 t193, .int .i64 t194, .int .i64 t195, .int .i64 t196, .int .i64 t197, .slice Ao17 t198.length co17]] rfl ?_; (with_reducible refine (roll_Check.calls k t192 t193 t194 t195 t196 t197 _ _ t198 t203 _ ?side1 ?side2 A8.out).mono ?_); (case side1 => refine (Kd.R_reads' (e := 46) (base := w.heap.size) (ok := fun k_ => True) (n := t198.length) (c := co17) ?_).2.2; exact (kf HO200.out BK202.out)); (case side2 => exact (Kd.R_reads' HO200.out).2.1); rintro e w18 ⟨rfl, hb⟩; refine ⟨_, rfl, ?_⟩; replace HO200 := Aside0.mk (Kd.R_below (kf HO200.out BK202.out) hb); replace BK191 := Aside0.mk (blk_below (g := gb191) (o := .cells #[.string (⟨#[]⟩ : ByteArray), .int .i64 0, .int .i64 0, .int .i64 0, .int .i64 0, .int .i64 0, .slice none 0 0] 26 (0, 0)) (by (with_reducible repeat (first | refine blk_drewN ?_ _ | refine blk_drew ?_ | refine blk_alloc ?_ _)); refine blk_far ?_ NB191_202.out _; (with_reducible repeat (first | refine blk_drewN ?_ _ | refine blk_drew ?_ | refine blk_alloc ?_ _)); refine blk_far ?_ NB191_202.out _; (with_reducible repeat (first | refine blk_drewN ?_ _ | refine blk_drew ?_ | refine blk_alloc ?_ _)); refine blk_far ?_ NB191_202.out _; (with_reducible repeat (first | refine blk_drewN ?_ _ | refine blk_drew ?_ | refine blk_alloc ?_ _)); refine blk_far ?_ NB191_202.out _; (with_reducible repeat (first | refine blk_drewN ?_ _ | refine blk_drew ?_ | refine blk_alloc ?_ _)); refine blk_far ?_ NB191_202.out _; (with_reducible repeat (first | refine blk_drewN ?_ _ | refine blk_drew ?_ | refine blk_alloc ?_ _)); refine blk_far ?_ NB191_202.out _; (with_reducible repeat (first | refine blk_drewN ?_ _ | refine blk_drew ?_ | refine blk_alloc ?_ _)); refine blk_far ?_ NB191_202.out _; (with_reducible repeat (first | refine blk_drewN ?_ _ | refine blk_drew ?_ | refine blk_alloc ?_ _)); exact BK191.out) hb); replace BK202 := Aside0.mk (blk_below (g := gb202) (o := .cells #[.string t192, .int .i64 t193, .int .i64 t194, .int .i64 t195, .int .i64 t196, .int .i64 t197, .slice Ao17 t198.length co17] 26 (0, 0)) (by (with_reducible repeat (first | refine blk_drewN ?_ _ | refine blk_drew ?_ | refine blk_alloc ?_ _)); refine blk_put (cs := #[.string t192, .int .i64 t193, .int .i64 t194, .int .i64 t195, .int .i64 t196, .int .i64 t197, .slice none 0 0]) ?_ 6 _ rfl; (with_reducible repeat (first | refine blk_drewN ?_ _ | refine blk_drew ?_ | refine blk_alloc ?_ _)); refine blk_put (cs := #[.string t192, .int .i64 t193, .int .i64 t194, .int .i64 t195, .int .i64 t196, .int .i64 0, .slice none 0 0]) ?_ 5 _ rfl; (with_reducible repeat (first | refine blk_drewN ?_ _ | refine blk_drew ?_ | refine blk_alloc ?_ _)); refine blk_put (cs := #[.string t192, .int .i64 t193, .int .i64 t194, .int .i64 t195, .int .i64 0, .int .i64 0, .slice none 0 0]) ?_ 4 _ rfl; (with_reducible repeat (first | refine blk_drewN ?_ _ | refine blk_drew ?_ | refine blk_alloc ?_ _)); refine blk_put (cs := #[.string t192, .int .i64 t193, .int .i64 t194, .int .i64 0, .int .i64 0, .int .i64 0, .slice none 0 0]) ?_ 3 _ rfl; (with_reducible repeat (first | refine blk_drewN ?_ _ | refine blk_drew ?_ | refine blk_alloc ?_ _)); refine blk_put (cs := #[.string t192, .int .i64 t193, .int .i64 0, .int .i64 0, .int .i64 0, .int .i64 0, .slice none 0 0]) ?_ 2 _ rfl; (with_reducible repeat (first | refine blk_drewN ?_ _ | refine blk_drew ?_ | refine blk_alloc ?_ _)); refine blk_put (cs := #[.string t192, .int .i64 0, .int .i64 0, .int .i64 0, .int .i64 0, .int .i64 0, .slice none 0 0]) ?_ 1 _ rfl; (with_reducible repeat (first | refine blk_drewN ?_ _ | refine blk_drew ?_ | refine blk_alloc ?_ _)); refine blk_put (cs := #[.string (⟨#[]⟩ : ByteArray), .int .i64 0, .int .i64 0, .int .i64 0, .int .i64 0, .int .i64 0, .slice none 0 0]) ?_ 0 _ rfl; (with_reducible repeat (first | refine blk_drewN ?_ _ | refine blk_drew ?_ | refine blk_alloc ?_ _)); exact BK202.out) hb); replace HB := Aside0.mk (below_step (be HB.out) hb); (try clear hb); have hcz19_0 := bc BK202.out 0 (.string t192) rfl; have hcz19_1 := bc BK202.out 1 (.int .i64 t193) rfl; have hcz19_2 := bc BK202.out 2 (.int .i64 t194) rfl; have hcz19_3 := bc BK202.out 3 (.int .i64 t195) rfl; have hcz19_4 := bc BK202.out 4 (.int .i64 t196) rfl; have hcz19_5 := bc BK202.out 5 (.int .i64 t197) rfl; have hcz19_6 := bc BK202.out 6 (.slice Ao17 t198.length co17) rfl; have hfz19_0 := blk_frozen BK202.out 0; have hfz19_1 := blk_frozen BK202.out 1; have hfz19_2 := blk_frozen BK202.out 2; have hfz19_3 := blk_frozen BK202.out 3; have hfz19_4 := blk_frozen BK202.out 4; have hfz19_5 := blk_frozen BK202.out 5; have hfz19_6 := blk_frozen BK202.out 6) | ((with_reducible refine gate_callee (f := 30) rfl ?_); refine goesA (some 30) rfl rfl Tryz.func30 (by kernel_rfl) rfl #[.slice A0 l0.length c0, .string t192] rfl ?_; (with_reducible refine (roll_has.calls _ _ l0 t192 true _ ?side1 ?side2 A10.out).mono ?_); (case side1 => exact cu (Kd.C_below HR0.out HB.out)); (case side2 => exact HC0.out); rintro e w20 ⟨rfl, hb⟩; refine ⟨_, rfl, ?_⟩; replace HO200 := Aside0.mk (Kd.R_below (ku HO200.out) hb); replace BK191 := Aside0.mk (blk_below (g := gb191) (o := .cells #[.string (⟨#[]⟩ : ByteArray), .int .i64 0, .int .i64 0, .int .i64 0, .int .i64 0, .int .i64 0, .slice none 0 0] 26 (0, 0)) (bu BK191.out) hb); replace BK202 := Aside0.mk (blk_below (bu BK202.out) hb); replace HB := Aside0.mk (below_step (be HB.out) hb); (try clear hb); have hcz21_0 := bc BK191.out 0 (.string (⟨#[]⟩ : ByteArray)) rfl; have hcz21_1 := bc BK191.out 1 (.int .i64 0) rfl; have hcz21_2 := bc BK191.out 2 (.int .i64 0) rfl; have hcz21_3 := bc BK191.out 3 (.int .i64 0) rfl; have hcz21_4 := bc BK191.out 4 (.int .i64 0) rfl; have hcz21_5 := bc BK191.out 5 (.int .i64 0) rfl; have hcz21_6 := bc BK191.out 6 (.slice none 0 0) rfl; have hfz21_0 := blk_frozen BK191.out 0; have hfz21_1 := blk_frozen BK191.out 1; have hfz21_2 := blk_frozen BK191.out 2; have hfz21_3 := blk_frozen BK191.out 3; have hfz21_4 := blk_frozen BK191.out 4; have hfz21_5 := blk_frozen BK191.out 5; have hfz21_6 := blk_frozen BK191.out 6))
     refine bodyPost_ret (results_ct rfl _ _ gb191 26 #[.string (⟨#[]⟩ : ByteArray), .int .i64 0, .int .i64 0, .int .i64 0, .int .i64 0, .int .i64 0, .slice none 0 0] (0, 0) _ rfl (by (with_reducible repeat (first | refine blk_drewN ?_ _ | refine blk_drew ?_ | refine blk_alloc ?_ _)); refine blk_put (cs := #[.string (⟨#[]⟩ : ByteArray), .int .i64 0, .int .i64 0, .int .i64 0, .int .i64 0, .int .i64 0, .slice none 0 0]) ?_ 6 _ rfl; (with_reducible repeat (first | refine blk_drewN ?_ _ | refine blk_drew ?_ | refine blk_alloc ?_ _)); refine blk_put (cs := #[.string (⟨#[]⟩ : ByteArray), .int .i64 0, .int .i64 0, .int .i64 0, .int .i64 0, .int .i64 0, .slice none 0 0]) ?_ 5 _ rfl; (with_reducible repeat (first | refine blk_drewN ?_ _ | refine blk_drew ?_ | refine blk_alloc ?_ _)); refine blk_put (cs := #[.string (⟨#[]⟩ : ByteArray), .int .i64 0, .int .i64 0, .int .i64 0, .int .i64 0, .int .i64 0, .slice none 0 0]) ?_ 4 _ rfl; (with_reducible repeat (first | refine blk_drewN ?_ _ | refine blk_drew ?_ | refine blk_alloc ?_ _)); refine blk_put (cs := #[.string (⟨#[]⟩ : ByteArray), .int .i64 0, .int .i64 0, .int .i64 0, .int .i64 0, .int .i64 0, .slice none 0 0]) ?_ 3 _ rfl; (with_reducible repeat (first | refine blk_drewN ?_ _ | refine blk_drew ?_ | refine blk_alloc ?_ _)); refine blk_put (cs := #[.string (⟨#[]⟩ : ByteArray), .int .i64 0, .int .i64 0, .int .i64 0, .int .i64 0, .int .i64 0, .slice none 0 0]) ?_ 2 _ rfl; (with_reducible repeat (first | refine blk_drewN ?_ _ | refine blk_drew ?_ | refine blk_alloc ?_ _)); refine blk_put (cs := #[.string (⟨#[]⟩ : ByteArray), .int .i64 0, .int .i64 0, .int .i64 0, .int .i64 0, .int .i64 0, .slice none 0 0]) ?_ 1 _ rfl; (with_reducible repeat (first | refine blk_drewN ?_ _ | refine blk_drew ?_ | refine blk_alloc ?_ _)); refine blk_put (cs := #[.string (⟨#[]⟩ : ByteArray), .int .i64 0, .int .i64 0, .int .i64 0, .int .i64 0, .int .i64 0, .slice none 0 0]) ?_ 0 _ rfl; (with_reducible repeat (first | refine blk_drewN ?_ _ | refine blk_drew ?_ | refine blk_alloc ?_ _)); exact BK191.out) Tryz.underlying26 rfl (by kernel_rfl)) rfl ?_; exact ⟨_, by first | rfl | (simp [errW_none, errW_some] <;> rfl) | (simp [*, errW_none, errW_some] <;> rfl), by first | exact Kd.R_nil _ _ _ _ _ | exact Kd.N_nil _ _ _ _ _ | exact Kd.V_nil _ _ _ _ _ | exact Kd.Q_nil _ _ _ _ _ | exact Kd.S_nil _ _ _ _ _, be HB.out⟩
    ·replace c11 := Bool.eq_false_iff.mpr c11; subst c11
     have H1 : (some (t192, t193, t194, t195, t196, t197, t198, 0)) = some (r1, r2, r3, r4, r5, r6, r7, r8) := by rw [if_neg (show ¬ (false = true) by decide)] at H; exact H
     clear H; have H := H1; clear H1; simp only [Option.some.injEq, Prod.mk.injEq] at H; obtain ⟨rfl, rfl, rfl, rfl, rfl, rfl, rfl, rfl⟩ := H
     go_enter Tryz.func44, Tryz.ntmps44
     go_wp2_with (first | ((with_reducible refine gate_dst (N := 4) rfl ?_); refine box_event ?hg (N := 4) ?hd (cs := #[.string (⟨#[]⟩ : ByteArray), .int .i64 0, .int .i64 0, .int .i64 0, .int .i64 0, .int .i64 0, .slice none 0 0]) (t := 26) ?hr ?_; (case hd => rfl); (case hg => rfl); (case hr => first | (go_simp; done) | (go_simp; rfl)); intro gb191 hg w22 hbox hb; have BK191 := Aside0.mk (hbox); have GW191 := Aside0.mk ((by rw [hg]; exact (below_size (be HB.out)) : w.heap.size ≤ gb191)); have GE191 := Aside0.mk ((by rw [hg]; exact (below_size (be HB.out)) : w.heap.size ≤ gb191)); replace HB := Aside0.mk (below_step (be HB.out) hb); clear hb hbox hg) | ((with_reducible refine gate_callee (f := 58) rfl ?_); refine goesA (some 15) rfl rfl Tryz.func58 (by kernel_rfl) rfl #[.string a1] rfl ?_; (with_reducible refine (roll_read.calls k a1 t192 t193 t194 t195 t196 t197 t198 true _ A6.out (by first | exact Aside0.mk (GL.below hG.out (be HB.out)) | exact hG)).mono ?_); rintro e w23 ⟨v199, rfl, ho0, hb⟩; refine ⟨_, rfl, ?_⟩; have HO200 := Aside0.mk (Kd.R_lower ho0 (below_size (be HB.out))); replace BK191 := Aside0.mk (blk_below (g := gb191) (o := .cells #[.string (⟨#[]⟩ : ByteArray), .int .i64 0, .int .i64 0, .int .i64 0, .int .i64 0, .int .i64 0, .slice none 0 0] 26 (0, 0)) (bu BK191.out) hb); replace HB := Aside0.mk (below_step (be HB.out) hb); (try clear hb); (try clear ho0)) | ((with_reducible refine gate_dst (N := 6) rfl ?_); refine box_event ?hg (N := 6) ?hd (cs := #[.string (⟨#[]⟩ : ByteArray), .int .i64 0, .int .i64 0, .int .i64 0, .int .i64 0, .int .i64 0, .slice none 0 0]) (t := 26) ?hr ?_; (case hd => rfl); (case hg => rfl); (case hr => first | (go_simp; done) | (go_simp; rfl)); intro gb202 hg w24 hbox hb; have BK202 := Aside0.mk (hbox); have GW202 := Aside0.mk ((by rw [hg]; exact (below_size (be HB.out)) : w.heap.size ≤ gb202)); have GE202 := Aside0.mk ((by rw [hg]; exact (below_size (be HB.out)) : w.heap.size ≤ gb202)); have NB191_202 := Aside0.mk ((by rw [hg]; exact Nat.ne_of_lt (blk_lt (g := gb191) (o := .cells #[.string (⟨#[]⟩ : ByteArray), .int .i64 0, .int .i64 0, .int .i64 0, .int .i64 0, .int .i64 0, .slice none 0 0] 26 (0, 0)) (bu BK191.out)) : gb191 ≠ gb202)); have NB202_191 := Aside0.mk ((by rw [hg]; exact Nat.ne_of_gt (blk_lt (g := gb191) (o := .cells #[.string (⟨#[]⟩ : ByteArray), .int .i64 0, .int .i64 0, .int .i64 0, .int .i64 0, .int .i64 0, .slice none 0 0] 26 (0, 0)) (bu BK191.out)) : gb202 ≠ gb191)); replace HO200 := Aside0.mk (Kd.R_below (ku HO200.out) hb); replace BK191 := Aside0.mk (blk_below (g := gb191) (o := .cells #[.string (⟨#[]⟩ : ByteArray), .int .i64 0, .int .i64 0, .int .i64 0, .int .i64 0, .int .i64 0, .slice none 0 0] 26 (0, 0)) (bu BK191.out) hb); replace HB := Aside0.mk (below_step (be HB.out) hb); clear hb hbox hg; have hnb25 := NB202_191.out; have hnc25 := NB191_202.out; have hcz26_0 := bc BK202.out 0 (.string (⟨#[]⟩ : ByteArray)) rfl; have hcz26_1 := bc BK202.out 1 (.int .i64 0) rfl; have hcz26_2 := bc BK202.out 2 (.int .i64 0) rfl; have hcz26_3 := bc BK202.out 3 (.int .i64 0) rfl; have hcz26_4 := bc BK202.out 4 (.int .i64 0) rfl; have hcz26_5 := bc BK202.out 5 (.int .i64 0) rfl; have hcz26_6 := bc BK202.out 6 (.slice none 0 0) rfl; have hfz26_0 := blk_frozen BK202.out 0; have hfz26_1 := blk_frozen BK202.out 1; have hfz26_2 := blk_frozen BK202.out 2; have hfz26_3 := blk_frozen BK202.out 3; have hfz26_4 := blk_frozen BK202.out 4; have hfz26_5 := blk_frozen BK202.out 5; have hfz26_6 := blk_frozen BK202.out 6; obtain ⟨Ao27, co27, eo27⟩ := Kd.R_slice HO200.out; subst eo27) | ((with_reducible refine gate_callee (f := 11) rfl ?_); refine goesA (some 22) rfl rfl Tryz.func11 (by kernel_rfl) rfl #[.agg #[.string t192, .int .i64 t193, .int .i64 t194, .int .i64 t195, .int .i64 t196, .int .i64 t197, .slice Ao27 t198.length co27]] rfl ?_; (with_reducible refine (roll_Check.calls k t192 t193 t194 t195 t196 t197 _ _ t198 t203 _ ?side1 ?side2 A8.out).mono ?_); (case side1 => refine (Kd.R_reads' (e := 46) (base := w.heap.size) (ok := fun k_ => True) (n := t198.length) (c := co27) ?_).2.2; exact (kf HO200.out BK202.out)); (case side2 => exact (Kd.R_reads' HO200.out).2.1); rintro e w28 ⟨rfl, hb⟩; refine ⟨_, rfl, ?_⟩; replace HO200 := Aside0.mk (Kd.R_below (kf HO200.out BK202.out) hb); replace BK191 := Aside0.mk (blk_below (g := gb191) (o := .cells #[.string (⟨#[]⟩ : ByteArray), .int .i64 0, .int .i64 0, .int .i64 0, .int .i64 0, .int .i64 0, .slice none 0 0] 26 (0, 0)) (by (with_reducible repeat (first | refine blk_drewN ?_ _ | refine blk_drew ?_ | refine blk_alloc ?_ _)); refine blk_far ?_ NB191_202.out _; (with_reducible repeat (first | refine blk_drewN ?_ _ | refine blk_drew ?_ | refine blk_alloc ?_ _)); refine blk_far ?_ NB191_202.out _; (with_reducible repeat (first | refine blk_drewN ?_ _ | refine blk_drew ?_ | refine blk_alloc ?_ _)); refine blk_far ?_ NB191_202.out _; (with_reducible repeat (first | refine blk_drewN ?_ _ | refine blk_drew ?_ | refine blk_alloc ?_ _)); refine blk_far ?_ NB191_202.out _; (with_reducible repeat (first | refine blk_drewN ?_ _ | refine blk_drew ?_ | refine blk_alloc ?_ _)); refine blk_far ?_ NB191_202.out _; (with_reducible repeat (first | refine blk_drewN ?_ _ | refine blk_drew ?_ | refine blk_alloc ?_ _)); refine blk_far ?_ NB191_202.out _; (with_reducible repeat (first | refine blk_drewN ?_ _ | refine blk_drew ?_ | refine blk_alloc ?_ _)); refine blk_far ?_ NB191_202.out _; (with_reducible repeat (first | refine blk_drewN ?_ _ | refine blk_drew ?_ | refine blk_alloc ?_ _)); exact BK191.out) hb); replace BK202 := Aside0.mk (blk_below (g := gb202) (o := .cells #[.string t192, .int .i64 t193, .int .i64 t194, .int .i64 t195, .int .i64 t196, .int .i64 t197, .slice Ao27 t198.length co27] 26 (0, 0)) (by (with_reducible repeat (first | refine blk_drewN ?_ _ | refine blk_drew ?_ | refine blk_alloc ?_ _)); refine blk_put (cs := #[.string t192, .int .i64 t193, .int .i64 t194, .int .i64 t195, .int .i64 t196, .int .i64 t197, .slice none 0 0]) ?_ 6 _ rfl; (with_reducible repeat (first | refine blk_drewN ?_ _ | refine blk_drew ?_ | refine blk_alloc ?_ _)); refine blk_put (cs := #[.string t192, .int .i64 t193, .int .i64 t194, .int .i64 t195, .int .i64 t196, .int .i64 0, .slice none 0 0]) ?_ 5 _ rfl; (with_reducible repeat (first | refine blk_drewN ?_ _ | refine blk_drew ?_ | refine blk_alloc ?_ _)); refine blk_put (cs := #[.string t192, .int .i64 t193, .int .i64 t194, .int .i64 t195, .int .i64 0, .int .i64 0, .slice none 0 0]) ?_ 4 _ rfl; (with_reducible repeat (first | refine blk_drewN ?_ _ | refine blk_drew ?_ | refine blk_alloc ?_ _)); refine blk_put (cs := #[.string t192, .int .i64 t193, .int .i64 t194, .int .i64 0, .int .i64 0, .int .i64 0, .slice none 0 0]) ?_ 3 _ rfl; (with_reducible repeat (first | refine blk_drewN ?_ _ | refine blk_drew ?_ | refine blk_alloc ?_ _)); refine blk_put (cs := #[.string t192, .int .i64 t193, .int .i64 0, .int .i64 0, .int .i64 0, .int .i64 0, .slice none 0 0]) ?_ 2 _ rfl; (with_reducible repeat (first | refine blk_drewN ?_ _ | refine blk_drew ?_ | refine blk_alloc ?_ _)); refine blk_put (cs := #[.string t192, .int .i64 0, .int .i64 0, .int .i64 0, .int .i64 0, .int .i64 0, .slice none 0 0]) ?_ 1 _ rfl; (with_reducible repeat (first | refine blk_drewN ?_ _ | refine blk_drew ?_ | refine blk_alloc ?_ _)); refine blk_put (cs := #[.string (⟨#[]⟩ : ByteArray), .int .i64 0, .int .i64 0, .int .i64 0, .int .i64 0, .int .i64 0, .slice none 0 0]) ?_ 0 _ rfl; (with_reducible repeat (first | refine blk_drewN ?_ _ | refine blk_drew ?_ | refine blk_alloc ?_ _)); exact BK202.out) hb); replace HB := Aside0.mk (below_step (be HB.out) hb); (try clear hb); have hcz29_0 := bc BK202.out 0 (.string t192) rfl; have hcz29_1 := bc BK202.out 1 (.int .i64 t193) rfl; have hcz29_2 := bc BK202.out 2 (.int .i64 t194) rfl; have hcz29_3 := bc BK202.out 3 (.int .i64 t195) rfl; have hcz29_4 := bc BK202.out 4 (.int .i64 t196) rfl; have hcz29_5 := bc BK202.out 5 (.int .i64 t197) rfl; have hcz29_6 := bc BK202.out 6 (.slice Ao27 t198.length co27) rfl; have hfz29_0 := blk_frozen BK202.out 0; have hfz29_1 := blk_frozen BK202.out 1; have hfz29_2 := blk_frozen BK202.out 2; have hfz29_3 := blk_frozen BK202.out 3; have hfz29_4 := blk_frozen BK202.out 4; have hfz29_5 := blk_frozen BK202.out 5; have hfz29_6 := blk_frozen BK202.out 6) | ((with_reducible refine gate_callee (f := 30) rfl ?_); refine goesA (some 30) rfl rfl Tryz.func30 (by kernel_rfl) rfl #[.slice A0 l0.length c0, .string t192] rfl ?_; (with_reducible refine (roll_has.calls _ _ l0 t192 false _ ?side1 ?side2 A10.out).mono ?_); (case side1 => exact cu (Kd.C_below HR0.out HB.out)); (case side2 => exact HC0.out); rintro e w30 ⟨rfl, hb⟩; refine ⟨_, rfl, ?_⟩; replace HO200 := Aside0.mk (Kd.R_below (ku HO200.out) hb); replace BK191 := Aside0.mk (blk_below (g := gb191) (o := .cells #[.string (⟨#[]⟩ : ByteArray), .int .i64 0, .int .i64 0, .int .i64 0, .int .i64 0, .int .i64 0, .slice none 0 0] 26 (0, 0)) (bu BK191.out) hb); replace BK202 := Aside0.mk (blk_below (bu BK202.out) hb); replace HB := Aside0.mk (below_step (be HB.out) hb); (try clear hb); have hcz31_0 := bc BK202.out 0 (.string t192) rfl; have hcz31_1 := bc BK202.out 1 (.int .i64 t193) rfl; have hcz31_2 := bc BK202.out 2 (.int .i64 t194) rfl; have hcz31_3 := bc BK202.out 3 (.int .i64 t195) rfl; have hcz31_4 := bc BK202.out 4 (.int .i64 t196) rfl; have hcz31_5 := bc BK202.out 5 (.int .i64 t197) rfl; have hcz31_6 := bc BK202.out 6 (.slice Ao27 t198.length co27) rfl; have hfz31_0 := blk_frozen BK202.out 0; have hfz31_1 := blk_frozen BK202.out 1; have hfz31_2 := blk_frozen BK202.out 2; have hfz31_3 := blk_frozen BK202.out 3; have hfz31_4 := blk_frozen BK202.out 4; have hfz31_5 := blk_frozen BK202.out 5; have hfz31_6 := blk_frozen BK202.out 6; have hcz32_0 := bc BK191.out 0 (.string (⟨#[]⟩ : ByteArray)) rfl; have hcz32_1 := bc BK191.out 1 (.int .i64 0) rfl; have hcz32_2 := bc BK191.out 2 (.int .i64 0) rfl; have hcz32_3 := bc BK191.out 3 (.int .i64 0) rfl; have hcz32_4 := bc BK191.out 4 (.int .i64 0) rfl; have hcz32_5 := bc BK191.out 5 (.int .i64 0) rfl; have hcz32_6 := bc BK191.out 6 (.slice none 0 0) rfl; have hfz32_0 := blk_frozen BK191.out 0; have hfz32_1 := blk_frozen BK191.out 1; have hfz32_2 := blk_frozen BK191.out 2; have hfz32_3 := blk_frozen BK191.out 3; have hfz32_4 := blk_frozen BK191.out 4; have hfz32_5 := blk_frozen BK191.out 5; have hfz32_6 := blk_frozen BK191.out 6))
     refine bodyPost_ret (results_ct rfl _ _ gb191 26 #[.string t192, .int .i64 t193, .int .i64 t194, .int .i64 t195, .int .i64 t196, .int .i64 t197, .slice Ao27 t198.length co27] (0, 0) _ rfl (by (with_reducible repeat (first | refine blk_drewN ?_ _ | refine blk_drew ?_ | refine blk_alloc ?_ _)); refine blk_put (cs := #[.string t192, .int .i64 t193, .int .i64 t194, .int .i64 t195, .int .i64 t196, .int .i64 t197, .slice none 0 0]) ?_ 6 _ rfl; (with_reducible repeat (first | refine blk_drewN ?_ _ | refine blk_drew ?_ | refine blk_alloc ?_ _)); refine blk_put (cs := #[.string t192, .int .i64 t193, .int .i64 t194, .int .i64 t195, .int .i64 t196, .int .i64 0, .slice none 0 0]) ?_ 5 _ rfl; (with_reducible repeat (first | refine blk_drewN ?_ _ | refine blk_drew ?_ | refine blk_alloc ?_ _)); refine blk_put (cs := #[.string t192, .int .i64 t193, .int .i64 t194, .int .i64 t195, .int .i64 0, .int .i64 0, .slice none 0 0]) ?_ 4 _ rfl; (with_reducible repeat (first | refine blk_drewN ?_ _ | refine blk_drew ?_ | refine blk_alloc ?_ _)); refine blk_put (cs := #[.string t192, .int .i64 t193, .int .i64 t194, .int .i64 0, .int .i64 0, .int .i64 0, .slice none 0 0]) ?_ 3 _ rfl; (with_reducible repeat (first | refine blk_drewN ?_ _ | refine blk_drew ?_ | refine blk_alloc ?_ _)); refine blk_put (cs := #[.string t192, .int .i64 t193, .int .i64 0, .int .i64 0, .int .i64 0, .int .i64 0, .slice none 0 0]) ?_ 2 _ rfl; (with_reducible repeat (first | refine blk_drewN ?_ _ | refine blk_drew ?_ | refine blk_alloc ?_ _)); refine blk_put (cs := #[.string t192, .int .i64 0, .int .i64 0, .int .i64 0, .int .i64 0, .int .i64 0, .slice none 0 0]) ?_ 1 _ rfl; (with_reducible repeat (first | refine blk_drewN ?_ _ | refine blk_drew ?_ | refine blk_alloc ?_ _)); refine blk_put (cs := #[.string (⟨#[]⟩ : ByteArray), .int .i64 0, .int .i64 0, .int .i64 0, .int .i64 0, .int .i64 0, .slice none 0 0]) ?_ 0 _ rfl; (with_reducible repeat (first | refine blk_drewN ?_ _ | refine blk_drew ?_ | refine blk_alloc ?_ _)); exact BK191.out) Tryz.underlying26 rfl (by kernel_rfl)) rfl ?_; exact ⟨_, by first | rfl | (simp [errW_none, errW_some] <;> rfl) | (simp [*, errW_none, errW_some] <;> rfl), ku (Kd.R_mono (Kd.R_far (p := ⟨gb191, 6, none⟩) (Kd.R_far (p := ⟨gb191, 5, none⟩) (Kd.R_far (p := ⟨gb191, 4, none⟩) (Kd.R_far (p := ⟨gb191, 3, none⟩) (Kd.R_far (p := ⟨gb191, 2, none⟩) (Kd.R_far (p := ⟨gb191, 1, none⟩) (Kd.R_far (p := ⟨gb191, 0, none⟩) (Kd.R_types HO200.out BK191.out (by decide)) (fun _ hk => hk.2) (.string t192)) (fun _ hk => hk.2) (.int .i64 t193)) (fun _ hk => hk.2) (.int .i64 t194)) (fun _ hk => hk.2) (.int .i64 t195)) (fun _ hk => hk.2) (.int .i64 t196)) (fun _ hk => hk.2) (.int .i64 t197)) (fun _ hk => hk.2) (.slice Ao27 t198.length co27)) (fun _ hk => trivial)), be HB.out⟩
   ·rw [if_neg c9] at H; have c9b0 : (t203 == 0) = false := beq_eq_false_iff_ne.mpr c9; have c9b1 : (t203 != 0) = true := bne_iff_ne.mpr c9; simp only [Option.some.injEq, Prod.mk.injEq] at H; obtain ⟨rfl, rfl, rfl, rfl, rfl, rfl, rfl, rfl⟩ := H
    go_enter Tryz.func44, Tryz.ntmps44
    go_wp2_with (first | ((with_reducible refine gate_dst (N := 4) rfl ?_); refine box_event ?hg (N := 4) ?hd (cs := #[.string (⟨#[]⟩ : ByteArray), .int .i64 0, .int .i64 0, .int .i64 0, .int .i64 0, .int .i64 0, .slice none 0 0]) (t := 26) ?hr ?_; (case hd => rfl); (case hg => rfl); (case hr => first | (go_simp; done) | (go_simp; rfl)); intro gb191 hg w33 hbox hb; have BK191 := Aside0.mk (hbox); have GW191 := Aside0.mk ((by rw [hg]; exact (below_size (be HB.out)) : w.heap.size ≤ gb191)); have GE191 := Aside0.mk ((by rw [hg]; exact (below_size (be HB.out)) : w.heap.size ≤ gb191)); replace HB := Aside0.mk (below_step (be HB.out) hb); clear hb hbox hg) | ((with_reducible refine gate_callee (f := 58) rfl ?_); refine goesA (some 15) rfl rfl Tryz.func58 (by kernel_rfl) rfl #[.string a1] rfl ?_; (with_reducible refine (roll_read.calls k a1 t192 t193 t194 t195 t196 t197 t198 true _ A6.out (by first | exact Aside0.mk (GL.below hG.out (be HB.out)) | exact hG)).mono ?_); rintro e w34 ⟨v199, rfl, ho0, hb⟩; refine ⟨_, rfl, ?_⟩; have HO200 := Aside0.mk (Kd.R_lower ho0 (below_size (be HB.out))); replace BK191 := Aside0.mk (blk_below (g := gb191) (o := .cells #[.string (⟨#[]⟩ : ByteArray), .int .i64 0, .int .i64 0, .int .i64 0, .int .i64 0, .int .i64 0, .slice none 0 0] 26 (0, 0)) (bu BK191.out) hb); replace HB := Aside0.mk (below_step (be HB.out) hb); (try clear hb); (try clear ho0)) | ((with_reducible refine gate_dst (N := 6) rfl ?_); refine box_event ?hg (N := 6) ?hd (cs := #[.string (⟨#[]⟩ : ByteArray), .int .i64 0, .int .i64 0, .int .i64 0, .int .i64 0, .int .i64 0, .slice none 0 0]) (t := 26) ?hr ?_; (case hd => rfl); (case hg => rfl); (case hr => first | (go_simp; done) | (go_simp; rfl)); intro gb202 hg w35 hbox hb; have BK202 := Aside0.mk (hbox); have GW202 := Aside0.mk ((by rw [hg]; exact (below_size (be HB.out)) : w.heap.size ≤ gb202)); have GE202 := Aside0.mk ((by rw [hg]; exact (below_size (be HB.out)) : w.heap.size ≤ gb202)); have NB191_202 := Aside0.mk ((by rw [hg]; exact Nat.ne_of_lt (blk_lt (g := gb191) (o := .cells #[.string (⟨#[]⟩ : ByteArray), .int .i64 0, .int .i64 0, .int .i64 0, .int .i64 0, .int .i64 0, .slice none 0 0] 26 (0, 0)) (bu BK191.out)) : gb191 ≠ gb202)); have NB202_191 := Aside0.mk ((by rw [hg]; exact Nat.ne_of_gt (blk_lt (g := gb191) (o := .cells #[.string (⟨#[]⟩ : ByteArray), .int .i64 0, .int .i64 0, .int .i64 0, .int .i64 0, .int .i64 0, .slice none 0 0] 26 (0, 0)) (bu BK191.out)) : gb202 ≠ gb191)); replace HO200 := Aside0.mk (Kd.R_below (ku HO200.out) hb); replace BK191 := Aside0.mk (blk_below (g := gb191) (o := .cells #[.string (⟨#[]⟩ : ByteArray), .int .i64 0, .int .i64 0, .int .i64 0, .int .i64 0, .int .i64 0, .slice none 0 0] 26 (0, 0)) (bu BK191.out) hb); replace HB := Aside0.mk (below_step (be HB.out) hb); clear hb hbox hg; have hnb36 := NB202_191.out; have hnc36 := NB191_202.out; have hcz37_0 := bc BK202.out 0 (.string (⟨#[]⟩ : ByteArray)) rfl; have hcz37_1 := bc BK202.out 1 (.int .i64 0) rfl; have hcz37_2 := bc BK202.out 2 (.int .i64 0) rfl; have hcz37_3 := bc BK202.out 3 (.int .i64 0) rfl; have hcz37_4 := bc BK202.out 4 (.int .i64 0) rfl; have hcz37_5 := bc BK202.out 5 (.int .i64 0) rfl; have hcz37_6 := bc BK202.out 6 (.slice none 0 0) rfl; have hfz37_0 := blk_frozen BK202.out 0; have hfz37_1 := blk_frozen BK202.out 1; have hfz37_2 := blk_frozen BK202.out 2; have hfz37_3 := blk_frozen BK202.out 3; have hfz37_4 := blk_frozen BK202.out 4; have hfz37_5 := blk_frozen BK202.out 5; have hfz37_6 := blk_frozen BK202.out 6; obtain ⟨Ao38, co38, eo38⟩ := Kd.R_slice HO200.out; subst eo38) | ((with_reducible refine gate_callee (f := 11) rfl ?_); refine goesA (some 22) rfl rfl Tryz.func11 (by kernel_rfl) rfl #[.agg #[.string t192, .int .i64 t193, .int .i64 t194, .int .i64 t195, .int .i64 t196, .int .i64 t197, .slice Ao38 t198.length co38]] rfl ?_; (with_reducible refine (roll_Check.calls k t192 t193 t194 t195 t196 t197 _ _ t198 t203 _ ?side1 ?side2 A8.out).mono ?_); (case side1 => refine (Kd.R_reads' (e := 46) (base := w.heap.size) (ok := fun k_ => True) (n := t198.length) (c := co38) ?_).2.2; exact (kf HO200.out BK202.out)); (case side2 => exact (Kd.R_reads' HO200.out).2.1); rintro e w39 ⟨rfl, hb⟩; refine ⟨_, rfl, ?_⟩; replace HO200 := Aside0.mk (Kd.R_below (kf HO200.out BK202.out) hb); replace BK191 := Aside0.mk (blk_below (g := gb191) (o := .cells #[.string (⟨#[]⟩ : ByteArray), .int .i64 0, .int .i64 0, .int .i64 0, .int .i64 0, .int .i64 0, .slice none 0 0] 26 (0, 0)) (by (with_reducible repeat (first | refine blk_drewN ?_ _ | refine blk_drew ?_ | refine blk_alloc ?_ _)); refine blk_far ?_ NB191_202.out _; (with_reducible repeat (first | refine blk_drewN ?_ _ | refine blk_drew ?_ | refine blk_alloc ?_ _)); refine blk_far ?_ NB191_202.out _; (with_reducible repeat (first | refine blk_drewN ?_ _ | refine blk_drew ?_ | refine blk_alloc ?_ _)); refine blk_far ?_ NB191_202.out _; (with_reducible repeat (first | refine blk_drewN ?_ _ | refine blk_drew ?_ | refine blk_alloc ?_ _)); refine blk_far ?_ NB191_202.out _; (with_reducible repeat (first | refine blk_drewN ?_ _ | refine blk_drew ?_ | refine blk_alloc ?_ _)); refine blk_far ?_ NB191_202.out _; (with_reducible repeat (first | refine blk_drewN ?_ _ | refine blk_drew ?_ | refine blk_alloc ?_ _)); refine blk_far ?_ NB191_202.out _; (with_reducible repeat (first | refine blk_drewN ?_ _ | refine blk_drew ?_ | refine blk_alloc ?_ _)); refine blk_far ?_ NB191_202.out _; (with_reducible repeat (first | refine blk_drewN ?_ _ | refine blk_drew ?_ | refine blk_alloc ?_ _)); exact BK191.out) hb); replace BK202 := Aside0.mk (blk_below (g := gb202) (o := .cells #[.string t192, .int .i64 t193, .int .i64 t194, .int .i64 t195, .int .i64 t196, .int .i64 t197, .slice Ao38 t198.length co38] 26 (0, 0)) (by (with_reducible repeat (first | refine blk_drewN ?_ _ | refine blk_drew ?_ | refine blk_alloc ?_ _)); refine blk_put (cs := #[.string t192, .int .i64 t193, .int .i64 t194, .int .i64 t195, .int .i64 t196, .int .i64 t197, .slice none 0 0]) ?_ 6 _ rfl; (with_reducible repeat (first | refine blk_drewN ?_ _ | refine blk_drew ?_ | refine blk_alloc ?_ _)); refine blk_put (cs := #[.string t192, .int .i64 t193, .int .i64 t194, .int .i64 t195, .int .i64 t196, .int .i64 0, .slice none 0 0]) ?_ 5 _ rfl; (with_reducible repeat (first | refine blk_drewN ?_ _ | refine blk_drew ?_ | refine blk_alloc ?_ _)); refine blk_put (cs := #[.string t192, .int .i64 t193, .int .i64 t194, .int .i64 t195, .int .i64 0, .int .i64 0, .slice none 0 0]) ?_ 4 _ rfl; (with_reducible repeat (first | refine blk_drewN ?_ _ | refine blk_drew ?_ | refine blk_alloc ?_ _)); refine blk_put (cs := #[.string t192, .int .i64 t193, .int .i64 t194, .int .i64 0, .int .i64 0, .int .i64 0, .slice none 0 0]) ?_ 3 _ rfl; (with_reducible repeat (first | refine blk_drewN ?_ _ | refine blk_drew ?_ | refine blk_alloc ?_ _)); refine blk_put (cs := #[.string t192, .int .i64 t193, .int .i64 0, .int .i64 0, .int .i64 0, .int .i64 0, .slice none 0 0]) ?_ 2 _ rfl; (with_reducible repeat (first | refine blk_drewN ?_ _ | refine blk_drew ?_ | refine blk_alloc ?_ _)); refine blk_put (cs := #[.string t192, .int .i64 0, .int .i64 0, .int .i64 0, .int .i64 0, .int .i64 0, .slice none 0 0]) ?_ 1 _ rfl; (with_reducible repeat (first | refine blk_drewN ?_ _ | refine blk_drew ?_ | refine blk_alloc ?_ _)); refine blk_put (cs := #[.string (⟨#[]⟩ : ByteArray), .int .i64 0, .int .i64 0, .int .i64 0, .int .i64 0, .int .i64 0, .slice none 0 0]) ?_ 0 _ rfl; (with_reducible repeat (first | refine blk_drewN ?_ _ | refine blk_drew ?_ | refine blk_alloc ?_ _)); exact BK202.out) hb); replace HB := Aside0.mk (below_step (be HB.out) hb); (try clear hb); have hcz40_0 := bc BK191.out 0 (.string (⟨#[]⟩ : ByteArray)) rfl; have hcz40_1 := bc BK191.out 1 (.int .i64 0) rfl; have hcz40_2 := bc BK191.out 2 (.int .i64 0) rfl; have hcz40_3 := bc BK191.out 3 (.int .i64 0) rfl; have hcz40_4 := bc BK191.out 4 (.int .i64 0) rfl; have hcz40_5 := bc BK191.out 5 (.int .i64 0) rfl; have hcz40_6 := bc BK191.out 6 (.slice none 0 0) rfl; have hfz40_0 := blk_frozen BK191.out 0; have hfz40_1 := blk_frozen BK191.out 1; have hfz40_2 := blk_frozen BK191.out 2; have hfz40_3 := blk_frozen BK191.out 3; have hfz40_4 := blk_frozen BK191.out 4; have hfz40_5 := blk_frozen BK191.out 5; have hfz40_6 := blk_frozen BK191.out 6))
    refine bodyPost_ret (results_ct rfl _ _ gb191 26 #[.string (⟨#[]⟩ : ByteArray), .int .i64 0, .int .i64 0, .int .i64 0, .int .i64 0, .int .i64 0, .slice none 0 0] (0, 0) _ rfl (by (with_reducible repeat (first | refine blk_drewN ?_ _ | refine blk_drew ?_ | refine blk_alloc ?_ _)); refine blk_put (cs := #[.string (⟨#[]⟩ : ByteArray), .int .i64 0, .int .i64 0, .int .i64 0, .int .i64 0, .int .i64 0, .slice none 0 0]) ?_ 6 _ rfl; (with_reducible repeat (first | refine blk_drewN ?_ _ | refine blk_drew ?_ | refine blk_alloc ?_ _)); refine blk_put (cs := #[.string (⟨#[]⟩ : ByteArray), .int .i64 0, .int .i64 0, .int .i64 0, .int .i64 0, .int .i64 0, .slice none 0 0]) ?_ 5 _ rfl; (with_reducible repeat (first | refine blk_drewN ?_ _ | refine blk_drew ?_ | refine blk_alloc ?_ _)); refine blk_put (cs := #[.string (⟨#[]⟩ : ByteArray), .int .i64 0, .int .i64 0, .int .i64 0, .int .i64 0, .int .i64 0, .slice none 0 0]) ?_ 4 _ rfl; (with_reducible repeat (first | refine blk_drewN ?_ _ | refine blk_drew ?_ | refine blk_alloc ?_ _)); refine blk_put (cs := #[.string (⟨#[]⟩ : ByteArray), .int .i64 0, .int .i64 0, .int .i64 0, .int .i64 0, .int .i64 0, .slice none 0 0]) ?_ 3 _ rfl; (with_reducible repeat (first | refine blk_drewN ?_ _ | refine blk_drew ?_ | refine blk_alloc ?_ _)); refine blk_put (cs := #[.string (⟨#[]⟩ : ByteArray), .int .i64 0, .int .i64 0, .int .i64 0, .int .i64 0, .int .i64 0, .slice none 0 0]) ?_ 2 _ rfl; (with_reducible repeat (first | refine blk_drewN ?_ _ | refine blk_drew ?_ | refine blk_alloc ?_ _)); refine blk_put (cs := #[.string (⟨#[]⟩ : ByteArray), .int .i64 0, .int .i64 0, .int .i64 0, .int .i64 0, .int .i64 0, .slice none 0 0]) ?_ 1 _ rfl; (with_reducible repeat (first | refine blk_drewN ?_ _ | refine blk_drew ?_ | refine blk_alloc ?_ _)); refine blk_put (cs := #[.string (⟨#[]⟩ : ByteArray), .int .i64 0, .int .i64 0, .int .i64 0, .int .i64 0, .int .i64 0, .slice none 0 0]) ?_ 0 _ rfl; (with_reducible repeat (first | refine blk_drewN ?_ _ | refine blk_drew ?_ | refine blk_alloc ?_ _)); exact BK191.out) Tryz.underlying26 rfl (by kernel_rfl)) rfl ?_; exact ⟨_, by first | rfl | (simp [errW_none, errW_some] <;> rfl) | (simp [*, errW_none, errW_some] <;> rfl), by first | exact Kd.R_nil _ _ _ _ _ | exact Kd.N_nil _ _ _ _ _ | exact Kd.V_nil _ _ _ _ _ | exact Kd.Q_nil _ _ _ _ _ | exact Kd.S_nil _ _ _ _ _, be HB.out⟩
  ·replace c7 := Bool.eq_false_iff.mpr c7; subst c7
   have H1 : (some ((⟨#[]⟩ : ByteArray), 0, 0, 0, 0, 0, ([] : List (S46)), 2)) = some (r1, r2, r3, r4, r5, r6, r7, r8) := by rw [if_neg (show ¬ (false = true) by decide)] at H; exact H
   clear H; have H := H1; clear H1; simp only [Option.some.injEq, Prod.mk.injEq] at H; obtain ⟨rfl, rfl, rfl, rfl, rfl, rfl, rfl, rfl⟩ := H
   go_enter Tryz.func44, Tryz.ntmps44
   go_wp2_with (first | ((with_reducible refine gate_dst (N := 4) rfl ?_); refine box_event ?hg (N := 4) ?hd (cs := #[.string (⟨#[]⟩ : ByteArray), .int .i64 0, .int .i64 0, .int .i64 0, .int .i64 0, .int .i64 0, .slice none 0 0]) (t := 26) ?hr ?_; (case hd => rfl); (case hg => rfl); (case hr => first | (go_simp; done) | (go_simp; rfl)); intro gb191 hg w41 hbox hb; have BK191 := Aside0.mk (hbox); have GW191 := Aside0.mk ((by rw [hg]; exact (below_size (be HB.out)) : w.heap.size ≤ gb191)); have GE191 := Aside0.mk ((by rw [hg]; exact (below_size (be HB.out)) : w.heap.size ≤ gb191)); replace HB := Aside0.mk (below_step (be HB.out) hb); clear hb hbox hg) | ((with_reducible refine gate_callee (f := 58) rfl ?_); refine goesA (some 15) rfl rfl Tryz.func58 (by kernel_rfl) rfl #[.string a1] rfl ?_; (with_reducible refine (roll_read.calls k a1 t192 t193 t194 t195 t196 t197 t198 false _ A6.out (by first | exact Aside0.mk (GL.below hG.out (be HB.out)) | exact hG)).mono ?_); rintro e w42 ⟨v199, rfl, ho0, hb⟩; refine ⟨_, rfl, ?_⟩; have HO200 := Aside0.mk (Kd.R_lower ho0 (below_size (be HB.out))); replace BK191 := Aside0.mk (blk_below (g := gb191) (o := .cells #[.string (⟨#[]⟩ : ByteArray), .int .i64 0, .int .i64 0, .int .i64 0, .int .i64 0, .int .i64 0, .slice none 0 0] 26 (0, 0)) (bu BK191.out) hb); replace HB := Aside0.mk (below_step (be HB.out) hb); (try clear hb); (try clear ho0)) | ((with_reducible refine gate_dst (N := 6) rfl ?_); refine box_event ?hg (N := 6) ?hd (cs := #[.string (⟨#[]⟩ : ByteArray), .int .i64 0, .int .i64 0, .int .i64 0, .int .i64 0, .int .i64 0, .slice none 0 0]) (t := 26) ?hr ?_; (case hd => rfl); (case hg => rfl); (case hr => first | (go_simp; done) | (go_simp; rfl)); intro gb202 hg w43 hbox hb; have BK202 := Aside0.mk (hbox); have GW202 := Aside0.mk ((by rw [hg]; exact (below_size (be HB.out)) : w.heap.size ≤ gb202)); have GE202 := Aside0.mk ((by rw [hg]; exact (below_size (be HB.out)) : w.heap.size ≤ gb202)); have NB191_202 := Aside0.mk ((by rw [hg]; exact Nat.ne_of_lt (blk_lt (g := gb191) (o := .cells #[.string (⟨#[]⟩ : ByteArray), .int .i64 0, .int .i64 0, .int .i64 0, .int .i64 0, .int .i64 0, .slice none 0 0] 26 (0, 0)) (bu BK191.out)) : gb191 ≠ gb202)); have NB202_191 := Aside0.mk ((by rw [hg]; exact Nat.ne_of_gt (blk_lt (g := gb191) (o := .cells #[.string (⟨#[]⟩ : ByteArray), .int .i64 0, .int .i64 0, .int .i64 0, .int .i64 0, .int .i64 0, .slice none 0 0] 26 (0, 0)) (bu BK191.out)) : gb202 ≠ gb191)); replace HO200 := Aside0.mk (Kd.R_below (ku HO200.out) hb); replace BK191 := Aside0.mk (blk_below (g := gb191) (o := .cells #[.string (⟨#[]⟩ : ByteArray), .int .i64 0, .int .i64 0, .int .i64 0, .int .i64 0, .int .i64 0, .slice none 0 0] 26 (0, 0)) (bu BK191.out) hb); replace HB := Aside0.mk (below_step (be HB.out) hb); clear hb hbox hg; have hnb44 := NB202_191.out; have hnc44 := NB191_202.out; have hcz45_0 := bc BK202.out 0 (.string (⟨#[]⟩ : ByteArray)) rfl; have hcz45_1 := bc BK202.out 1 (.int .i64 0) rfl; have hcz45_2 := bc BK202.out 2 (.int .i64 0) rfl; have hcz45_3 := bc BK202.out 3 (.int .i64 0) rfl; have hcz45_4 := bc BK202.out 4 (.int .i64 0) rfl; have hcz45_5 := bc BK202.out 5 (.int .i64 0) rfl; have hcz45_6 := bc BK202.out 6 (.slice none 0 0) rfl; have hfz45_0 := blk_frozen BK202.out 0; have hfz45_1 := blk_frozen BK202.out 1; have hfz45_2 := blk_frozen BK202.out 2; have hfz45_3 := blk_frozen BK202.out 3; have hfz45_4 := blk_frozen BK202.out 4; have hfz45_5 := blk_frozen BK202.out 5; have hfz45_6 := blk_frozen BK202.out 6; obtain ⟨Ao46, co46, eo46⟩ := Kd.R_slice HO200.out; subst eo46; have hcz47_0 := bc BK191.out 0 (.string (⟨#[]⟩ : ByteArray)) rfl; have hcz47_1 := bc BK191.out 1 (.int .i64 0) rfl; have hcz47_2 := bc BK191.out 2 (.int .i64 0) rfl; have hcz47_3 := bc BK191.out 3 (.int .i64 0) rfl; have hcz47_4 := bc BK191.out 4 (.int .i64 0) rfl; have hcz47_5 := bc BK191.out 5 (.int .i64 0) rfl; have hcz47_6 := bc BK191.out 6 (.slice none 0 0) rfl; have hfz47_0 := blk_frozen BK191.out 0; have hfz47_1 := blk_frozen BK191.out 1; have hfz47_2 := blk_frozen BK191.out 2; have hfz47_3 := blk_frozen BK191.out 3; have hfz47_4 := blk_frozen BK191.out 4; have hfz47_5 := blk_frozen BK191.out 5; have hfz47_6 := blk_frozen BK191.out 6))
   refine bodyPost_ret (results_ct rfl _ _ gb191 26 #[.string (⟨#[]⟩ : ByteArray), .int .i64 0, .int .i64 0, .int .i64 0, .int .i64 0, .int .i64 0, .slice none 0 0] (0, 0) _ rfl (by (with_reducible repeat (first | refine blk_drewN ?_ _ | refine blk_drew ?_ | refine blk_alloc ?_ _)); refine blk_put (cs := #[.string (⟨#[]⟩ : ByteArray), .int .i64 0, .int .i64 0, .int .i64 0, .int .i64 0, .int .i64 0, .slice none 0 0]) ?_ 6 _ rfl; (with_reducible repeat (first | refine blk_drewN ?_ _ | refine blk_drew ?_ | refine blk_alloc ?_ _)); refine blk_put (cs := #[.string (⟨#[]⟩ : ByteArray), .int .i64 0, .int .i64 0, .int .i64 0, .int .i64 0, .int .i64 0, .slice none 0 0]) ?_ 5 _ rfl; (with_reducible repeat (first | refine blk_drewN ?_ _ | refine blk_drew ?_ | refine blk_alloc ?_ _)); refine blk_put (cs := #[.string (⟨#[]⟩ : ByteArray), .int .i64 0, .int .i64 0, .int .i64 0, .int .i64 0, .int .i64 0, .slice none 0 0]) ?_ 4 _ rfl; (with_reducible repeat (first | refine blk_drewN ?_ _ | refine blk_drew ?_ | refine blk_alloc ?_ _)); refine blk_put (cs := #[.string (⟨#[]⟩ : ByteArray), .int .i64 0, .int .i64 0, .int .i64 0, .int .i64 0, .int .i64 0, .slice none 0 0]) ?_ 3 _ rfl; (with_reducible repeat (first | refine blk_drewN ?_ _ | refine blk_drew ?_ | refine blk_alloc ?_ _)); refine blk_put (cs := #[.string (⟨#[]⟩ : ByteArray), .int .i64 0, .int .i64 0, .int .i64 0, .int .i64 0, .int .i64 0, .slice none 0 0]) ?_ 2 _ rfl; (with_reducible repeat (first | refine blk_drewN ?_ _ | refine blk_drew ?_ | refine blk_alloc ?_ _)); refine blk_put (cs := #[.string (⟨#[]⟩ : ByteArray), .int .i64 0, .int .i64 0, .int .i64 0, .int .i64 0, .int .i64 0, .slice none 0 0]) ?_ 1 _ rfl; (with_reducible repeat (first | refine blk_drewN ?_ _ | refine blk_drew ?_ | refine blk_alloc ?_ _)); refine blk_put (cs := #[.string (⟨#[]⟩ : ByteArray), .int .i64 0, .int .i64 0, .int .i64 0, .int .i64 0, .int .i64 0, .slice none 0 0]) ?_ 0 _ rfl; (with_reducible repeat (first | refine blk_drewN ?_ _ | refine blk_drew ?_ | refine blk_alloc ?_ _)); refine blk_far ?_ NB191_202.out _; (with_reducible repeat (first | refine blk_drewN ?_ _ | refine blk_drew ?_ | refine blk_alloc ?_ _)); refine blk_far ?_ NB191_202.out _; (with_reducible repeat (first | refine blk_drewN ?_ _ | refine blk_drew ?_ | refine blk_alloc ?_ _)); refine blk_far ?_ NB191_202.out _; (with_reducible repeat (first | refine blk_drewN ?_ _ | refine blk_drew ?_ | refine blk_alloc ?_ _)); refine blk_far ?_ NB191_202.out _; (with_reducible repeat (first | refine blk_drewN ?_ _ | refine blk_drew ?_ | refine blk_alloc ?_ _)); refine blk_far ?_ NB191_202.out _; (with_reducible repeat (first | refine blk_drewN ?_ _ | refine blk_drew ?_ | refine blk_alloc ?_ _)); refine blk_far ?_ NB191_202.out _; (with_reducible repeat (first | refine blk_drewN ?_ _ | refine blk_drew ?_ | refine blk_alloc ?_ _)); refine blk_far ?_ NB191_202.out _; (with_reducible repeat (first | refine blk_drewN ?_ _ | refine blk_drew ?_ | refine blk_alloc ?_ _)); exact BK191.out) Tryz.underlying26 rfl (by kernel_rfl)) rfl ?_; exact ⟨_, by first | rfl | (simp [errW_none, errW_some] <;> rfl) | (simp [*, errW_none, errW_some] <;> rfl), by first | exact Kd.R_nil _ _ _ _ _ | exact Kd.N_nil _ _ _ _ _ | exact Kd.V_nil _ _ _ _ _ | exact Kd.Q_nil _ _ _ _ _ | exact Kd.S_nil _ _ _ _ _, be HB.out⟩

end Go.Proofs.YtdblkmnbkpphjaaGreatDoor.P
namespace Go.Proofs.YtdblkmnbkpphjaaGreatDoor.P
open Go.RowKit Go.Proofs.YtdblkmnbkpphjaaGreatDoorW.PrintWords Go.Proofs.YtdblkmnbkpphjaaGreatDoorW.PrintLast Go.Proofs.YtdblkmnbkpphjaaGreatDoorW.PrintMore Go.Proofs.YtdblkmnbkpphjaaGreatDoorW.PrintAuto
attribute [local go_sem] max2_int min2_int max_two min_two max_three min_three max_four min_four   -- for this text's walks alone
set_option linter.unusedVariables false
set_option linter.unusedSimpArgs false

--IMPORT Derived.Test.YtdblkmnbkpphjaaGreatDoorGL
def roll_Parse.l0 : Nat → List (S26) → List ByteArray → Int → Int → Option ((List (S26)) × Int × Int)
 | 0, _, _, _, _ => none
 | k + 1, x5, x14, x15, x16 => if x16 < x15 then (if 0 ≤ x16 then (if x16 < (x14.length : Int) then (if (rdOf ByteArray.empty x14 x16).toList = ([] : List UInt8) then (roll_Parse.l0 k x5 x14 x15 (wrap64 (x16 + 1))) else ((roll_next.f k x5 (rdOf ByteArray.empty x14 x16)).bind fun bt209 => (if bt209.2.2.2.2.2.2.2 = 0 then (if x5.length < 1759218604441 then (roll_Parse.l0 k (x5 ++ [(⟨bt209.1, bt209.2.1, bt209.2.2.1, (⟨bt209.2.2.2.1, bt209.2.2.2.2.1, bt209.2.2.2.2.2.1⟩ : S23), bt209.2.2.2.2.2.2.1⟩ : S26)]) x14 x15 (wrap64 (x16 + 1))) else (none)) else (some (([] : List (S26)), bt209.2.2.2.2.2.2.2, wrap64 (x16 + 1)))))) else (none)) else (none)) else (some (x5, 0, 0))
def roll_Parse.f (k : Nat) (a0 : ByteArray) : Option ((List (S26)) × Int × Int) := if (a0.size : Int) > 20000 then (some (([] : List (S26)), 5, 0)) else ((strings_Split.f a0 (⟨#[10]⟩ : ByteArray)).bind fun t205 => (roll_Parse.l0 k ([] : List (S26)) t205 (t205.length : Int) 0))
theorem roll_Parse.mono_l : ∀ k, (∀ y0 y1 y2 y3, LeO (roll_Parse.l0 k y0 y1 y2 y3) (roll_Parse.l0 (k + 1) y0 y1 y2 y3))
 | 0 => fun _ _ _ _ r h => by simp [roll_Parse.l0] at h
 | k + 1 => by
  have ih0 := roll_Parse.mono_l k
  ·intro y0 y1 y2 y3
   unfold roll_Parse.l0
   repeat' first
   | (with_reducible exact ih0 _ _ _ _)
   | (with_reducible exact roll_next.mono _ _ _)
   | (with_reducible exact LeO.refl _)
   | (with_reducible exact LeO.none _)
   | (with_reducible refine LeO.ite ?_ ?_)
   | (with_reducible refine LeO.bind ?_ (fun _ => ?_))
   | exact ih0 _ _ _ _
   | exact roll_next.mono _ _ _
   | exact LeO.none _
   | refine LeO.ite ?_ ?_
   | refine LeO.bind ?_ (fun _ => ?_)
theorem roll_Parse.mono : ∀ a0 k, LeO (roll_Parse.f k a0) (roll_Parse.f (k + 1) a0) := by
 intro a0 k; have ih0 := roll_Parse.mono_l k
 unfold roll_Parse.f
 repeat' first
  | (with_reducible exact ih0 _ _ _ _)
  | (with_reducible exact roll_next.mono _ _ _)
  | (with_reducible exact LeO.refl _)
  | (with_reducible exact LeO.none _)
  | (with_reducible refine LeO.ite ?_ ?_)
  | (with_reducible refine LeO.bind ?_ (fun _ => ?_))
  | exact ih0 _ _ _ _
  | exact roll_next.mono _ _ _
  | exact LeO.none _
  | refine LeO.ite ?_ ?_
  | refine LeO.bind ?_ (fun _ => ?_)
set_option maxHeartbeats 8000000 in
set_option maxRecDepth 100000 in
theorem roll_Parse.calls (k : Nat) (a0 : ByteArray) (r1 : List (S26)) (r2 : Int) (r3 : Int) (w : World) (h : roll_Parse.f k a0 = some (r1, r2, r3)) (hG : Aside0 (GL w)) :
  Calls Tryz.prog 20 #[.string a0] w fun e w' => ∃ v0_ : Value, e = .returned (.tuple #[v0_, .int .i64 r2, .int .i64 r3]) ∧ Kd.S k26 26 w' w.heap.size (fun _ => True) v0_ r1 ∧ Below w.heap.size w w' := by
 have hu26 := Tryz.underlying26; have HB := Aside0.mk (Below.refl w.heap.size w); have H : (if (a0.size : Int) > 20000 then (some (([] : List (S26)), 5, 0)) else ((strings_Split.f a0 (⟨#[10]⟩ : ByteArray)).bind fun t205 => (roll_Parse.l0 k ([] : List (S26)) t205 (t205.length : Int) 0))) = some (r1, r2, r3) := h; clear h
 by_cases c2 : (a0.size : Int) > 20000
 ·rw [if_pos c2] at H; have c2b0 : decide (20000 < (a0.size : Int)) = true := decide_eq_true c2; have c2b1 : decide (20000 < a0.size) = true := decide_eq_true (by omega); clear c2; simp only [Option.some.injEq, Prod.mk.injEq] at H; obtain ⟨rfl, rfl, rfl⟩ := H
  go_enter Tryz.func20, Tryz.ntmps20
  go_wp2
  go_ret3
  exact ⟨_, by first | rfl | (simp [errW_none, errW_some] <;> rfl) | (simp [*, errW_none, errW_some] <;> rfl), by first | exact Kd.S_nil _ _ _ _ _ | exact Kd.N_nil _ _ _ _ _ | exact Kd.V_nil _ _ _ _ _ | exact Kd.Q_nil _ _ _ _ _ | exact Kd.R_nil _ _ _ _ _, be HB.out⟩
 ·rw [if_neg c2] at H; have c2b0 : decide (20000 < (a0.size : Int)) = false := decide_eq_false c2; have c2b1 : decide (20000 < a0.size) = false := decide_eq_false (by omega); clear c2; replace H := Option.bind_eq_some_iff.mp H; obtain ⟨t205, A30, H⟩ := H; replace H : (roll_Parse.l0 k ([] : List (S26)) t205 (t205.length : Int) 0) = some (r1, r2, r3) := H; have A3 := Aside0.mk A30; clear A30; have H' := Aside0.mk H; clear H
  go_enter Tryz.func20, Tryz.ntmps20
  go_wp2_with (first | ((with_reducible refine gate_callee (f := 43) rfl ?_); refine goesA (some 14) rfl rfl Tryz.func43 (by kernel_rfl) rfl #[.string a0, .string (⟨#[10]⟩ : ByteArray)] rfl ?_; (with_reducible refine (strings_Split.calls a0 (⟨#[10]⟩ : ByteArray) t205 _ A3.out (by first | exact Aside0.mk (GL.below hG.out (be HB.out)) | exact hG)).mono ?_); rintro e w4 ⟨v206, rfl, ho0, hb⟩; refine ⟨_, rfl, ?_⟩; have HO207 := Aside0.mk (Kd.R_lower ho0 (below_size (be HB.out))); replace HB := Aside0.mk (below_step (be HB.out) hb); (try clear hb); (try clear ho0); obtain ⟨Ao5, co5, eo5⟩ := Kd.R_slice HO207.out; subst eo5))
  go_loopg [5, 16] k (fun kq v5 v16 w' => ∃ (x5_1 : List (S26)) (x16_1 : Int), v16 = .int .i64 x16_1 ∧ Aside0 (roll_Parse.l0 kq x5_1 t205 (t205.length : Int) x16_1 = some (r1, r2, r3)) ∧ Aside0 (kq ≤ k) ∧ Aside0 (Kd.S k26 26 w' w.heap.size (fun _ => True) v5 x5_1) ∧ Aside0 (Kd.R Kd.string 9 w' w.heap.size (fun _ => True) (.slice Ao5 t205.length co5) t205) ∧ Aside0 (Below w.heap.size w w'))
  case atStart => exact ⟨(([] : List (S26))), (0), (by first | rfl | (simp; done) | (simp [*]; done)), H', ⟨Nat.le_refl _⟩, ⟨by first | exact Kd.S_nil _ _ _ _ _ | exact Kd.N_nil _ _ _ _ _ | exact Kd.V_nil _ _ _ _ _ | exact Kd.Q_nil _ _ _ _ _ | exact Kd.R_nil _ _ _ _ _⟩, ⟨ku (HO207.out)⟩, ⟨be HB.out⟩⟩
  case round =>
   clear H'
   try clear c2
   try clear c2b0
   try clear c2b1
   try clear p2
   try clear c4
   obtain ⟨x5_1, x16_1, rfl, HA, HK1, HO_5, HO_14, HB⟩ := hrel
   cases gk with
   | zero => exact absurd HA.out (by simp [roll_Parse.l0])
   | succ k1 =>
    have H := HA.out; clear HA; simp only [roll_Parse.l0] at H
    by_cases c6 : x16_1 < (t205.length : Int)
    ·rw [if_pos c6] at H; have c6b0 : decide (x16_1 < (t205.length : Int)) = true := decide_eq_true c6; clear c6
     by_cases c7 : 0 ≤ x16_1
     ·rw [if_pos c7] at H; have c7b0 : decide (0 ≤ x16_1) = true := decide_eq_true c7; clear c7
      by_cases c8 : x16_1 < (t205.length : Int)
      ·rw [if_pos c8] at H; have c8b0 : decide (x16_1 < (t205.length : Int)) = true := decide_eq_true c8; clear c8
       by_cases c9 : (rdOf ByteArray.empty t205 x16_1).toList = ([] : List UInt8)
       ·rw [if_pos c9] at H; have c9b0 : ((rdOf ByteArray.empty t205 x16_1).toList == ([] : List UInt8)) = true := beq_iff_eq.mpr c9; have c9b1 : ((rdOf ByteArray.empty t205 x16_1).toList != ([] : List UInt8)) = false := bne_eq_false_iff_eq.mpr c9; clear c9; have H' := Aside0.mk H; clear H; have p208 : 0 ≤ (x16_1 : Int) := oda; have q208 : x16_1 < (t205.length : Int) := oda; obtain ⟨ad208, e208, hx208_0⟩ := Kd.at_string (Kd.R_reads' HO_14.out).2.2 x16_1 p208 q208; cases e208; replace p208 := eq_true p208; replace q208 := eq_true q208
        go_wp2
        go_roundg k1
        case measure => have := HK1.out; omega
        case rel => exact ⟨(x5_1), (wrap64 (x16_1 + 1)), (by first | rfl | (simp; done) | (simp [*]; done)), H', ⟨by have := HK1.out; omega⟩, ⟨by (with_reducible repeat (first | apply Kd.S_alloc | apply Kd.S_drewN | apply Kd.S_drew)); exact HO_5.out⟩, ⟨ku (HO_14.out)⟩, ⟨be HB.out⟩⟩
       ·rw [if_neg c9] at H; have c9b0 : ((rdOf ByteArray.empty t205 x16_1).toList == ([] : List UInt8)) = false := beq_eq_false_iff_ne.mpr c9; have c9b1 : ((rdOf ByteArray.empty t205 x16_1).toList != ([] : List UInt8)) = true := bne_iff_ne.mpr c9; replace H := Option.bind_eq_some_iff.mp H; obtain ⟨⟨t209, t210, t211, t212, t213, t214, t215, t218⟩, A100, H⟩ := H; replace H : (if t218 = 0 then (if x5_1.length < 1759218604441 then (roll_Parse.l0 k1 (x5_1 ++ [(⟨t209, t210, t211, (⟨t212, t213, t214⟩ : S23), t215⟩ : S26)]) t205 (t205.length : Int) (wrap64 (x16_1 + 1))) else (none)) else (some (([] : List (S26)), t218, wrap64 (x16_1 + 1)))) = some (r1, r2, r3) := H; have A10 := Aside0.mk A100; clear A100
        by_cases c11 : t218 = 0
        ·rw [if_pos c11] at H; have c11b0 : (t218 == 0) = true := beq_iff_eq.mpr c11; have c11b1 : (t218 != 0) = false := bne_eq_false_iff_eq.mpr c11; clear c11
         by_cases c12 : x5_1.length < 1759218604441
         ·rw [if_pos c12] at H; have LMc12 := Aside0.mk c12; clear c12; obtain ⟨y220, hy220⟩ : ∃ y_ : List (S26), y_ = (x5_1 ++ [(⟨t209, t210, t211, (⟨t212, t213, t214⟩ : S23), t215⟩ : S26)]) := ⟨_, rfl⟩
          replace H : (roll_Parse.l0 k1 y220 t205 (t205.length : Int) (wrap64 (x16_1 + 1))) = some (r1, r2, r3) := by first | (rw [hy220]; with_reducible exact H) | (have H2_ := (Option.bind_some _ _).symm.trans H; rw [hy220]; with_reducible exact H2_) | (have H2_ := (Option.bind_some _ _).symm.trans H; with_reducible exact H2_) | with_reducible exact H | (rw [hy220]; exact H) | exact H
          have Ny220 := Aside0.mk hy220; clear hy220; have H' := Aside0.mk H; clear H; have p208 : 0 ≤ (x16_1 : Int) := oda; have q208 : x16_1 < (t205.length : Int) := oda; obtain ⟨ad208, e208, hx208_0⟩ := Kd.at_string (Kd.R_reads' HO_14.out).2.2 x16_1 p208 q208; cases e208; replace p208 := eq_true p208; replace q208 := eq_true q208; obtain ⟨Ao13, co13, eo13⟩ := Kd.S_slice HO_5.out; subst eo13
          go_wp2_with (first | ((with_reducible refine gate_callee (f := 44) rfl ?_); refine goesA (some 26) rfl rfl Tryz.func44 (by kernel_rfl) rfl #[.slice Ao13 x5_1.length co13, .string (rdOf ByteArray.empty t205 x16_1)] rfl ?_; (with_reducible refine (roll_next.calls k1 _ _ x5_1 (rdOf ByteArray.empty t205 x16_1) t209 t210 t211 t212 t213 t214 t215 t218 _ ?side1 ?side2 A10.out (by first | exact Aside0.mk (GL.below hG.out (be HB.out)) | exact hG)).mono ?_); (case side1 => exact cu (Kd.S_reads' HO_5.out).2.2); (case side2 => exact (Kd.S_reads' HO_5.out).2.1); rintro e w14 ⟨v216, rfl, ho0, hb⟩; refine ⟨_, rfl, ?_⟩; have HO217 := Aside0.mk (Kd.R_lower ho0 (below_size (be HB.out))); replace HO_5 := Aside0.mk (Kd.S_elder' (by (with_reducible repeat (first | apply Kd.S_alloc | apply Kd.S_drewN | apply Kd.S_drew)); exact HO_5.out) (Kd.R_base ho0) hb); replace HO_14 := Aside0.mk (Kd.R_below (ku HO_14.out) hb); replace HB := Aside0.mk (below_step (be HB.out) hb); (try clear hb); (try clear hk); (try clear ho0)) | ((with_reducible refine gate_dst (N := 8) rfl ?_); refine box_event ?hg (N := 8) ?hd (cs := #[.string (⟨#[]⟩ : ByteArray), .int .i64 0, .int .i64 0, .int .i64 0, .int .i64 0, .int .i64 0, .slice none 0 0]) (t := 26) ?hr ?_; (case hd => rfl); (case hg => rfl); (case hr => first | (go_simp; done) | (go_simp; rfl)); intro gb219 hg w15 hbox hb; have BK219 := Aside0.mk (hbox); have GW219 := Aside0.mk ((by rw [hg]; exact (below_size (be HB.out)) : w.heap.size ≤ gb219)); have GE219 := Aside0.mk ((by rw [hg]; exact (below_size (be HB.out)) : w.heap.size ≤ gb219)); replace HO_5 := Aside0.mk (Kd.S_below (Kd.S_elderB (by (with_reducible repeat (first | apply Kd.S_alloc | apply Kd.S_drewN | apply Kd.S_drew)); exact HO_5.out) gb219 (Nat.le_of_eq hg.symm)) hb); replace HO_14 := Aside0.mk (Kd.R_below (ku HO_14.out) hb); replace HO217 := Aside0.mk (Kd.R_below (ku HO217.out) hb); replace HB := Aside0.mk (below_step (be HB.out) hb); clear hb hbox hg; have hcz16_0 := bc BK219.out 0 (.string (⟨#[]⟩ : ByteArray)) rfl; have hcz16_1 := bc BK219.out 1 (.int .i64 0) rfl; have hcz16_2 := bc BK219.out 2 (.int .i64 0) rfl; have hcz16_3 := bc BK219.out 3 (.int .i64 0) rfl; have hcz16_4 := bc BK219.out 4 (.int .i64 0) rfl; have hcz16_5 := bc BK219.out 5 (.int .i64 0) rfl; have hcz16_6 := bc BK219.out 6 (.slice none 0 0) rfl; have hfz16_0 := blk_frozen BK219.out 0; have hfz16_1 := blk_frozen BK219.out 1; have hfz16_2 := blk_frozen BK219.out 2; have hfz16_3 := blk_frozen BK219.out 3; have hfz16_4 := blk_frozen BK219.out 4; have hfz16_5 := blk_frozen BK219.out 5; have hfz16_6 := blk_frozen BK219.out 6; obtain ⟨Ao17, co17, eo17⟩ := Kd.R_slice HO217.out; subst eo17) | ((with_reducible refine gate_store (t := 26) (p := 8) rfl ?_); refine store_event (t := 26) (p := 8) (v := ?vo_w18) (w1 := (((((((w15.setCell ⟨gb219, 0, none⟩ (.string t209)).setCell ⟨gb219, 1, none⟩ (.int .i64 t210)).setCell ⟨gb219, 2, none⟩ (.int .i64 t211)).setCell ⟨gb219, 3, none⟩ (.int .i64 t212)).setCell ⟨gb219, 4, none⟩ (.int .i64 t213)).setCell ⟨gb219, 5, none⟩ (.int .i64 t214)).setCell ⟨gb219, 6, none⟩ (.slice Ao17 t215.length co17))) ?hg ?ho ?hn ?hr ?_; (case ho => rfl); (case hg => rfl); (case hn => rfl); (case hr => first | (go_simp; done) | (go_simp; rfl)); intro w18 hw; have n0_ : Aside0 (Kd.S k26 26 w18 w.heap.size (fun k_ => some k_ ≠ (.slice Ao17 t215.length co17 : Value).ownBlock ∧ k_ ≠ gb219) (.slice Ao13 x5_1.length co13) x5_1) := ⟨(by rw [hw]; exact (by (with_reducible repeat (first | apply Kd.S_alloc | apply Kd.S_drewN | apply Kd.S_drew)); exact Kd.S_mono (Kd.S_far (p := ⟨gb219, 6, none⟩) (Kd.S_far (p := ⟨gb219, 5, none⟩) (Kd.S_far (p := ⟨gb219, 4, none⟩) (Kd.S_far (p := ⟨gb219, 3, none⟩) (Kd.S_far (p := ⟨gb219, 2, none⟩) (Kd.S_far (p := ⟨gb219, 1, none⟩) (Kd.S_far (p := ⟨gb219, 0, none⟩) (Kd.S_mono HO_5.out (fun k_ hk => (⟨hk, hk.2⟩ : _ ∧ k_ ≠ gb219))) (fun _ hk => hk.2) (.string t209)) (fun _ hk => hk.2) (.int .i64 t210)) (fun _ hk => hk.2) (.int .i64 t211)) (fun _ hk => hk.2) (.int .i64 t212)) (fun _ hk => hk.2) (.int .i64 t213)) (fun _ hk => hk.2) (.int .i64 t214)) (fun _ hk => hk.2) (.slice Ao17 t215.length co17)) (fun _ hk => ⟨hk.1.1.2, hk.1.2⟩)))⟩; have n1_ : Aside0 (Kd.R Kd.string 9 w18 w.heap.size (fun _ => True) (.slice (some ad208) t205.length co5) t205) := ⟨(by rw [hw]; exact (ku (Kd.R_mono (Kd.R_far (p := ⟨gb219, 6, none⟩) (Kd.R_far (p := ⟨gb219, 5, none⟩) (Kd.R_far (p := ⟨gb219, 4, none⟩) (Kd.R_far (p := ⟨gb219, 3, none⟩) (Kd.R_far (p := ⟨gb219, 2, none⟩) (Kd.R_far (p := ⟨gb219, 1, none⟩) (Kd.R_far (p := ⟨gb219, 0, none⟩) (Kd.R_types HO_14.out BK219.out (by decide)) (fun _ hk => hk.2) (.string t209)) (fun _ hk => hk.2) (.int .i64 t210)) (fun _ hk => hk.2) (.int .i64 t211)) (fun _ hk => hk.2) (.int .i64 t212)) (fun _ hk => hk.2) (.int .i64 t213)) (fun _ hk => hk.2) (.int .i64 t214)) (fun _ hk => hk.2) (.slice Ao17 t215.length co17)) (fun _ hk => trivial))))⟩; have n2_ : Aside0 (Kd.R k46 46 w18 w.heap.size (fun _ => True) (.slice Ao17 t215.length co17) t215) := ⟨(by rw [hw]; exact (ku (Kd.R_mono (Kd.R_far (p := ⟨gb219, 6, none⟩) (Kd.R_far (p := ⟨gb219, 5, none⟩) (Kd.R_far (p := ⟨gb219, 4, none⟩) (Kd.R_far (p := ⟨gb219, 3, none⟩) (Kd.R_far (p := ⟨gb219, 2, none⟩) (Kd.R_far (p := ⟨gb219, 1, none⟩) (Kd.R_far (p := ⟨gb219, 0, none⟩) (Kd.R_types HO217.out BK219.out (by decide)) (fun _ hk => hk.2) (.string t209)) (fun _ hk => hk.2) (.int .i64 t210)) (fun _ hk => hk.2) (.int .i64 t211)) (fun _ hk => hk.2) (.int .i64 t212)) (fun _ hk => hk.2) (.int .i64 t213)) (fun _ hk => hk.2) (.int .i64 t214)) (fun _ hk => hk.2) (.slice Ao17 t215.length co17)) (fun _ hk => trivial))))⟩; have n3_ : Aside0 (w18.heap[gb219]? = some (.cells #[.string t209, .int .i64 t210, .int .i64 t211, .int .i64 t212, .int .i64 t213, .int .i64 t214, .slice Ao17 t215.length co17] 26 (0, 0))) := ⟨(by rw [hw]; exact (by (with_reducible repeat (first | refine blk_drewN ?_ _ | refine blk_drew ?_ | refine blk_alloc ?_ _)); refine blk_put (cs := #[.string t209, .int .i64 t210, .int .i64 t211, .int .i64 t212, .int .i64 t213, .int .i64 t214, .slice none 0 0]) ?_ 6 _ rfl; (with_reducible repeat (first | refine blk_drewN ?_ _ | refine blk_drew ?_ | refine blk_alloc ?_ _)); refine blk_put (cs := #[.string t209, .int .i64 t210, .int .i64 t211, .int .i64 t212, .int .i64 t213, .int .i64 0, .slice none 0 0]) ?_ 5 _ rfl; (with_reducible repeat (first | refine blk_drewN ?_ _ | refine blk_drew ?_ | refine blk_alloc ?_ _)); refine blk_put (cs := #[.string t209, .int .i64 t210, .int .i64 t211, .int .i64 t212, .int .i64 0, .int .i64 0, .slice none 0 0]) ?_ 4 _ rfl; (with_reducible repeat (first | refine blk_drewN ?_ _ | refine blk_drew ?_ | refine blk_alloc ?_ _)); refine blk_put (cs := #[.string t209, .int .i64 t210, .int .i64 t211, .int .i64 0, .int .i64 0, .int .i64 0, .slice none 0 0]) ?_ 3 _ rfl; (with_reducible repeat (first | refine blk_drewN ?_ _ | refine blk_drew ?_ | refine blk_alloc ?_ _)); refine blk_put (cs := #[.string t209, .int .i64 t210, .int .i64 0, .int .i64 0, .int .i64 0, .int .i64 0, .slice none 0 0]) ?_ 2 _ rfl; (with_reducible repeat (first | refine blk_drewN ?_ _ | refine blk_drew ?_ | refine blk_alloc ?_ _)); refine blk_put (cs := #[.string t209, .int .i64 0, .int .i64 0, .int .i64 0, .int .i64 0, .int .i64 0, .slice none 0 0]) ?_ 1 _ rfl; (with_reducible repeat (first | refine blk_drewN ?_ _ | refine blk_drew ?_ | refine blk_alloc ?_ _)); refine blk_put (cs := #[.string (⟨#[]⟩ : ByteArray), .int .i64 0, .int .i64 0, .int .i64 0, .int .i64 0, .int .i64 0, .slice none 0 0]) ?_ 0 _ rfl; (with_reducible repeat (first | refine blk_drewN ?_ _ | refine blk_drew ?_ | refine blk_alloc ?_ _)); exact BK219.out))⟩; have n4_ : Aside0 (Below w.heap.size w w18) := ⟨(by rw [hw]; exact (be HB.out))⟩; clear hw; clear HO_5; clear HO_14; clear HO217; clear BK219; clear HB; have HO_5 := n0_; have HO_14 := n1_; have HO217 := n2_; have BK219 := n3_; have HB := n4_; clear n0_ n1_ n2_ n3_ n4_; have hcz19_0 := bc BK219.out 0 (.string t209) rfl; have hcz19_1 := bc BK219.out 1 (.int .i64 t210) rfl; have hcz19_2 := bc BK219.out 2 (.int .i64 t211) rfl; have hcz19_3 := bc BK219.out 3 (.int .i64 t212) rfl; have hcz19_4 := bc BK219.out 4 (.int .i64 t213) rfl; have hcz19_5 := bc BK219.out 5 (.int .i64 t214) rfl; have hcz19_6 := bc BK219.out 6 (.slice Ao17 t215.length co17) rfl; have hfz19_0 := blk_frozen BK219.out 0; have hfz19_1 := blk_frozen BK219.out 1; have hfz19_2 := blk_frozen BK219.out 2; have hfz19_3 := blk_frozen BK219.out 3; have hfz19_4 := blk_frozen BK219.out 4; have hfz19_5 := blk_frozen BK219.out 5; have hfz19_6 := blk_frozen BK219.out 6) | ((with_reducible refine gate_builtin (b := .append) (xs := #[.tmp 34, .tmp 36]) rfl ?_); at_builtin; refine Kd.S_append k26 (w0 := w) w.heap.size rfl (.tmp 34) (.tmp 36) 31 26 (.agg #[(.string ⟨#[]⟩), (.int .i64 0), (.int .i64 0), (.int .i64 0), (.int .i64 0), (.int .i64 0), (.slice none 0 0)]) 80 rfl Tryz.underlying31 info26 rfl (by decide) (by omega) (.slice Ao13 x5_1.length co13) x5_1 (⟨t209, t210, t211, (⟨t212, t213, t214⟩ : S23), t215⟩ : S26) [.string t209, .int .i64 t210, .int .i64 t211, .int .i64 t212, .int .i64 t213, .int .i64 t214, .slice Ao17 t215.length co17] (fun k_ => k_ ≠ gb219) (fun k_ => some k_ = (.slice Ao17 t215.length co17 : Value).ownBlock) rfl rfl ?aP (fun k_ hk_ => ((Kd.R_mono (ok' := fun k_ => ((fun k_ => k_ ≠ gb219)) k_ ∧ some k_ ≠ (.slice Ao13 x5_1.length co13 : Value).ownBlock) (Kd.R_types (Kd.R_apart' (HO217.out) (Kd.S_typed HO_5.out) (by decide)) BK219.out (by decide)) (fun k_ hk => ⟨hk.2, hk.1.2⟩))).1 k_ hk_.symm) ?aF ?aO ?aB ?aS ?aL ?_; (case aP => exact k26_mkM _ _ _ (⟨t209, t210, t211, (⟨t212, t213, t214⟩ : S23), t215⟩ : S26) (Kd.R_mono (Kd.R_tight rfl (Kd.R_mono (ok' := fun k_ => ((fun k_ => k_ ≠ gb219)) k_ ∧ some k_ ≠ (.slice Ao13 x5_1.length co13 : Value).ownBlock) (Kd.R_types (Kd.R_apart' (HO217.out) (Kd.S_typed HO_5.out) (by decide)) BK219.out (by decide)) (fun k_ hk => ⟨hk.2, hk.1.2⟩))) (fun _ h_ => h_))); (case aB => exact (be HB.out)); (case aF => exact (fun k_ hk => Kd.freshB (g := gb219) (o := .cells #[.string t209, .int .i64 t210, .int .i64 t211, .int .i64 t212, .int .i64 t213, .int .i64 t214, .slice Ao17 t215.length co17] 26 (0, 0)) (bu BK219.out) k_ hk)); (case aO => exact (by (with_reducible repeat (first | apply Kd.S_alloc | apply Kd.S_drewN | apply Kd.S_drew)); exact Kd.S_mono HO_5.out (fun k_ hk => ⟨hk.2, fun e_ => hk.1 e_⟩))); (case aS => exact (below_size (be HB.out))); (case aL => have := LMc12.out; omega); intro v221 w20 ho hb hg hat; rw [← Ny220.out] at ho; have n0_ := Aside0.mk (Kd.R_over' (ku HO_14.out) (Kd.S_typed (by (with_reducible repeat (first | apply Kd.S_alloc | apply Kd.S_drewN | apply Kd.S_drew)); exact HO_5.out)) (by decide) hg); have n1_ := Aside0.mk (blk_grown (g := gb219) (o := .cells #[.string t209, .int .i64 t210, .int .i64 t211, .int .i64 t212, .int .i64 t213, .int .i64 t214, .slice Ao17 t215.length co17] 26 (0, 0)) (bu BK219.out) hg (Kd.S_away HO_5.out (fun _ hk => hk.2))); have n2_ := Aside0.mk (hb); have n3_ := Aside0.mk (ho); clear HO_14; clear BK219; clear HB; clear HO_5; clear HO217; have HO_14 := n0_; have BK219 := n1_; have HB := n2_; have HO222 := n3_; clear n0_ n1_ n2_ n3_; clear ho hb hg hat))
          go_roundg k1
          case measure => have := HK1.out; omega
          case rel => exact ⟨(y220), (wrap64 (x16_1 + 1)), (by first | rfl | (simp; done) | (simp [*]; done)), H', ⟨by have := HK1.out; omega⟩, ⟨by (with_reducible repeat (first | apply Kd.S_alloc | apply Kd.S_drewN | apply Kd.S_drew)); exact Kd.S_mono HO222.out (fun _ hk => trivial)⟩, ⟨ku (HO_14.out)⟩, ⟨be HB.out⟩⟩
         ·rw [if_neg c12] at H; exact absurd H (by simp)
        ·rw [if_neg c11] at H; have c11b0 : (t218 == 0) = false := beq_eq_false_iff_ne.mpr c11; have c11b1 : (t218 != 0) = true := bne_iff_ne.mpr c11; simp only [Option.some.injEq, Prod.mk.injEq] at H; obtain ⟨rfl, rfl, rfl⟩ := H; have p208 : 0 ≤ (x16_1 : Int) := oda; have q208 : x16_1 < (t205.length : Int) := oda; obtain ⟨ad208, e208, hx208_0⟩ := Kd.at_string (Kd.R_reads' HO_14.out).2.2 x16_1 p208 q208; cases e208; replace p208 := eq_true p208; replace q208 := eq_true q208; obtain ⟨Ao21, co21, eo21⟩ := Kd.S_slice HO_5.out; subst eo21
         go_wp2_with (first | ((with_reducible refine gate_callee (f := 44) rfl ?_); refine goesA (some 26) rfl rfl Tryz.func44 (by kernel_rfl) rfl #[.slice Ao21 x5_1.length co21, .string (rdOf ByteArray.empty t205 x16_1)] rfl ?_; (with_reducible refine (roll_next.calls k1 _ _ x5_1 (rdOf ByteArray.empty t205 x16_1) t209 t210 t211 t212 t213 t214 t215 t218 _ ?side1 ?side2 A10.out (by first | exact Aside0.mk (GL.below hG.out (be HB.out)) | exact hG)).mono ?_); (case side1 => exact cu (Kd.S_reads' HO_5.out).2.2); (case side2 => exact (Kd.S_reads' HO_5.out).2.1); rintro e w22 ⟨v216, rfl, ho0, hb⟩; refine ⟨_, rfl, ?_⟩; have HO217 := Aside0.mk (Kd.R_lower ho0 (below_size (be HB.out))); replace HO_5 := Aside0.mk (Kd.S_elder' (by (with_reducible repeat (first | apply Kd.S_alloc | apply Kd.S_drewN | apply Kd.S_drew)); exact HO_5.out) (Kd.R_base ho0) hb); replace HO_14 := Aside0.mk (Kd.R_below (ku HO_14.out) hb); replace HB := Aside0.mk (below_step (be HB.out) hb); (try clear hb); (try clear ho0)) | ((with_reducible refine gate_dst (N := 8) rfl ?_); refine box_event ?hg (N := 8) ?hd (cs := #[.string (⟨#[]⟩ : ByteArray), .int .i64 0, .int .i64 0, .int .i64 0, .int .i64 0, .int .i64 0, .slice none 0 0]) (t := 26) ?hr ?_; (case hd => rfl); (case hg => rfl); (case hr => first | (go_simp; done) | (go_simp; rfl)); intro gb219 hg w23 hbox hb; have BK219 := Aside0.mk (hbox); have GW219 := Aside0.mk ((by rw [hg]; exact (below_size (be HB.out)) : w.heap.size ≤ gb219)); have GE219 := Aside0.mk ((by rw [hg]; exact (below_size (be HB.out)) : w.heap.size ≤ gb219)); replace HO_5 := Aside0.mk (Kd.S_below (Kd.S_elderB (by (with_reducible repeat (first | apply Kd.S_alloc | apply Kd.S_drewN | apply Kd.S_drew)); exact HO_5.out) gb219 (Nat.le_of_eq hg.symm)) hb); replace HO_14 := Aside0.mk (Kd.R_below (ku HO_14.out) hb); replace HO217 := Aside0.mk (Kd.R_below (ku HO217.out) hb); replace HB := Aside0.mk (below_step (be HB.out) hb); clear hb hbox hg; have hcz24_0 := bc BK219.out 0 (.string (⟨#[]⟩ : ByteArray)) rfl; have hcz24_1 := bc BK219.out 1 (.int .i64 0) rfl; have hcz24_2 := bc BK219.out 2 (.int .i64 0) rfl; have hcz24_3 := bc BK219.out 3 (.int .i64 0) rfl; have hcz24_4 := bc BK219.out 4 (.int .i64 0) rfl; have hcz24_5 := bc BK219.out 5 (.int .i64 0) rfl; have hcz24_6 := bc BK219.out 6 (.slice none 0 0) rfl; have hfz24_0 := blk_frozen BK219.out 0; have hfz24_1 := blk_frozen BK219.out 1; have hfz24_2 := blk_frozen BK219.out 2; have hfz24_3 := blk_frozen BK219.out 3; have hfz24_4 := blk_frozen BK219.out 4; have hfz24_5 := blk_frozen BK219.out 5; have hfz24_6 := blk_frozen BK219.out 6; obtain ⟨Ao25, co25, eo25⟩ := Kd.R_slice HO217.out; subst eo25))
         go_ret3
         exact ⟨_, by first | rfl | (simp [errW_none, errW_some] <;> rfl) | (simp [*, errW_none, errW_some] <;> rfl), by first | exact Kd.S_nil _ _ _ _ _ | exact Kd.N_nil _ _ _ _ _ | exact Kd.V_nil _ _ _ _ _ | exact Kd.Q_nil _ _ _ _ _ | exact Kd.R_nil _ _ _ _ _, be HB.out⟩
      ·rw [if_neg c8] at H; exact absurd H (by simp)
     ·rw [if_neg c7] at H; exact absurd H (by simp)
    ·rw [if_neg c6] at H; have c6b0 : decide (x16_1 < (t205.length : Int)) = false := decide_eq_false c6; clear c6; simp only [Option.some.injEq, Prod.mk.injEq] at H; obtain ⟨rfl, rfl, rfl⟩ := H
     go_wp2
     go_ret3
     exact ⟨_, by first | rfl | (simp [errW_none, errW_some] <;> rfl) | (simp [*, errW_none, errW_some] <;> rfl), by (with_reducible repeat (first | apply Kd.S_alloc | apply Kd.S_drewN | apply Kd.S_drew)); exact HO_5.out, be HB.out⟩

end Go.Proofs.YtdblkmnbkpphjaaGreatDoor.P
