import Derived.Test.YtdblkmnbkpphjaaGreatDoorQRollLeastSayRollLeast
import Derived.Test.YtdblkmnbkpphjaaGreatDoorQStr
namespace Go.Proofs.YtdblkmnbkpphjaaGreatDoor.Pure
set_option linter.unusedVariables false
set_option linter.unusedSimpArgs false
open Go Go.RowKit P Go.Proofs.YtdblkmnbkpphjaaGreatDoorW.PrintWords Go.Proofs.YtdblkmnbkpphjaaGreatDoorW.PrintLast Go.Proofs.YtdblkmnbkpphjaaGreatDoorW.PrintMore
def longZ (least : Int) (l : List S44) : List S44 := l.filter fun z => decide (z.f1 - z.f0 ≥ least)
theorem longZ_zones (least L : Int) (zs : List (Int × Int)) (h : ∀ z ∈ zs, z.1 < z.2) : longZ least (zonesL 1 zs) = zonesL least zs := by
 have h1 : zs.filter (fun z => decide (z.2 - z.1 ≥ 1)) = zs := by
  rw [List.filter_eq_self]
  intro z hz
  have := h z hz
  exact decide_eq_true (by omega)
 unfold longZ zonesL
 rw [h1, List.filter_map]
 rfl
theorem least_loop (least : Int) (l1 all : List S44) (ha : all.length ≤ 1000) (hz : ∀ z ∈ all, 0 ≤ z.f0 ∧ z.f0 ≤ z.f1 ∧ z.f1 ≤ 1048576) (hl : longZ least all = l1) :
  ∀ d i, i + d = all.length → Ev (fun k => garmentlaw27_RollLeast.l0 k least l1 (longZ least (all.take i)) all (all.length : Int) (i : Int)) true
 | 0, i, h => by
  have hlen : l1.length ≤ 1000000 := by
   rw [← hl]; unfold longZ
   have := List.length_filter_le (fun z : S44 => decide (z.f1 - z.f0 ≥ least)) all
   omega
  refine Ev.step (h := fun k => (garmentref27_SameZones.f k l1 l1).bind fun t => (if t = true then ((garmentlaw27_exampleHolds.f).bind fun t2 => (some t2)) else (some false))) (Ev.bind (samez_ev l1 hlen) (Ev.pure _)) fun k => ?_
  simp only [garmentlaw27_RollLeast.l0]
  rw [if_neg (by omega), show all.take i = all from List.take_of_length_le (by omega), hl]
 | d + 1, i, h => by
  have hi : i < all.length := by omega
  have ih := least_loop least l1 all ha hz hl d (i + 1) (by omega)
  have hw : wrap64 ((i : Int) + 1) = ((i + 1 : Nat) : Int) := wrap_succ (by omega)
  have hb := hz all[i] (List.getElem_mem hi)
  have hs : wrap64 (all[i].f1 - all[i].f0) = all[i].f1 - all[i].f0 := by unfold wrap64; omega
  have ht : longZ least (all.take (i + 1)) = if all[i].f1 - all[i].f0 ≥ least then longZ least (all.take i) ++ [all[i]] else longZ least (all.take i) := by
   rw [List.take_succ_eq_append_getElem hi]
   unfold longZ
   rw [List.filter_append]
   split <;> rename_i hc <;> simp [hc]
  have hn : (longZ least (all.take i)).length < 8796093022208 := by
   unfold longZ
   have := List.length_filter_le (fun z : S44 => decide (z.f1 - z.f0 ≥ least)) (all.take i)
   have := List.length_take_le i all
   omega
  refine Ev.step ih fun k => ?_
  simp only [garmentlaw27_RollLeast.l0]
  rw [if_pos (by omega), if_pos (by omega), if_pos (by omega), rdZ all i hi, hs, ht, hw]
  split <;> first
   | rfl
   | (rw [if_pos hn])
   | (exact absurd hn ‹_›)
theorem RollLeast : P.garmentlaw27_RollLeast.Pured := by
 intro x least hx _
 refine Ev.some_ (f := fun k => garmentlaw27_RollLeast.f k x.f0 x.f1 x.f2 x.f3.f0 x.f3.f1 x.f3.f2 x.f4 least) ?_
 simp only [garmentlaw27_RollLeast.f]
 obtain ⟨b, hb⟩ := few_ev x.f0 x.f1 x.f2 x.f3.f0 x.f3.f1 x.f3.f2 x.f4
 have he : garmentlaw27_exampleHolds.f = some true := rfl
 refine Ev.bind hb ?_
 cases b with
 | false => rw [he]; exact Ev.pure _
 | true =>
  refine Ev.pos rfl (Ev.bind (str_ev _ _ _ _ _ _ _ _) (Ev.bind (str_ev _ _ _ _ _ _ _ _) ?_))
  unfold strE
  by_cases h : chkE x.f0 x.f1 x.f2 x.f3.f0 x.f3.f1 x.f3.f2 x.f4 = 0
  ·have hc := (chk_flaws h).2
   have hz := chk_zero h
   have hg := Gaps.gaps_gaps x.f2 (x.f4.map flawP) hc
   have hm := hg.mem
   have hlen := gaps_len x.f2 (x.f4.map flawP)
   rw [List.length_map] at hlen
   simp only [if_pos h, if_true]
   refine Ev.step (h := fun k => garmentlaw27_RollLeast.l0 k least (zonesL least (Gaps.gaps x.f2 (x.f4.map flawP))) (longZ least ((zonesL 1 (Gaps.gaps x.f2 (x.f4.map flawP))).take 0)) (zonesL 1 (Gaps.gaps x.f2 (x.f4.map flawP))) ((zonesL 1 (Gaps.gaps x.f2 (x.f4.map flawP))).length : Int) ((0 : Nat) : Int)) (least_loop least _ _ ?_ ?_ (longZ_zones least x.f2 _ fun z hz => (hm z hz).2.1) _ 0 (Nat.zero_add _)) fun k => ?_
   ·have := zones_len 1 (Gaps.gaps x.f2 (x.f4.map flawP))
    omega
   ·intro z hz'
    unfold zonesL at hz'
    obtain ⟨y, hy, rfl⟩ := List.mem_map.1 hz'
    have := hm y (List.mem_filter.1 hy).1
    simp only
    omega
   ·simp only [garmentlaw27_RollLeast.j0]
    rw [if_neg (by decide)]
    rfl
  ·simp only [if_neg h, if_true]
   refine Ev.step (h := fun k => some true) (Ev.pure _) fun k => ?_
   simp only [garmentlaw27_RollLeast.j0]
   rw [if_pos (by simpa using h), he]
   rfl
end Go.Proofs.YtdblkmnbkpphjaaGreatDoor.Pure
