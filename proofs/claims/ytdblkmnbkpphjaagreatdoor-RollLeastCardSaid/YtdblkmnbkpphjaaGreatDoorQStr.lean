/- Stretches of a roll: one plain value; the zones compared with themselves. -/
import Derived.Test.YtdblkmnbkpphjaaGreatDoorJ1
import Derived.Test.YtdblkmnbkpphjaaGreatDoorQChk
namespace Go.Proofs.YtdblkmnbkpphjaaGreatDoor.P
set_option linter.unusedVariables false
open Go Go.RowKit Go.Proofs.YtdblkmnbkpphjaaGreatDoor Go.Proofs.YtdblkmnbkpphjaaGreatDoorW.PrintWords Go.Proofs.YtdblkmnbkpphjaaGreatDoorW.PrintLast Go.Proofs.YtdblkmnbkpphjaaGreatDoorW.PrintMore
theorem fewR_ev (q : S26) : ∃ b, Ev (fun k => garmentref27_Few.f k [q]) b := by
 have h1 : Ev (fun k => garmentref27_Few.l0 k [q] 1) true := by
  refine Ev.step (h := fun k => garmentref27_Few.j1 k [q] 1 false) (Ev.step (h := fun _ => some true) (Ev.pure _) fun k => ?_) fun k => ?_
  ·simp only [garmentref27_Few.j1]; rw [if_neg (by decide)]; rfl
  ·simp only [garmentref27_Few.l0]; rw [if_neg (by simp)]
 have h2 : ∀ b, Ev (fun k => garmentref27_Few.j2 k [q] 0 b) (!b) := by
  intro b
  cases b with
  | true => exact Ev.step (h := fun _ => some false) (Ev.pure _) fun k => by simp only [garmentref27_Few.j2]; rfl
  | false => exact Ev.step (h := fun k => garmentref27_Few.l0 k [q] 1) h1 fun k => by simp only [garmentref27_Few.j2]; rw [if_neg (by decide), show wrap64 (0 + 1) = 1 from by unfold wrap64; omega]
 have h3 : ∃ b, Ev (fun k => garmentref27_Few.j1 k [q] 0 true) b := by
  by_cases h : (((rd_T26 [q] 0).f4).length : Int) > 30
  ·refine ⟨_, Ev.step (h := fun k => garmentref27_Few.j2 k [q] 0 true) (h2 true) fun k => ?_⟩
   simp only [garmentref27_Few.j1]
   rw [if_pos trivial, if_pos (by decide), if_pos (by simp), if_pos h]
  ·refine ⟨_, Ev.step (h := fun k => garmentref27_Few.j2 k [q] 0 (decide ((((rd_T26 [q] 0).f0).size : Int) > 100))) (h2 _) fun k => ?_⟩
   simp only [garmentref27_Few.j1]
   rw [if_pos trivial, if_pos (by decide), if_pos (by simp), if_neg h]
 obtain ⟨b, hb⟩ := h3
 refine ⟨b, Ev.step (h := fun k => garmentref27_Few.j1 k [q] 0 true) hb fun k => ?_⟩
 show garmentref27_Few.l0 (k + 1) [q] 0 = _
 simp only [garmentref27_Few.l0]
 rw [if_pos (by simp)]
 rfl

theorem few_ev (id : ByteArray) (wd ln a b c : Int) (fl : List S46) : ∃ q, Ev (fun k => garmentlaw27_few.f k id wd ln a b c fl) q := by
 obtain ⟨q, hq⟩ := fewR_ev ⟨id, wd, ln, ⟨a, b, c⟩, fl⟩
 refine ⟨q, ?_⟩
 unfold garmentlaw27_few.f
 exact Ev.bind hq (Ev.pure _)
theorem chk_zero {id : ByteArray} {wd ln a b c : Int} {fl : List S46} (h : chkE id wd ln a b c fl = 0) : (1 ≤ ln ∧ ln ≤ 1048576) ∧ fl.length ≤ 20 ∧ fl.all (fitB wd ln) = true := by
 unfold chkE at h
 split at h
 ·split at h
  ·rename_i hm
   split at h
   ·omega
   ·split at h
    ·rename_i h1 h2
     unfold measB at hm
     simp only [Bool.and_eq_true, decide_eq_true_eq] at hm
     exact ⟨hm.1, by omega, h2⟩
    ·omega
  ·omega
 ·omega
theorem chk_flaws {id : ByteArray} {wd ln a b c : Int} {fl : List S46} (h : chkE id wd ln a b c fl = 0) : okFlaws ln fl = true ∧ ∀ f ∈ fl.map flawP, 1 ≤ f.2 ∧ f.1 + f.2 ≤ ln := by
 obtain ⟨h1, h2, h3⟩ := chk_zero h
 have h4 : ∀ f ∈ fl, 0 ≤ f.f0 ∧ 1 ≤ f.f2 ∧ f.f0 + f.f2 ≤ ln := by
  intro f hf
  have := List.all_eq_true.1 h3 f hf
  unfold fitB at this
  simp only [Bool.and_eq_true, decide_eq_true_eq] at this
  exact this.1
 refine ⟨?_, ?_⟩
 ·unfold okFlaws
  simp only [Bool.and_eq_true, decide_eq_true_eq, List.all_eq_true]
  exact ⟨⟨by omega, by omega, by omega⟩, h4⟩
 ·intro f hf
  obtain ⟨g, hg, rfl⟩ := List.mem_map.1 hf
  exact (h4 g hg).2
def strE (id : ByteArray) (wd ln a b c : Int) (fl : List S46) (least : Int) : List S44 × Int :=
 if chkE id wd ln a b c fl = 0 then (zonesL least (Gaps.gaps ln (fl.map flawP)), 0) else ([], chkE id wd ln a b c fl)
theorem str_ev (id : ByteArray) (wd ln a b c : Int) (fl : List S46) (least : Int) : Ev (fun k => roll_Stretches.f k id wd ln a b c fl least) (strE id wd ln a b c fl least) := by
 unfold roll_Stretches.f strE
 refine Ev.bind (check_ev _ _ _ _ _ _ _) ?_
 by_cases h : chkE id wd ln a b c fl = 0
 ·simp only [if_pos h, if_pos (chk_flaws h).1]
  exact Ev.pure _
 ·simp only [if_neg h]
  exact Ev.pure _
theorem go_len (L : Int) : ∀ (fs : List (Int × Int)) (p : Int), (Gaps.go L fs p).length ≤ fs.length + 1
 | [], p => by unfold Gaps.go; split <;> simp
 | f :: fs, p => by
  have := go_len L fs (max p (f.1 + f.2))
  unfold Gaps.go; split <;> simp <;> omega
theorem gaps_len (L : Int) (fs : List (Int × Int)) : (Gaps.gaps L fs).length ≤ fs.length + 1 := by
 have := go_len L (Gaps.sort fs) 0
 rw [(Gaps.sort_perm fs).length_eq] at this
 exact this
theorem zones_len (least : Int) (zs : List (Int × Int)) : (zonesL least zs).length ≤ zs.length := by
 unfold zonesL
 rw [List.length_map]
 exact List.length_filter_le _ _
theorem rdZ (l : List S44) (i : Nat) (h : i < l.length) : rd_T44 l (i : Int) = l[i] := by
 show l.getD (Int.toNat (i : Int)) _ = _
 rw [Int.toNat_natCast, List.getD_eq_getElem?_getD, List.getElem?_eq_getElem h]; rfl
theorem samez_loop (l : List S44) (hl : l.length ≤ 1000000) : ∀ d i, i + d = l.length → Ev (fun k => garmentref27_SameZones.l0 k l l (i : Int)) true
 | 0, i, h => Ev.step (h := fun _ => some true) (Ev.pure _) fun k => by simp only [garmentref27_SameZones.l0]; rw [if_neg (by omega)]
 | d + 1, i, h => by
  have ih := samez_loop l hl d (i + 1) (by omega)
  have hw : wrap64 ((i : Int) + 1) = ((i + 1 : Nat) : Int) := wrap_succ (by omega)
  refine Ev.step ih fun k => ?_
  simp only [garmentref27_SameZones.l0]
  rw [if_pos (by omega), if_pos (by omega), if_pos (by omega), if_neg (by simp), hw]
theorem samez_ev (l : List S44) (hl : l.length ≤ 1000000) : Ev (fun k => garmentref27_SameZones.f k l l) true := by
 unfold garmentref27_SameZones.f
 exact Ev.pos rfl (samez_loop l hl l.length 0 (by omega))
end Go.Proofs.YtdblkmnbkpphjaaGreatDoor.P
