/- Maximal uncovered stretches: what they are, that they are determined, and two ways to find them. Plain Lean, no program. -/
namespace Go.Proofs.YtdblkmnbkpphjaaGreatDoor.Gaps
set_option linter.unusedVariables false
inductive Gaps (cov : Int → Prop) (L : Int) : Int → List (Int × Int) → Prop
 | done {lo : Int} (h : ∀ x, lo ≤ x → x < L → cov x) : Gaps cov L lo []
 | more {lo a b : Int} {zs : List (Int × Int)} (h1 : lo ≤ a) (h2 : a < b) (h3 : b ≤ L) (hc : ∀ x, lo ≤ x → x < a → cov x) (hu : ∀ x, a ≤ x → x < b → ¬ cov x) (he : b = L ∨ cov b) (hz : Gaps cov L b zs) : Gaps cov L lo ((a, b) :: zs)
theorem Gaps.unique {cov : Int → Prop} {L lo : Int} {zs zs' : List (Int × Int)} (h : Gaps cov L lo zs) (h' : Gaps cov L lo zs') : zs = zs' := by
 induction h generalizing zs' with
 | done h => cases h' with
  | done => rfl
  | more h1 h2 h3 hc hu he hz => exact absurd (h _ h1 (by omega)) (hu _ (Int.le_refl _) h2)
 | more h1 h2 h3 hc hu he hz ih => cases h' with
  | done h => exact absurd (h _ h1 (by omega)) (hu _ (Int.le_refl _) h2)
  | more h1' h2' h3' hc' hu' he' hz' =>
   rename_i lo a b zs a' b' zs'
   have ha : a = a' := by
    rcases Int.lt_trichotomy a a' with h | h | h
    ·exact absurd (hc' a h1 h) (hu a (Int.le_refl _) h2)
    ·exact h
    ·exact absurd (hc a' h1' h) (hu' a' (Int.le_refl _) h2')
   subst ha
   have hb : b = b' := by
    rcases Int.lt_trichotomy b b' with h | h | h
    ·rcases he with he | he
     ·omega
     ·exact absurd he (hu' b (by omega) h)
    ·exact h
    ·rcases he' with he' | he'
     ·omega
     ·exact absurd he' (hu b' (by omega) h)
   subst hb
   rw [ih hz']
theorem Gaps.congr {cov cov' : Int → Prop} {L lo : Int} {zs : List (Int × Int)} (h : Gaps cov L lo zs) (hh : ∀ x, lo ≤ x → (cov' x ↔ cov x)) : Gaps cov' L lo zs := by
 induction h with
 | done h => exact .done fun x h1 h2 => (hh x h1).2 (h x h1 h2)
 | more h1 h2 h3 hc hu he hz ih =>
  refine .more h1 h2 h3 (fun x a b => (hh x a).2 (hc x a b)) (fun x a b c => hu x a b ((hh x (by omega)).1 c)) ?_ (ih fun x hx => hh x (by omega))
  exact he.imp_right fun h => (hh _ (by omega)).2 h
theorem Gaps.shift {cov cov' : Int → Prop} {L a b : Int} {zs : List (Int × Int)} (h : Gaps cov L b zs) (hab : a ≤ b) (hc : ∀ x, a ≤ x → x < b → cov' x) (hh : ∀ x, b ≤ x → (cov' x ↔ cov x)) : Gaps cov' L a zs := by
 replace h := h.congr hh
 cases h with
 | done hd => exact .done fun x h1 h2 => if hx : x < b then hc x h1 hx else hd x (by omega) h2
 | more h1 h2 h3 hc' hu he hz => exact .more (by omega) h2 h3 (fun x h4 h5 => if hx : x < b then hc x h4 hx else hc' x (by omega) h5) hu he hz
theorem Gaps.mem {cov : Int → Prop} {L lo : Int} {zs : List (Int × Int)} (h : Gaps cov L lo zs) : ∀ z ∈ zs, lo ≤ z.1 ∧ z.1 < z.2 ∧ z.2 ≤ L := by
 induction h with
 | done => simp
 | more h1 h2 h3 hc hu he hz ih =>
  intro z hz
  rcases List.mem_cons.1 hz with rfl | hz
  ·exact ⟨h1, h2, h3⟩
  ·have := ih z hz; omega
theorem Gaps.apart {cov : Int → Prop} {L lo : Int} {zs : List (Int × Int)} (h : Gaps cov L lo zs) (hlo : lo = L ∨ cov lo) : (∀ z ∈ zs, lo < z.1) ∧ zs.Pairwise (fun z z' => z.2 < z'.1) := by
 induction h with
 | done => simp
 | more h1 h2 h3 hc hu he hz ih =>
  rename_i lo a b zs
  obtain ⟨i1, i2⟩ := ih he
  have hla : lo < a := by
   rcases hlo with hlo | hlo
   ·omega
   ·rcases Int.lt_or_le lo a with h | h
    ·exact h
    ·exact absurd hlo (hu lo h (by omega))
  refine ⟨fun z hz' => ?_, List.pairwise_cons.2 ⟨fun z hz' => i1 z hz', i2⟩⟩
  rcases List.mem_cons.1 hz' with rfl | hz'
  ·exact hla
  ·have := i1 z hz'; omega
def covs (fs : List (Int × Int)) (x : Int) : Prop := ∃ f ∈ fs, f.1 ≤ x ∧ x < f.1 + f.2
def go (L : Int) : List (Int × Int) → Int → List (Int × Int)
 | [], p => if L > p then [(p, L)] else []
 | f :: fs, p => if f.1 > p then (p, f.1) :: go L fs (max p (f.1 + f.2)) else go L fs (max p (f.1 + f.2))
theorem go_gaps (L : Int) : ∀ (fs : List (Int × Int)) (p : Int), fs.Pairwise (fun f g => f.1 ≤ g.1) → (∀ f ∈ fs, 1 ≤ f.2 ∧ f.1 + f.2 ≤ L) → Gaps (covs fs) L p (go L fs p)
 | [], p, _, _ => by
  unfold go
  split
  ·exact .more (Int.le_refl _) (by omega) (Int.le_refl _) (fun x h1 h2 => by omega) (fun x _ _ h => by obtain ⟨f, hf, _⟩ := h; simp at hf) (.inl rfl) (.done fun x h1 h2 => by omega)
  ·exact .done fun x h1 h2 => by omega
 | f :: fs, p, hs, hw => by
  obtain ⟨hs1, hs2⟩ := List.pairwise_cons.1 hs
  obtain ⟨hw1, hw2⟩ := hw f (by simp)
  have ih := go_gaps L fs (max p (f.1 + f.2)) hs2 (fun g hg => hw g (by simp [hg]))
  have hh : ∀ x, max p (f.1 + f.2) ≤ x → (covs (f :: fs) x ↔ covs fs x) := fun x hx => by
   unfold covs
   simp only [List.mem_cons, exists_eq_or_imp]
   exact ⟨fun h => h.resolve_left (by omega), .inr⟩
  unfold go
  split
  ·rename_i hp
   refine .more (Int.le_refl _) hp (by omega) (fun x h1 h2 => by omega) (fun x h1 h2 h => ?_) (.inr ⟨f, by simp, by omega, by omega⟩) (ih.shift (by omega) (fun x h1 h2 => ⟨f, by simp, by omega, by omega⟩) hh)
   obtain ⟨g, hg, h3, h4⟩ := h
   rcases List.mem_cons.1 hg with rfl | hg
   ·omega
   ·have := hs1 g hg; omega
  ·exact ih.shift (by omega) (fun x h1 h2 => ⟨f, by simp, by omega, by omega⟩) hh
theorem covs_perm {fs gs : List (Int × Int)} (h : fs.Perm gs) (x : Int) : covs fs x ↔ covs gs x := by
 unfold covs
 exact ⟨fun ⟨f, hf, r⟩ => ⟨f, h.mem_iff.1 hf, r⟩, fun ⟨f, hf, r⟩ => ⟨f, h.mem_iff.2 hf, r⟩⟩
def ins (f : Int × Int) : List (Int × Int) → List (Int × Int)
 | [] => [f]
 | g :: l => if f.1 ≤ g.1 then f :: g :: l else g :: ins f l
def sort : List (Int × Int) → List (Int × Int)
 | [] => []
 | f :: l => ins f (sort l)
theorem ins_perm (f : Int × Int) : ∀ l, (ins f l).Perm (f :: l)
 | [] => .refl _
 | g :: l => by
  unfold ins
  split
  ·exact .refl _
  ·exact ((ins_perm f l).cons g).trans (.swap _ _ _)
theorem sort_perm : ∀ l, (sort l).Perm l
 | [] => .refl _
 | f :: l => (ins_perm f _).trans ((sort_perm l).cons f)
theorem ins_sorted (f : Int × Int) : ∀ l : List (Int × Int), l.Pairwise (fun f g => f.1 ≤ g.1) → (ins f l).Pairwise (fun f g => f.1 ≤ g.1)
 | [], _ => by simp [ins]
 | g :: l, h => by
  obtain ⟨h1, h2⟩ := List.pairwise_cons.1 h
  unfold ins
  split
  ·rename_i hfg
   exact List.pairwise_cons.2 ⟨fun x hx => by rcases List.mem_cons.1 hx with rfl | hx; exact hfg; have := h1 x hx; omega, h⟩
  ·rename_i hfg
   refine List.pairwise_cons.2 ⟨fun x hx => ?_, ins_sorted f l h2⟩
   rcases List.mem_cons.1 ((ins_perm f l).mem_iff.1 hx) with rfl | hx
   ·omega
   ·exact h1 x hx
theorem sort_sorted : ∀ l : List (Int × Int), (sort l).Pairwise (fun f g => f.1 ≤ g.1)
 | [] => by simp [sort]
 | f :: l => ins_sorted f _ (sort_sorted l)
def gaps (L : Int) (fs : List (Int × Int)) : List (Int × Int) := go L (sort fs) 0
theorem gaps_gaps (L : Int) (fs : List (Int × Int)) (hw : ∀ f ∈ fs, 1 ≤ f.2 ∧ f.1 + f.2 ≤ L) : Gaps (covs fs) L 0 (gaps L fs) :=
 (go_gaps L (sort fs) 0 (sort_sorted fs) (fun f hf => hw f ((sort_perm fs).mem_iff.1 hf))).congr fun x _ => covs_perm (sort_perm fs).symm x
theorem go_any (L : Int) (fs gs : List (Int × Int)) (hp : gs.Perm fs) (hs : gs.Pairwise (fun f g => f.1 ≤ g.1)) (hw : ∀ f ∈ fs, 1 ≤ f.2 ∧ f.1 + f.2 ≤ L) : go L gs 0 = gaps L fs :=
 ((go_gaps L gs 0 hs (fun f hf => hw f (hp.mem_iff.1 hf))).congr fun x _ => covs_perm hp.symm x).unique (gaps_gaps L fs hw)
end Go.Proofs.YtdblkmnbkpphjaaGreatDoor.Gaps
