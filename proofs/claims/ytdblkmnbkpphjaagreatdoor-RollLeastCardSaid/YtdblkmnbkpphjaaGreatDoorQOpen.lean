/- Arguments opened: from a reading of an argument's cells to the kind (Kd) that our contracts ask for, with the bounds that the form's own reach gives; and the lifting of a law whose row lists variables. -/
import Derived.Test.YtdblkmnbkpphjaaGreatDoorBGL
import Derived.Handed
import Derived.MakeChecks
import Derived.DataElems
import Derived.ChangeArms
import Derived.SizedLaws
import Derived.WideShapes
import Derived.LaidLaws
import Derived.Lay
import Derived.Stop.LaidErr
import Derived.Stop.Joined
import Derived.Lib.LaidTab
import Derived.Shelf.Vars
import Derived.Carry
import Derived.ProofKit
import Derived.OpenShut
import Derived.ShutString
import Derived.ChangeOld
namespace Go.Proofs.YtdblkmnbkpphjaaGreatDoor
open Go Go.RowKit Go.Proofs.YtdblkmnbkpphjaaGreatDoorW.PrintWords

structure Opens (P : Program) (t : TypeId) {α : Type} (d : Kd α) (wf : α → Prop) : Prop where
 sz : P.cellsOf t = d.sz
 opens : ∀ {H : Type} {enc : TypeId × Value → H} {w : World} {sp : Nat → Bool} {held : Bool} {fuel : Nat} {cs : List Value} {x : DataW H × List MemPlace},
  DataW.trod enc P w 0 sp held fuel t cs = some x → (∀ n ∈ x.1.weights P t, n ≤ reachBytes) → ∃ y, d.K w y cs ∧ wf y

theorem Opens.int {P : Program} {t : TypeId} {k : IntKind} (ht : P.underlying t = some (.int k)) (hc : P.cellsOf t = 1) : Opens P t (Kd.int k) (fun x => (Lit.int k x).wf = true) :=
 ⟨hc, fun h _ => by
  obtain ⟨n, h1, _, h3⟩ := DataW.trod_int ht h
  exact ⟨n, h1, h3⟩⟩
theorem Opens.bool {P : Program} {t : TypeId} (ht : P.underlying t = some .bool) (hc : P.cellsOf t = 1) : Opens P t Kd.bool (fun _ => True) :=
 ⟨hc, fun h _ => by
  obtain ⟨n, h1, _⟩ := DataW.trod_bool ht h
  exact ⟨n, h1, trivial⟩⟩
theorem Opens.string {P : Program} {t : TypeId} (ht : P.underlying t = some .string) (hc : P.cellsOf t = 1) : Opens P t Kd.string (fun s => s.size ≤ 140737488351232) :=
 ⟨hc, fun h hw => by
  obtain ⟨s, h1, h2, _⟩ := DataW.trod_string ht h
  refine ⟨s, h1, ?_⟩
  have := hw s.data.toList.length (by rw [h2]; simp [DataW.weights])
  have e : s.data.toList.length = s.size := Array.length_toList
  have e2 : reachBytes = 140737488351232 := rfl
  omega⟩
theorem Opens.iso {P : Program} {t : TypeId} {α β : Type} {d : Kd α} {wf : α → Prop} (h : Opens P t d wf) (f : β → α) (g : α → β) (hfg : ∀ y, f (g y) = y) : Opens P t (Kd.iso d f) (fun x => wf (f x)) :=
 ⟨h.sz, fun hr hw => by
  obtain ⟨y, h1, h2⟩ := h.opens hr hw
  exact ⟨g y, by show d.K _ (f (g y)) _; rw [hfg]; exact h1, by rw [hfg]; exact h2⟩⟩
theorem Opens.imp {P : Program} {t : TypeId} {α : Type} {d : Kd α} {wf wf' : α → Prop} (h : Opens P t d wf) (hi : ∀ x, wf x → wf' x) : Opens P t d wf' :=
 ⟨h.sz, fun hr hw => by
  obtain ⟨y, h1, h2⟩ := h.opens hr hw
  exact ⟨y, h1, hi _ h2⟩⟩

theorem weightsAll_mem {H : Type} {P : Program} {e : TypeId} : ∀ {ds : List (DataW H)} {d : DataW H}, d ∈ ds → ∀ n ∈ d.weights P e, n ∈ DataW.weightsAll P e ds
 | [], _, h, _, _ => by cases h
 | d0 :: r, d, h, n, hn => by
  simp only [DataW.weightsAll, List.mem_append]
  rcases List.mem_cons.1 h with rfl | h
  ·exact .inl hn
  ·exact .inr (weightsAll_mem h n hn)
theorem choose_list {α : Type} {Q : Nat → α → Prop} : ∀ n : Nat, (∀ i, i < n → ∃ y, Q i y) → ∃ ys : List α, ys.length = n ∧ ∀ (j : Nat) p, ys[j]? = some p → Q j p
 | 0, _ => ⟨[], rfl, fun j p h => by simp at h⟩
 | n + 1, h => by
  obtain ⟨ys, h1, h2⟩ := choose_list n (fun i hi => h i (by omega))
  obtain ⟨y, hy⟩ := h n (by omega)
  refine ⟨ys ++ [y], by simp [h1], fun j p hj => ?_⟩
  by_cases hjn : j < n
  ·rw [List.getElem?_append_left (by omega)] at hj
   exact h2 j p hj
  ·have hlt := (List.getElem?_eq_some_iff.1 hj).1
   simp [h1] at hlt
   have : j = n := by omega
   subst this
   rw [List.getElem?_append_right (by omega)] at hj
   simp [h1] at hj
   subst hj
   exact hy
theorem cells_at {w : World} {base : Nat} {a : Addr} {n : Nat} {cs : List Value} (h : w.cells? base a n = some cs) : cs.length = n ∧ ∀ (i : Nat) u, cs[i]? = some u → w.cell? (a.add i) = some u := by
 obtain ⟨_, hl, hc⟩ := World.cells?_some h
 refine ⟨hl, fun i u hi => ?_⟩
 have hlt := (List.getElem?_eq_some_iff.1 hi).1
 rw [← hi]
 exact hc i (by omega)

theorem Opens.slice {P : Program} {t e : TypeId} {α : Type} {d : Kd α} {wf : α → Prop} (he : Opens P e d wf) (ht : P.underlying t = some (.slice e)) (hc : P.cellsOf t = 1) :
  Opens P t (Kd.slice e d) (fun xs => xs.length * P.bytesOf e ≤ 140737488351232 ∧ xs.length ≤ 9223372036854775807 ∧ ∀ x ∈ xs, wf x) :=
 ⟨hc, fun {H enc w sp held fuel cs x} h hw => by
  rcases DataW.trod_slice ht h with ⟨rfl, rfl⟩ | ⟨a, len, cap, elems, rest, n, rfl, rfl, rfl, _, hl, hm, hlen, hel, _, _⟩
  ·exact ⟨[], ⟨none, 0, rfl, Nat.le_refl _, rfl, by simp, fun h => absurd h (by simp)⟩, by simp, by simp, fun x hx => by cases hx⟩
  ·have hm' : cap ≤ 9223372036854775807 := by simpa [maxLen] using hm
   have hone : ∀ i, i < len → ∃ y, wf y ∧ ∃ c, c.length = d.sz ∧ d.K w y c ∧ ∀ (j : Nat) u, c[j]? = some u → w.cell? (a.add (i * d.sz + j)) = some u := by
    intro i hi
    have h1 := hel i hi
    rw [List.getElem?_eq_getElem (by omega)] at h1
    obtain ⟨c, hc1, hc2⟩ := Option.bind_eq_some_iff.1 h1
    obtain ⟨hcl, hcc⟩ := cells_at hc1
    obtain ⟨y, hy1, hy2⟩ := he.opens hc2 (fun m hmm => hw m (by
     simp only [DataW.weights, ht, List.mem_cons, List.mem_append]
     exact .inr (.inl (weightsAll_mem (List.mem_map.2 ⟨_, List.getElem_mem (by omega), rfl⟩) m hmm))))
    refine ⟨y, hy2, c, by rw [hcl]; exact he.sz, hy1, fun j u hj => ?_⟩
    have := hcc j u hj
    rw [Addr.add_add, he.sz] at this
    exact this
   obtain ⟨ys, hy1, hy2⟩ := choose_list len hone
   refine ⟨ys, ⟨some a, cap, by rw [hy1], by omega, rfl, by omega, fun _ => ⟨a, rfl, fun j p hj => ?_⟩⟩, ?_, by omega, fun y hy => ?_⟩
   ·obtain ⟨_, c, h1, h2, h3⟩ := hy2 j p hj
    exact ⟨c, h1, h2, h3⟩
   ·have hb := hw ((elems.length + rest.length) * P.bytesOf e) (by simp [DataW.weights, ht])
    have e2 : reachBytes = 140737488351232 := rfl
    have h3 : ys.length * P.bytesOf e ≤ (elems.length + rest.length) * P.bytesOf e := Nat.mul_le_mul_right _ (by omega)
    omega
   ·obtain ⟨j, hj⟩ := List.getElem?_of_mem hy
    exact (hy2 j y hj).1⟩

structure OpensF (P : Program) (fs : List Field) (o : Nat) {α : Type} (d : Kd α) (wf : α → Prop) : Prop where
 opens : ∀ {H : Type} {enc : TypeId × Value → H} {w : World} {sp : Nat → Bool} {held : Bool} {n : Nat} {cs : List Value},
  (∀ (i : Nat) (f : Field), fs[i]? = some f → ∃ x : DataW H × List MemPlace, DataW.trod enc P w 0 sp held n f.type ((cs.drop f.offset).take (P.cellsOf f.type)) = some x ∧ ∀ m ∈ x.1.weights P f.type, m ≤ reachBytes) →
  ∃ y, d.K w y ((cs.drop o).take d.sz) ∧ wf y
theorem OpensF.one {P : Program} {f : Field} {o : Nat} {α : Type} {d : Kd α} {wf : α → Prop} (h : Opens P f.type d wf) (ho : f.offset = o) : OpensF P [f] o d wf :=
 ⟨fun hx => by
  obtain ⟨x, h1, h2⟩ := hx 0 f rfl
  rw [ho, h.sz] at h1
  exact h.opens h1 h2⟩
theorem OpensF.cons {P : Program} {f : Field} {fs : List Field} {o : Nat} {α β : Type} {d : Kd α} {b : Kd β} {wf : α → Prop} {wb : β → Prop} (h : Opens P f.type d wf) (ho : f.offset = o) (hr : OpensF P fs (o + d.sz) b wb) :
  OpensF P (f :: fs) o (Kd.pair d b) (fun y => wf y.1 ∧ wb y.2) :=
 ⟨fun {H enc w sp held n cs} hx => by
  obtain ⟨x, h1, h2⟩ := hx 0 f rfl
  rw [ho, h.sz] at h1
  obtain ⟨y, hy1, hy2⟩ := h.opens h1 h2
  obtain ⟨z, hz1, hz2⟩ := hr.opens (cs := cs) (fun i g hg => hx (i + 1) g (by simpa using hg))
  refine ⟨(y, z), ⟨_, _, ?_, hy1, hz1⟩, hy2, hz2⟩
  show (cs.drop o).take (d.sz + b.sz) = _
  rw [List.take_add, List.drop_drop]⟩
theorem Opens.struct {P : Program} {t : TypeId} {fs : Array Field} {α : Type} {d : Kd α} {wf : α → Prop} (ht : P.underlying t = some (.struct fs)) (hc : P.cellsOf t = d.sz) (h : OpensF P fs.toList 0 d wf) : Opens P t d wf :=
 ⟨hc, fun {H enc w sp held fuel cs x} hr hw => by
  obtain ⟨xs, n, rfl, rfl, hl, hn, hel⟩ := DataW.trod_struct ht hr
  obtain ⟨y, h1, h2⟩ := h.opens (cs := cs) (enc := enc) (w := w) (sp := sp) (held := held) (n := n) (fun i f hf => by
   have hf' : fs[i]? = some f := by simpa using hf
   have hlt : i < xs.length := by
    have := (Array.getElem?_eq_some_iff.1 hf').1
    omega
   have h1 := hel i f hf'
   rw [List.getElem?_eq_getElem hlt] at h1
   refine ⟨_, h1, fun m hm => hw m ?_⟩
   simp only [DataW.weights, ht]
   exact DataW.weights_mem_each (j := i) (t := f.type) (d := xs[i].1) (by simp [hf]) (by simp [List.getElem?_eq_getElem hlt]) m hm)
  refine ⟨y, ?_, h2⟩
  rw [List.drop_zero, List.take_of_length_le (by omega)] at h1
  exact h1⟩

section
variable {H : Type} {enc : TypeId × Value → H} {P : Program} {w : World} {b0 : Nat} {sp : Nat → Bool} {held : Bool} {t : TypeId} {v : Value} {dd : DataW H} {ps : List MemPlace}
theorem Opens.arg {α : Type} {d : Kd α} {wf : α → Prop} (h : Opens P t d wf) {ts : List TypeId} {ds : List (DataW H)} (hsz : (DataW.weightsEach P ts ds).all (· ≤ reachBytes) = true) {j : Nat} (ht : ts[j]? = some t) (hd : ds[j]? = some dd)
  (hr : DataW.Trod enc P w 0 sp held t v dd ps) : ∃ y, d.K w y v.cells.toList ∧ wf y := by
 obtain ⟨fuel, hf⟩ := hr
 exact h.opens hf (fun n hn => by simpa using List.all_eq_true.1 hsz n (DataW.weights_mem_each ht hd n hn))
theorem arg_int {k : IntKind} (hu : P.underlying t = some (.int k)) (hv : Value.okWide P w .any b0 t v) {y : Int} (hK : (Kd.int k).K w y v.cells.toList) : v = .int k y := by
 obtain ⟨n, rfl⟩ := WideShapes.okWide_int hu hv
 have : [Value.int k n] = [Value.int k y] := hK
 simpa using this
theorem arg_agg {fs : Array Field} {α : Type} {d : Kd α} (hu : P.underlying t = some (.struct fs)) (hv : Value.okWide P w .any b0 t v) {y : α} (hK : d.K w y v.cells.toList) :
  ∃ cs : List Value, v = .agg cs.toArray ∧ d.K w y cs := by
 obtain ⟨cs, rfl, _⟩ := WideShapes.okWide_struct hu hv
 exact ⟨cs.toList, by simp, hK⟩
end

theorem lifted_laid {H : Type} {enc : TypeId × Value → H} {C : Checked} {os : Os} {f : FuncId} {fn : Func} {s : ChangeSpec} {conds : List PathCond} {apart : Bool} {laid : List (String × DataW Unit)}
  (own : ownKnob C.prog.godebug = none) (started : os.Started) (noInit : C.prog.inits.idxOf? f = none) (hfn : C.prog.funcs[f]? = some fn) (hpl : (laid.all fun x => x.2.handleName?.isNone) = true)
  (args0 : Array Value) (fuel : Nat)
  (hsh : ((World.laidAll C.prog os laid).forCall (fun _ _ => 0) ⟨#[], args0, []⟩).Shaped C.prog)
  (hok : Input.okWideB C.prog ((World.laidAll C.prog os laid).forCall (fun _ _ => 0) ⟨#[], args0, []⟩) f ⟨#[], args0, []⟩ = true)
  (hpre : s.preB enc C.prog fn conds apart ((World.laidAll C.prog os laid).forCall (fun _ _ => 0) ⟨#[], args0, []⟩).memory args0 fuel = true)
  (hsz : s.sizedB enc C.prog fn apart ((World.laidAll C.prog os laid).forCall (fun _ _ => 0) ⟨#[], args0, []⟩).memory args0 fuel = true)
  (hf : (World.holding C.prog os ⟨#[], #[], []⟩).layFits C.prog laid [] = true)
  (hi : (World.holding C.prog os ⟨#[], #[], []⟩).layIfaces C.prog laid (World.laidAll C.prog os laid) = true)
  (contract : ∀ (W : World) (base : Nat) (args : Array Value) (ds gs : List (DataW H)) (before : List MemPlace),
   (∀ (j : Nat) t v, fn.params[j]? = some t → args[j]? = some v → Value.okWide C.prog W .any base t v) →
   DataW.Whole enc C.prog fn.params.toList s.vars apart W args.toList ds gs before →
   (DataW.weightsEach C.prog (fn.params.toList ++ s.plain.varTypes C.prog) (ds ++ gs)).all (· ≤ reachBytes) = true →
   laidMet C.prog laid W → W.ShapedOpen C.prog →
   Calls C.prog f args W fun e W' => ∃ v, e = .returned v ∧ s.post enc C.prog fn apart true false false W args v W') :
  ReturnsInHanded {} C os f .any (fun w args => (s.pre enc C.prog fn conds apart w args ∧ laidMetH C.prog laid w) ∧ sizedMet enc C.prog fn (OpenSpec.ofChange s) apart w args) (s.post enc C.prog fn apart true false false) := by
 refine returnsInHanded_of_calls own started noInit
  (ChangeSpec.witness_shaped (enc := enc) (C := C) (os := os) (X := fun w _ => laidMetH C.prog laid w) false (World.laidAll C.prog os laid) args0 fuel (World.laidAll_os _ _ _) hsh hok hpre hsz
   (by rw [MakeChecks.laidMetH_plain _ _ _ hpl]; exact laidMet_laidAll _ hf hi)) ?_
 rintro w tape i _ hshape _ ⟨_, _, _, fn', hfn', _, _, _, _, hval⟩ ⟨⟨⟨ds, gs, before, hw, _⟩, hx⟩, hz⟩ _
 obtain rfl : fn' = fn := Option.some.inj (hfn'.symm.trans hfn)
 rw [MakeChecks.laidMetH_plain _ _ _ hpl] at hx
 refine (contract (w.forCall tape i) w.heap.size i.args ds gs before hval (DataW.Whole.of_heap (w' := w.forCall tape i) (by rfl) hw) (hz.weights hw) (hx.of_heap (by rfl)) hshape).mono ?_
 rintro e W' ⟨v, rfl, hp⟩
 exact ChangeSpec.post_blind hp
theorem iface_of_laid {P : Program} {n nm : String} {text : List UInt8} {r : List (String × DataW Unit)} {W : World} {g : Nat} {ti : TypeId} {ms : Array (String × TypeId)}
  (h : laidMet P ((n, .iface nm (.ptr (.agg [.lit (.string text)]))) :: r) W)
  (hg : P.globalNamed n = some g) (ht : (P.globals[g]?).map (·.type) = some ti) (hi : P.underlying ti = some (.interface ms)) : ∃ te pe, W.cell? ⟨g, 0, none⟩ = some (.iface te pe) := by
 obtain ⟨ps, ⟨g0, t0, cs0, f0, p0, q0, hg0, ht0, hv0, hd0, _, e0⟩, _, hrows⟩ := h
 obtain rfl := Option.some.inj (hg.symm.trans hg0)
 obtain rfl := Option.some.inj (ht.symm.trans ht0)
 cases f0 with
 | zero => simp [DataW.trod] at hd0
 | succ n =>
  unfold DataW.trod at hd0
  rw [hi] at hd0
  split at hd0 <;> first | (cases hd0; done) | skip
  all_goals try (simp_all; done)
  rename_i u v hu hl
  have := World.var?_cell hg0 hv0 0
  have e : cs0[0]? = some (.iface u v) := by rw [← Array.getElem?_toList, hl]; rfl
  rw [e] at this
  exact ⟨_, _, this⟩
end Go.Proofs.YtdblkmnbkpphjaaGreatDoor
