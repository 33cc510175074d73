-- Laid by hprint.py (ours) over the kit's printing program, our own texts among it. Not trusted: Lean checks it.
import Derived.Test.YtgbidbhknffdoaaGreatDoorProg
import Derived.Below
import Derived.Deep.Draws
import Derived.Deep.AppendLies
import Derived.Maps.AppendAt
import Derived.OwnWalk
import Derived.Laws.BytesArg
import Derived.Laws.MakeOwn
import Derived.Laws.OwnMore
import Derived.Deep.OwnRows
import Derived.Tactics
import Derived.Lib.ConvBytes
import Derived.Laws.Slices
import Derived.WalkKit
import Derived.KernelRfl
import Derived.RowKit3
import Derived.Deep.LoopGhost
import Derived.Deep.QuietTactic
import Derived.BigQuiet
import Derived.WideLaws
import Derived.Deep.DeepCutAuto
import Derived.Deep.CutBlock
import Derived.Deep.RegionHeld3
import Derived.Laws.Rows
import Derived.Lib.AppendStr
import Derived.ArgAppend
import Derived.Laws.IdiomCopy
import Derived.OrdersHeld
import Derived.Laws.BitsLemmas
import Derived.RowKit
import Derived.Test.YtgbidbhknffdoaaGreatDoorWWords
import Derived.Test.YtgbidbhknffdoaaGreatDoorWLast
import Derived.Test.YtgbidbhknffdoaaGreatDoorWTab
import Derived.Test.YtgbidbhknffdoaaGreatDoorWFour
import Derived.Test.YtgbidbhknffdoaaGreatDoorWQPut
import Derived.Test.YtgbidbhknffdoaaGreatDoorWApart
import Derived.Test.YtgbidbhknffdoaaGreatDoorWArr
import Derived.Test.YtgbidbhknffdoaaGreatDoorWZeros
import Derived.Test.YtgbidbhknffdoaaGreatDoorWFoot
import Derived.Test.YtgbidbhknffdoaaGreatDoorWKept
import Derived.Test.YtgbidbhknffdoaaGreatDoorWShare
import Derived.Test.YtgbidbhknffdoaaGreatDoorWN
import Derived.Test.YtgbidbhknffdoaaGreatDoorWFootNe
import Derived.Test.YtgbidbhknffdoaaGreatDoorWAt
import Derived.Test.YtgbidbhknffdoaaGreatDoorWEqStruct
import Derived.Test.YtgbidbhknffdoaaGreatDoorWRepsOne
import Derived.Test.YtgbidbhknffdoaaGreatDoorWInv
import Derived.Test.YtgbidbhknffdoaaGreatDoorWInvWords
import Derived.Test.YtgbidbhknffdoaaGreatDoorWGuard
import Derived.Test.YtgbidbhknffdoaaGreatDoorWNEv
import Derived.Test.YtgbidbhknffdoaaGreatDoorWMore
namespace Go.Proofs.YtgbidbhknffdoaaGreatDoor.P
open Go.RowKit Go.Proofs.YtgbidbhknffdoaaGreatDoorW.PrintWords Go.Proofs.YtgbidbhknffdoaaGreatDoorW.PrintLast Go.Proofs.YtgbidbhknffdoaaGreatDoorW.PrintMore
attribute [local go_sem] max2_int min2_int max_two min_two max_three min_three max_four min_four   -- for this text's walks alone
set_option linter.unusedVariables false
set_option linter.unusedSimpArgs false



def errW : Option Int → Value
  | none => .nilIface
  | some c => .iface 118 (.int .i64 c)
theorem errW_none : errW none = .nilIface := rfl
theorem errW_some (c : Int) : errW (some c) = .iface 118 (.int .i64 c) := rfl

theorem info3 : (Tryz.prog.info? 3).map (fun i => (i.zero, i.size, i.bytes)) = some (some (.int .i64 0), 1, 8) := by kernel_rfl
theorem info9 : (Tryz.prog.info? 9).map (fun i => (i.zero, i.size, i.bytes)) = some (some (.string ⟨#[]⟩), 1, 16) := by kernel_rfl
theorem info114 : (Tryz.prog.info? 114).map (fun i => (i.zero, i.size, i.bytes)) = some (some (.int .u32 0), 1, 4) := by kernel_rfl
-- the values' own types
def rd_L2 (xs : List (List Int)) (i : Int) : (List Int) := xs.getD i.toNat ([] : List Int)
theorem at_L2 {w : World} {A : Option Addr} {n : Nat} {xs : List (List Int)} (h : Kd.C (Kd.slice 3 (Kd.int .i64)) w A n xs) (i : Int) (h0 : 0 ≤ i) (h1 : i < n) : ∃ ad A0 c0, A = some ad ∧ w.cell? (ad.add i.toNat) = some (.slice A0 (rd_L2 xs i).length c0) ∧ (rd_L2 xs i).length ≤ c0 ∧ (Kd.int .i64).C w A0 (rd_L2 xs i).length (rd_L2 xs i) := by
  obtain ⟨ad, c, e, _, hK, hc0⟩ := Kd.C_get h ([] : List Int) i h0 h1
  have hc : ∀ j u, c[j]? = some u → w.cell? (ad.add (i.toNat * 1 + j)) = some u := hc0
  obtain ⟨A0, c0, rfl, l0, g0⟩ := hK
  exact ⟨ad, A0, c0, e, by have hq := hc 0 _ rfl; rwa [Nat.mul_one, Nat.add_zero] at hq, l0, g0⟩

def rd_L5 (xs : List (List ByteArray)) (i : Int) : (List ByteArray) := xs.getD i.toNat ([] : List ByteArray)
theorem at_L5 {w : World} {A : Option Addr} {n : Nat} {xs : List (List ByteArray)} (h : Kd.C (Kd.slice 9 Kd.string) w A n xs) (i : Int) (h0 : 0 ≤ i) (h1 : i < n) : ∃ ad A0 c0, A = some ad ∧ w.cell? (ad.add i.toNat) = some (.slice A0 (rd_L5 xs i).length c0) ∧ (rd_L5 xs i).length ≤ c0 ∧ Kd.string.C w A0 (rd_L5 xs i).length (rd_L5 xs i) := by
  obtain ⟨ad, c, e, _, hK, hc0⟩ := Kd.C_get h ([] : List ByteArray) i h0 h1
  have hc : ∀ j u, c[j]? = some u → w.cell? (ad.add (i.toNat * 1 + j)) = some u := hc0
  obtain ⟨A0, c0, rfl, l0, g0⟩ := hK
  exact ⟨ad, A0, c0, e, by have hq := hc 0 _ rfl; rwa [Nat.mul_one, Nat.add_zero] at hq, l0, g0⟩

def rd_L7 (xs : List (List Int)) (i : Int) : (List Int) := xs.getD i.toNat ([] : List Int)
theorem at_L7 {w : World} {A : Option Addr} {n : Nat} {xs : List (List Int)} (h : Kd.C (Kd.slice 114 (Kd.int .u32)) w A n xs) (i : Int) (h0 : 0 ≤ i) (h1 : i < n) : ∃ ad A0 c0, A = some ad ∧ w.cell? (ad.add i.toNat) = some (.slice A0 (rd_L7 xs i).length c0) ∧ (rd_L7 xs i).length ≤ c0 ∧ (Kd.int .u32).C w A0 (rd_L7 xs i).length (rd_L7 xs i) := by
  obtain ⟨ad, c, e, _, hK, hc0⟩ := Kd.C_get h ([] : List Int) i h0 h1
  have hc : ∀ j u, c[j]? = some u → w.cell? (ad.add (i.toNat * 1 + j)) = some u := hc0
  obtain ⟨A0, c0, rfl, l0, g0⟩ := hK
  exact ⟨ad, A0, c0, e, by have hq := hc 0 _ rfl; rwa [Nat.mul_one, Nat.add_zero] at hq, l0, g0⟩

/-! #### struct type 74 -/
structure S74 where
  f0 : Bool
  f1 : (List Int)
def z74 : S74 := ⟨false, ([] : List Int)⟩
def k74 : Kd S74 := Kd.iso (Kd.pair Kd.bool (Kd.slice 114 (Kd.int .u32))) (fun x : S74 => (x.f0, x.f1))
theorem k74_open {w : World} {x : S74} {cs : List Value} (h : k74.K w x cs) : ∃ A1 c1, cs = [.bool x.f0, .slice A1 x.f1.length c1] ∧ x.f1.length ≤ c1 ∧ (Kd.int .u32).C w A1 x.f1.length x.f1 := by
  obtain ⟨_, _, rfl, rfl, ⟨A1, c1, rfl, l1, g1⟩⟩ := h
  exact ⟨A1, c1, rfl, l1, g1⟩
theorem k74_openM {w : World} {base : Nat} {ok : Nat → Prop} {x : S74} {cs : List Value} (h : k74.M w base ok x cs) : ∃ v1, cs = [.bool x.f0, v1] ∧ (Kd.int .u32).R 114 w base ok v1 x.f1 := by
  obtain ⟨_, _, rfl, rfl, ⟨v1, rfl, g1⟩⟩ := h
  exact ⟨v1, rfl, g1⟩
theorem k74_mk (w : World) (x : S74) {A1 : Option Addr} {c1 : Nat} (l1 : x.f1.length ≤ c1) (g1 : (Kd.int .u32).C w A1 x.f1.length x.f1) : k74.K w x [.bool x.f0, .slice A1 x.f1.length c1] := ⟨[.bool x.f0], [.slice A1 x.f1.length c1], rfl, rfl, ⟨A1, c1, rfl, l1, g1⟩⟩
theorem k74_mkM (w : World) (base : Nat) (ok : Nat → Prop) (x : S74) {v1 : Value} (g1 : (Kd.int .u32).R 114 w base ok v1 x.f1) : k74.M w base ok x [.bool x.f0, v1] := ⟨[.bool x.f0], [v1], rfl, rfl, ⟨v1, rfl, g1⟩⟩
def rd_T74 (xs : List S74) (i : Int) : S74 := xs.getD i.toNat z74
theorem at_T74 {w : World} {A : Option Addr} {n : Nat} {xs : List S74} (h : Kd.C k74 w A n xs) (i : Int) (h0 : 0 ≤ i) (h1 : i < n) : ∃ ad A1 c1, A = some ad ∧ w.cell? (ad.add (i.toNat * 2)) = some (.bool (rd_T74 xs i).f0) ∧ w.cell? ⟨(ad.add (i.toNat * 2)).block, (ad.add (i.toNat * 2)).off + 1, none⟩ = some (.slice A1 (rd_T74 xs i).f1.length c1) ∧ (rd_T74 xs i).f1.length ≤ c1 ∧ (Kd.int .u32).C w A1 (rd_T74 xs i).f1.length (rd_T74 xs i).f1 := by
  obtain ⟨ad, c, e, _, hK, hc0⟩ := Kd.C_get h z74 i h0 h1
  have hc : ∀ j u, c[j]? = some u → w.cell? (ad.add (i.toNat * 2 + j)) = some u := hc0
  obtain ⟨A1, c1, rfl, l1, g1⟩ := k74_open hK
  exact ⟨ad, A1, c1, e, hc 0 _ rfl, by rw [← add_field _ _ 1 (by omega)]; exact hc 1 _ rfl, l1, g1⟩

/-! #### struct type 76 -/
structure S76 where
  f0 : S74
  f1 : (List Int)
def z76 : S76 := ⟨z74, ([] : List Int)⟩
def k76 : Kd S76 := Kd.iso (Kd.pair k74 (Kd.slice 114 (Kd.int .u32))) (fun x : S76 => (x.f0, x.f1))
theorem k76_open {w : World} {x : S76} {cs : List Value} (h : k76.K w x cs) : ∃ A1 c1 A2 c2, cs = [.bool x.f0.f0, .slice A1 x.f0.f1.length c1, .slice A2 x.f1.length c2] ∧ x.f0.f1.length ≤ c1 ∧ (Kd.int .u32).C w A1 x.f0.f1.length x.f0.f1 ∧ x.f1.length ≤ c2 ∧ (Kd.int .u32).C w A2 x.f1.length x.f1 := by
  obtain ⟨_, _, rfl, s0, ⟨A2, c2, rfl, l2, g2⟩⟩ := h
  obtain ⟨A1, c1, rfl, l1, g1⟩ := k74_open s0
  exact ⟨A1, c1, A2, c2, rfl, l1, g1, l2, g2⟩
theorem k76_openM {w : World} {base : Nat} {ok : Nat → Prop} {x : S76} {cs : List Value} (h : k76.M w base ok x cs) : ∃ v1 v2, cs = [.bool x.f0.f0, v1, v2] ∧ (Kd.int .u32).R 114 w base ok v1 x.f0.f1 ∧ (Kd.int .u32).R 114 w base ok v2 x.f1 := by
  obtain ⟨_, _, rfl, s0, ⟨v2, rfl, g2⟩⟩ := h
  obtain ⟨v1, rfl, g1⟩ := k74_openM s0
  exact ⟨v1, v2, rfl, g1, g2⟩
theorem k76_mk (w : World) (x : S76) {A1 : Option Addr} {c1 : Nat} (l1 : x.f0.f1.length ≤ c1) (g1 : (Kd.int .u32).C w A1 x.f0.f1.length x.f0.f1) {A2 : Option Addr} {c2 : Nat} (l2 : x.f1.length ≤ c2) (g2 : (Kd.int .u32).C w A2 x.f1.length x.f1) : k76.K w x [.bool x.f0.f0, .slice A1 x.f0.f1.length c1, .slice A2 x.f1.length c2] := ⟨[.bool x.f0.f0, .slice A1 x.f0.f1.length c1], [.slice A2 x.f1.length c2], rfl, (k74_mk w x.f0 l1 g1), ⟨A2, c2, rfl, l2, g2⟩⟩
theorem k76_mkM (w : World) (base : Nat) (ok : Nat → Prop) (x : S76) {v1 : Value} (g1 : (Kd.int .u32).R 114 w base ok v1 x.f0.f1) {v2 : Value} (g2 : (Kd.int .u32).R 114 w base ok v2 x.f1) : k76.M w base ok x [.bool x.f0.f0, v1, v2] := ⟨[.bool x.f0.f0, v1], [v2], rfl, (k74_mkM w base ok x.f0 g1), ⟨v2, rfl, g2⟩⟩
def rd_T76 (xs : List S76) (i : Int) : S76 := xs.getD i.toNat z76
theorem at_T76 {w : World} {A : Option Addr} {n : Nat} {xs : List S76} (h : Kd.C k76 w A n xs) (i : Int) (h0 : 0 ≤ i) (h1 : i < n) : ∃ ad A1 c1 A2 c2, A = some ad ∧ w.cell? (ad.add (i.toNat * 3)) = some (.bool (rd_T76 xs i).f0.f0) ∧ w.cell? ⟨(ad.add (i.toNat * 3)).block, (ad.add (i.toNat * 3)).off + 1, none⟩ = some (.slice A1 (rd_T76 xs i).f0.f1.length c1) ∧ w.cell? ⟨(ad.add (i.toNat * 3)).block, (ad.add (i.toNat * 3)).off + 2, none⟩ = some (.slice A2 (rd_T76 xs i).f1.length c2) ∧ (rd_T76 xs i).f0.f1.length ≤ c1 ∧ (Kd.int .u32).C w A1 (rd_T76 xs i).f0.f1.length (rd_T76 xs i).f0.f1 ∧ (rd_T76 xs i).f1.length ≤ c2 ∧ (Kd.int .u32).C w A2 (rd_T76 xs i).f1.length (rd_T76 xs i).f1 := by
  obtain ⟨ad, c, e, _, hK, hc0⟩ := Kd.C_get h z76 i h0 h1
  have hc : ∀ j u, c[j]? = some u → w.cell? (ad.add (i.toNat * 3 + j)) = some u := hc0
  obtain ⟨A1, c1, A2, c2, rfl, l1, g1, l2, g2⟩ := k76_open hK
  exact ⟨ad, A1, c1, A2, c2, e, hc 0 _ rfl, by rw [← add_field _ _ 1 (by omega)]; exact hc 1 _ rfl, by rw [← add_field _ _ 2 (by omega)]; exact hc 2 _ rfl, l1, g1, l2, g2⟩

/-! #### struct type 89, nested in itself -/
structure S89 where
  f0 : Int
  f1 : S76
  f2 : ByteArray
  f3 : (List S89)
def z89 : S89 := ⟨(0 : Int), z76, (⟨#[]⟩ : ByteArray), ([] : List S89)⟩
def F89 (d : Kd S89) : Kd S89 := Kd.iso (Kd.pair (Kd.int .i64) (Kd.pair k76 (Kd.pair Kd.string (Kd.slice 89 d)))) (fun x : S89 => (x.f0, x.f1, x.f2, x.f3))
theorem mono89 : Kd.Mono F89 := Kd.mono_iso _ (Kd.mono_pair (Kd.mono_const _) (Kd.mono_pair (Kd.mono_const _) (Kd.mono_pair (Kd.mono_const _) (Kd.mono_slice 89 Kd.mono_id))))
theorem sub89 : Kd.Sub F89 [89, 114] := Kd.sub_iso _ (Kd.sub_pair (Kd.sub_const _ (by decide)) (Kd.sub_pair (Kd.sub_const _ (by decide)) (Kd.sub_pair (Kd.sub_const _ (by decide)) (Kd.sub_slice 89 (by decide) Kd.sub_id))))
theorem sz89 : ∀ n, (Kd.upto F89 6 [89, 114] n).sz = 6 := Kd.upto_sz (fun _ => rfl)
def k89 : Kd S89 := Kd.fix F89 6 [89, 114] sz89 (Kd.upto_E sub89)
theorem k89_open {w : World} {x : S89} {cs : List Value} (h : k89.K w x cs) : ∃ A2 c2 A3 c3 A5 c5, cs = [.int .i64 x.f0, .bool x.f1.f0.f0, .slice A2 x.f1.f0.f1.length c2, .slice A3 x.f1.f1.length c3, .string x.f2, .slice A5 x.f3.length c5] ∧ x.f1.f0.f1.length ≤ c2 ∧ (Kd.int .u32).C w A2 x.f1.f0.f1.length x.f1.f0.f1 ∧ x.f1.f1.length ≤ c3 ∧ (Kd.int .u32).C w A3 x.f1.f1.length x.f1.f1 ∧ x.f3.length ≤ c5 ∧ k89.C w A5 x.f3.length x.f3 := by
  obtain ⟨n, h⟩ := h
  cases n with
  | zero => exact h.elim
  | succ n =>
    obtain ⟨_, _, rfl, rfl, ⟨_, _, rfl, s1, ⟨_, _, rfl, rfl, ⟨A5, c5, rfl, l5, g5⟩⟩⟩⟩ := h
    obtain ⟨A2, c2, A3, c3, rfl, l2, g2, l3, g3⟩ := k76_open s1
    exact ⟨A2, c2, A3, c3, A5, c5, rfl, l2, g2, l3, g3, l5, Kd.fix_C g5⟩
theorem k89_openM {w : World} {base : Nat} {ok : Nat → Prop} {x : S89} {cs : List Value} (h : k89.M w base ok x cs) : ∃ v2 v3 v5, cs = [.int .i64 x.f0, .bool x.f1.f0.f0, v2, v3, .string x.f2, v5] ∧ (Kd.int .u32).R 114 w base ok v2 x.f1.f0.f1 ∧ (Kd.int .u32).R 114 w base ok v3 x.f1.f1 ∧ k89.R 89 w base ok v5 x.f3 := by
  obtain ⟨n, h⟩ := h
  cases n with
  | zero => exact h.elim
  | succ n =>
    obtain ⟨_, _, rfl, rfl, ⟨_, _, rfl, s1, ⟨_, _, rfl, rfl, ⟨v5, rfl, g5⟩⟩⟩⟩ := h
    obtain ⟨v2, v3, rfl, g2, g3⟩ := k76_openM s1
    exact ⟨v2, v3, v5, rfl, g2, g3, Kd.fix_R g5⟩
theorem k89_mk (w : World) (x : S89) {A2 : Option Addr} {c2 : Nat} (l2 : x.f1.f0.f1.length ≤ c2) (g2 : (Kd.int .u32).C w A2 x.f1.f0.f1.length x.f1.f0.f1) {A3 : Option Addr} {c3 : Nat} (l3 : x.f1.f1.length ≤ c3) (g3 : (Kd.int .u32).C w A3 x.f1.f1.length x.f1.f1) {A5 : Option Addr} {c5 : Nat} (l5 : x.f3.length ≤ c5) (g5 : k89.C w A5 x.f3.length x.f3) : k89.K w x [.int .i64 x.f0, .bool x.f1.f0.f0, .slice A2 x.f1.f0.f1.length c2, .slice A3 x.f1.f1.length c3, .string x.f2, .slice A5 x.f3.length c5] := by
  obtain ⟨n5, q5⟩ := Kd.fix_C_back mono89 g5
  have r5 := Kd.upto_C_le mono89 sz89 (show n5 ≤ n5 by omega) q5
  exact ⟨n5 + 1, ⟨[.int .i64 x.f0], [.bool x.f1.f0.f0, .slice A2 x.f1.f0.f1.length c2, .slice A3 x.f1.f1.length c3, .string x.f2, .slice A5 x.f3.length c5], rfl, rfl, ⟨[.bool x.f1.f0.f0, .slice A2 x.f1.f0.f1.length c2, .slice A3 x.f1.f1.length c3], [.string x.f2, .slice A5 x.f3.length c5], rfl, (k76_mk w x.f1 l2 g2 l3 g3), ⟨[.string x.f2], [.slice A5 x.f3.length c5], rfl, rfl, ⟨A5, c5, rfl, l5, r5⟩⟩⟩⟩⟩
theorem k89_mkM (w : World) (base : Nat) (ok : Nat → Prop) (x : S89) {v2 : Value} (g2 : (Kd.int .u32).R 114 w base ok v2 x.f1.f0.f1) {v3 : Value} (g3 : (Kd.int .u32).R 114 w base ok v3 x.f1.f1) {v5 : Value} (g5 : k89.R 89 w base ok v5 x.f3) : k89.M w base ok x [.int .i64 x.f0, .bool x.f1.f0.f0, v2, v3, .string x.f2, v5] := by
  obtain ⟨n5, q5⟩ := Kd.fix_R_back mono89 g5
  have r5 := Kd.upto_R_le mono89 sz89 (show n5 ≤ n5 by omega) q5
  exact ⟨n5 + 1, ⟨[.int .i64 x.f0], [.bool x.f1.f0.f0, v2, v3, .string x.f2, v5], rfl, rfl, ⟨[.bool x.f1.f0.f0, v2, v3], [.string x.f2, v5], rfl, (k76_mkM w base ok x.f1 g2 g3), ⟨[.string x.f2], [v5], rfl, rfl, ⟨v5, rfl, r5⟩⟩⟩⟩⟩
def rd_T89 (xs : List S89) (i : Int) : S89 := xs.getD i.toNat z89
theorem at_T89 {w : World} {A : Option Addr} {n : Nat} {xs : List S89} (h : Kd.C k89 w A n xs) (i : Int) (h0 : 0 ≤ i) (h1 : i < n) : ∃ ad A2 c2 A3 c3 A5 c5, A = some ad ∧ w.cell? (ad.add (i.toNat * 6)) = some (.int .i64 (rd_T89 xs i).f0) ∧ w.cell? ⟨(ad.add (i.toNat * 6)).block, (ad.add (i.toNat * 6)).off + 1, none⟩ = some (.bool (rd_T89 xs i).f1.f0.f0) ∧ w.cell? ⟨(ad.add (i.toNat * 6)).block, (ad.add (i.toNat * 6)).off + 2, none⟩ = some (.slice A2 (rd_T89 xs i).f1.f0.f1.length c2) ∧ w.cell? ⟨(ad.add (i.toNat * 6)).block, (ad.add (i.toNat * 6)).off + 3, none⟩ = some (.slice A3 (rd_T89 xs i).f1.f1.length c3) ∧ w.cell? ⟨(ad.add (i.toNat * 6)).block, (ad.add (i.toNat * 6)).off + 4, none⟩ = some (.string (rd_T89 xs i).f2) ∧ w.cell? ⟨(ad.add (i.toNat * 6)).block, (ad.add (i.toNat * 6)).off + 5, none⟩ = some (.slice A5 (rd_T89 xs i).f3.length c5) ∧ (rd_T89 xs i).f1.f0.f1.length ≤ c2 ∧ (Kd.int .u32).C w A2 (rd_T89 xs i).f1.f0.f1.length (rd_T89 xs i).f1.f0.f1 ∧ (rd_T89 xs i).f1.f1.length ≤ c3 ∧ (Kd.int .u32).C w A3 (rd_T89 xs i).f1.f1.length (rd_T89 xs i).f1.f1 ∧ (rd_T89 xs i).f3.length ≤ c5 ∧ k89.C w A5 (rd_T89 xs i).f3.length (rd_T89 xs i).f3 := by
  obtain ⟨ad, c, e, _, hK, hc0⟩ := Kd.C_get h z89 i h0 h1
  have hc : ∀ j u, c[j]? = some u → w.cell? (ad.add (i.toNat * 6 + j)) = some u := hc0
  obtain ⟨A2, c2, A3, c3, A5, c5, rfl, l2, g2, l3, g3, l5, g5⟩ := k89_open hK
  exact ⟨ad, A2, c2, A3, c3, A5, c5, e, hc 0 _ rfl, by rw [← add_field _ _ 1 (by omega)]; exact hc 1 _ rfl, by rw [← add_field _ _ 2 (by omega)]; exact hc 2 _ rfl, by rw [← add_field _ _ 3 (by omega)]; exact hc 3 _ rfl, by rw [← add_field _ _ 4 (by omega)]; exact hc 4 _ rfl, by rw [← add_field _ _ 5 (by omega)]; exact hc 5 _ rfl, l2, g2, l3, g3, l5, g5⟩

def rd_L11 (xs : List (List S76)) (i : Int) : (List S76) := xs.getD i.toNat ([] : List S76)
theorem at_L11 {w : World} {A : Option Addr} {n : Nat} {xs : List (List S76)} (h : Kd.C (Kd.slice 76 k76) w A n xs) (i : Int) (h0 : 0 ≤ i) (h1 : i < n) : ∃ ad A0 c0, A = some ad ∧ w.cell? (ad.add i.toNat) = some (.slice A0 (rd_L11 xs i).length c0) ∧ (rd_L11 xs i).length ≤ c0 ∧ k76.C w A0 (rd_L11 xs i).length (rd_L11 xs i) := by
  obtain ⟨ad, c, e, _, hK, hc0⟩ := Kd.C_get h ([] : List S76) i h0 h1
  have hc : ∀ j u, c[j]? = some u → w.cell? (ad.add (i.toNat * 1 + j)) = some u := hc0
  obtain ⟨A0, c0, rfl, l0, g0⟩ := hK
  exact ⟨ad, A0, c0, e, by have hq := hc 0 _ rfl; rwa [Nat.mul_one, Nat.add_zero] at hq, l0, g0⟩

/-! #### struct type 79 -/
structure S79 where
  f0 : ByteArray
  f1 : S76
  f2 : (List S76)
def z79 : S79 := ⟨(⟨#[]⟩ : ByteArray), z76, ([] : List S76)⟩
def k79 : Kd S79 := Kd.iso (Kd.pair Kd.string (Kd.pair k76 (Kd.slice 76 k76))) (fun x : S79 => (x.f0, x.f1, x.f2))
theorem k79_open {w : World} {x : S79} {cs : List Value} (h : k79.K w x cs) : ∃ A2 c2 A3 c3 A4 c4, cs = [.string x.f0, .bool x.f1.f0.f0, .slice A2 x.f1.f0.f1.length c2, .slice A3 x.f1.f1.length c3, .slice A4 x.f2.length c4] ∧ x.f1.f0.f1.length ≤ c2 ∧ (Kd.int .u32).C w A2 x.f1.f0.f1.length x.f1.f0.f1 ∧ x.f1.f1.length ≤ c3 ∧ (Kd.int .u32).C w A3 x.f1.f1.length x.f1.f1 ∧ x.f2.length ≤ c4 ∧ k76.C w A4 x.f2.length x.f2 := by
  obtain ⟨_, _, rfl, rfl, ⟨_, _, rfl, s1, ⟨A4, c4, rfl, l4, g4⟩⟩⟩ := h
  obtain ⟨A2, c2, A3, c3, rfl, l2, g2, l3, g3⟩ := k76_open s1
  exact ⟨A2, c2, A3, c3, A4, c4, rfl, l2, g2, l3, g3, l4, g4⟩
theorem k79_openM {w : World} {base : Nat} {ok : Nat → Prop} {x : S79} {cs : List Value} (h : k79.M w base ok x cs) : ∃ v2 v3 v4, cs = [.string x.f0, .bool x.f1.f0.f0, v2, v3, v4] ∧ (Kd.int .u32).R 114 w base ok v2 x.f1.f0.f1 ∧ (Kd.int .u32).R 114 w base ok v3 x.f1.f1 ∧ k76.R 76 w base ok v4 x.f2 := by
  obtain ⟨_, _, rfl, rfl, ⟨_, _, rfl, s1, ⟨v4, rfl, g4⟩⟩⟩ := h
  obtain ⟨v2, v3, rfl, g2, g3⟩ := k76_openM s1
  exact ⟨v2, v3, v4, rfl, g2, g3, g4⟩
theorem k79_mk (w : World) (x : S79) {A2 : Option Addr} {c2 : Nat} (l2 : x.f1.f0.f1.length ≤ c2) (g2 : (Kd.int .u32).C w A2 x.f1.f0.f1.length x.f1.f0.f1) {A3 : Option Addr} {c3 : Nat} (l3 : x.f1.f1.length ≤ c3) (g3 : (Kd.int .u32).C w A3 x.f1.f1.length x.f1.f1) {A4 : Option Addr} {c4 : Nat} (l4 : x.f2.length ≤ c4) (g4 : k76.C w A4 x.f2.length x.f2) : k79.K w x [.string x.f0, .bool x.f1.f0.f0, .slice A2 x.f1.f0.f1.length c2, .slice A3 x.f1.f1.length c3, .slice A4 x.f2.length c4] := ⟨[.string x.f0], [.bool x.f1.f0.f0, .slice A2 x.f1.f0.f1.length c2, .slice A3 x.f1.f1.length c3, .slice A4 x.f2.length c4], rfl, rfl, ⟨[.bool x.f1.f0.f0, .slice A2 x.f1.f0.f1.length c2, .slice A3 x.f1.f1.length c3], [.slice A4 x.f2.length c4], rfl, (k76_mk w x.f1 l2 g2 l3 g3), ⟨A4, c4, rfl, l4, g4⟩⟩⟩
theorem k79_mkM (w : World) (base : Nat) (ok : Nat → Prop) (x : S79) {v2 : Value} (g2 : (Kd.int .u32).R 114 w base ok v2 x.f1.f0.f1) {v3 : Value} (g3 : (Kd.int .u32).R 114 w base ok v3 x.f1.f1) {v4 : Value} (g4 : k76.R 76 w base ok v4 x.f2) : k79.M w base ok x [.string x.f0, .bool x.f1.f0.f0, v2, v3, v4] := ⟨[.string x.f0], [.bool x.f1.f0.f0, v2, v3, v4], rfl, rfl, ⟨[.bool x.f1.f0.f0, v2, v3], [v4], rfl, (k76_mkM w base ok x.f1 g2 g3), ⟨v4, rfl, g4⟩⟩⟩
def rd_T79 (xs : List S79) (i : Int) : S79 := xs.getD i.toNat z79
theorem at_T79 {w : World} {A : Option Addr} {n : Nat} {xs : List S79} (h : Kd.C k79 w A n xs) (i : Int) (h0 : 0 ≤ i) (h1 : i < n) : ∃ ad A2 c2 A3 c3 A4 c4, A = some ad ∧ w.cell? (ad.add (i.toNat * 5)) = some (.string (rd_T79 xs i).f0) ∧ w.cell? ⟨(ad.add (i.toNat * 5)).block, (ad.add (i.toNat * 5)).off + 1, none⟩ = some (.bool (rd_T79 xs i).f1.f0.f0) ∧ w.cell? ⟨(ad.add (i.toNat * 5)).block, (ad.add (i.toNat * 5)).off + 2, none⟩ = some (.slice A2 (rd_T79 xs i).f1.f0.f1.length c2) ∧ w.cell? ⟨(ad.add (i.toNat * 5)).block, (ad.add (i.toNat * 5)).off + 3, none⟩ = some (.slice A3 (rd_T79 xs i).f1.f1.length c3) ∧ w.cell? ⟨(ad.add (i.toNat * 5)).block, (ad.add (i.toNat * 5)).off + 4, none⟩ = some (.slice A4 (rd_T79 xs i).f2.length c4) ∧ (rd_T79 xs i).f1.f0.f1.length ≤ c2 ∧ (Kd.int .u32).C w A2 (rd_T79 xs i).f1.f0.f1.length (rd_T79 xs i).f1.f0.f1 ∧ (rd_T79 xs i).f1.f1.length ≤ c3 ∧ (Kd.int .u32).C w A3 (rd_T79 xs i).f1.f1.length (rd_T79 xs i).f1.f1 ∧ (rd_T79 xs i).f2.length ≤ c4 ∧ k76.C w A4 (rd_T79 xs i).f2.length (rd_T79 xs i).f2 := by
  obtain ⟨ad, c, e, _, hK, hc0⟩ := Kd.C_get h z79 i h0 h1
  have hc : ∀ j u, c[j]? = some u → w.cell? (ad.add (i.toNat * 5 + j)) = some u := hc0
  obtain ⟨A2, c2, A3, c3, A4, c4, rfl, l2, g2, l3, g3, l4, g4⟩ := k79_open hK
  exact ⟨ad, A2, c2, A3, c3, A4, c4, e, hc 0 _ rfl, by rw [← add_field _ _ 1 (by omega)]; exact hc 1 _ rfl, by rw [← add_field _ _ 2 (by omega)]; exact hc 2 _ rfl, by rw [← add_field _ _ 3 (by omega)]; exact hc 3 _ rfl, by rw [← add_field _ _ 4 (by omega)]; exact hc 4 _ rfl, l2, g2, l3, g3, l4, g4⟩

end Go.Proofs.YtgbidbhknffdoaaGreatDoor.P
