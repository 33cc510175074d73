/- Small lemmas on printed functions: rounds, reads, bytes. -/
import Derived.Test.YtghnjnegcdbgnaaDoorQEv
import Derived.Test.YtghnjnegcdbgnaaDoorQDec
namespace Go.Proofs.YtghnjnegcdbgnaaDoor
open Go Go.RowKit P Go.Proofs.YtghnjnegcdbgnaaDoorW.PrintWords Go.Proofs.YtghnjnegcdbgnaaDoorW.PrintLast Go.Proofs.YtghnjnegcdbgnaaDoorW.PrintMore
theorem Ev.succ {α : Type} {f : Nat → Option α} {r : α} (h : Ev (fun k => f (k + 1)) r) : Ev f r := Ev.step h (fun _ => rfl)
theorem Ev.val {α β : Type} {f : Option α} {g : Nat → α → Option β} {a : α} {r : β} (h : f = some a) (hg : Ev (fun k => g k a) r) : Ev (fun k => f.bind (g k)) r := Ev.bind (f := fun _ => f) (Ev.const h) hg
theorem Ev.cast {α : Type} {f : Nat → Option α} {r s : α} (h : Ev f r) (e : r = s) : Ev f s := e ▸ h
theorem up (n : Nat) (Q : Nat → Prop) (base : Q n) (step : ∀ i, i < n → Q (i + 1) → Q i) : ∀ i, i ≤ n → Q i := by
  intro i hi
  have key : ∀ m i, i ≤ n → n - i = m → Q i := by
    intro m
    induction m with
    | zero => intro i hi hm; obtain rfl : i = n := by omega
              exact base
    | succ m ih => intro i hi hm; exact step i (by omega) (ih (i + 1) (by omega) (by omega))
  exact key (n - i) i hi rfl
theorem rd_at (l : List Int) (i : Nat) (h : i < l.length) : rd l (i : Int) = l[i] := by
 unfold rd; simp [List.getD_eq_getElem?_getD, List.getElem?_eq_getElem h]
theorem rdOf_at {α : Type} (d : α) (l : List α) (i : Nat) (h : i < l.length) : rdOf d l (i : Int) = l[i] := by
 unfold rdOf; simp [List.getD_eq_getElem?_getD, List.getElem?_eq_getElem h]
theorem ba_len (s : ByteArray) : s.data.toList.length = s.size := Array.length_toList
theorem bt_get (s : ByteArray) (i : Nat) (h : i < s.size) : bt s (i : Int) = ((s.data.toList[i]'(by rw [ba_len]; exact h)).toNat : Int) := by
 unfold bt
 simp only [Int.toNat_natCast, h, dif_pos]
 rfl
def bs (l : List UInt8) : ByteArray := ⟨l.toArray⟩
theorem bs_data (l : List UInt8) : (bs l).data.toList = l := by unfold bs; simp
theorem bs_toList (l : List UInt8) : (bs l).toList = l := by rw [ba_toList, bs_data]
theorem bs_size (l : List UInt8) : (bs l).size = l.length := by rw [← ba_len, bs_data]
theorem bs_append (l m : List UInt8) : bs l ++ bs m = bs (l ++ m) := by
 apply ba_ext
 rw [bs_data]
 have : (bs l ++ bs m).data.toList = (bs l).data.toList ++ (bs m).data.toList := by simp
 rw [this, bs_data, bs_data]
theorem bs_get (l : List UInt8) (i : Nat) (h : i < l.length) : bt (bs l) (i : Int) = ((l[i]).toNat : Int) := by
 rw [bt_get (bs l) i (by rw [bs_size]; exact h)]
 simp only [bs_data]
theorem u8_ext {c d : UInt8} (h : c.toNat = d.toNat) : c = d := UInt8.toNat_inj.1 h
end Go.Proofs.YtghnjnegcdbgnaaDoor
