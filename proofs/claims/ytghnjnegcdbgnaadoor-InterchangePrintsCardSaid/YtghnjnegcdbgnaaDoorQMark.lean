/- Markers as texts: the plain law. Lines, words, numbers; what a line says and how it is written. -/
import Derived.Test.YtghnjnegcdbgnaaDoorQBa
import Derived.Test.YtghnjnegcdbgnaaDoorQSgn
import Derived.Test.YtghnjnegcdbgnaaDoorJ1
namespace Go.Proofs.YtghnjnegcdbgnaaDoor
set_option linter.unusedVariables false
set_option linter.unusedSimpArgs false
open Go Go.RowKit P Go.Proofs.YtghnjnegcdbgnaaDoorW.PrintWords Go.Proofs.YtghnjnegcdbgnaaDoorW.PrintLast Go.Proofs.YtghnjnegcdbgnaaDoorW.PrintMore

abbrev Pl := S46
structure Mk where
 a : Int
 b : Int
 c : Int
 d : Int
 z : List Int
 p : List Pl
def Mk0 : Mk := ⟨0, 0, 0, 0, [], []⟩
def cM : Int := 1048576
def inR (lo hi n : Int) : Bool := decide (lo ≤ n) && decide (n ≤ hi)
theorem inR_iff {lo hi n : Int} : inR lo hi n = true ↔ lo ≤ n ∧ n ≤ hi := by unfold inR; simp
def numV (s : List UInt8) : Int := if -9223372036854775808 ≤ valS s ∧ valS s ≤ 9223372036854775807 then valS s else 1099511627776
theorem numL_eq (s : List UInt8) : numL s = if formN s = true then (numV s, true) else (0, false) := by
 unfold numL
 rw [trimPrefix_45]
 by_cases h : formN s = true
 ·obtain ⟨h0, h1, h2⟩ := formN_iff.1 h
  rw [if_pos h, if_neg]
  ·rw [atoi_form h0 h1]
   unfold numV
   by_cases hv : -9223372036854775808 ≤ valS s ∧ valS s ≤ 9223372036854775807
   ·rw [if_pos hv, if_pos hv]
   ·rw [if_neg hv, if_neg hv]
  ·rintro (h3 | h3 | ⟨h3, h4⟩)
   ·exact h0 h3
   ·exact h3 ((trimS_digits _).2 h1)
   ·exact h4 (h2 h3)
 ·rw [if_neg h]
  rw [if_pos]
  apply Classical.byContradiction
  intro hn
  apply h
  refine formN_iff.2 ⟨fun h0 => hn (.inl h0), (trimS_digits _).1 (Classical.byContradiction fun h1 => hn (.inr (.inl h1))), fun hh => Classical.byContradiction fun h2 => hn (.inr (.inr ⟨hh, h2⟩))⟩
theorem num_itoa {n : Int} (h0 : -9223372036854775808 ≤ n) (h1 : n ≤ 9223372036854775807) : formN (itoaL n) = true ∧ numV (itoaL n) = n := by
 obtain ⟨a, b⟩ := form_itoa n h0 h1
 refine ⟨a, ?_⟩
 unfold numV
 rw [b, if_pos ⟨h0, h1⟩]
theorem nums_itoa : ∀ ns : List Int, (∀ n ∈ ns, -9223372036854775808 ≤ n ∧ n ≤ 9223372036854775807) → (ns.map itoaL).all formN = true ∧ (ns.map itoaL).map numV = ns
 | [], _ => ⟨rfl, rfl⟩
 | n :: ns, h => by
  obtain ⟨a, b⟩ := nums_itoa ns (fun m hm => h m (by simp [hm]))
  obtain ⟨c, d⟩ := num_itoa (h n (by simp)).1 (h n (by simp)).2
  exact ⟨by simp only [List.map_cons, List.all_cons, c, a, Bool.and_self], by simp only [List.map_cons, b, d]⟩
theorem join_text (w : List UInt8) : ∀ ns : List Int, Lib.join (w :: ns.map itoaL) [32] = w ++ textL ns := by
 intro ns
 rw [Lib.join_cons]
 congr 1
 show (List.map (fun x => [32] ++ x) (ns.map itoaL)).flatten = _
 rw [List.map_map]; rfl
theorem itoa_byte {n : Int} (h : -9223372036854775808 ≤ n ∧ n ≤ 9223372036854775807) {c : UInt8} (h1 : isDig c = false) (h2 : c ≠ 45) : c ∉ itoaL n := by
 intro hm
 rcases itoa_dig n h.1 h.2 c hm with h3 | h3
 ·rw [h1] at h3; cases h3
 ·exact h2 h3
theorem words_text {w : List UInt8} (hw : (32 : UInt8) ∉ w) {ns : List Int} (h : ∀ n ∈ ns, -9223372036854775808 ≤ n ∧ n ≤ 9223372036854775807) : splitL [32] (w ++ textL ns) = w :: ns.map itoaL := by
 rw [← join_text]
 refine split_join 32 [] _ (by simp) ?_
 intro x hx
 rcases List.mem_cons.1 hx with rfl | hx
 ·exact hw
 ·obtain ⟨n, hn, rfl⟩ := List.mem_map.1 hx
  exact itoa_byte (h n hn) (by decide) (by decide)
theorem text_byte {ns : List Int} (h : ∀ n ∈ ns, -9223372036854775808 ≤ n ∧ n ≤ 9223372036854775807) {c : UInt8} (h1 : isDig c = false) (h2 : c ≠ 45) (h3 : c ≠ 32) : c ∉ textL ns := by
 intro hm
 unfold textL at hm
 obtain ⟨n, hn, hm⟩ := List.mem_flatMap.1 hm
 rcases List.mem_cons.1 hm with hm | hm
 ·exact h3 hm
 ·exact itoa_byte (h n hn) h1 h2 hm

def wMarker : List UInt8 := [109, 97, 114, 107, 101, 114]
def wSizes : List UInt8 := [115, 105, 122, 101, 115]
def wPlace : List UInt8 := [112, 108, 97, 99, 101]
def wFlip : List UInt8 := [102, 108, 105, 112]
def headLine (a b c d : Int) : List UInt8 := wMarker ++ textL [a, b, c, d]
def sizesLine (z : List Int) : List UInt8 := wSizes ++ textL z
def flipT (f : Bool) : List UInt8 := if f = true then 32 :: wFlip else []
def placeLine (p : Pl) : List UInt8 := wPlace ++ textL [p.f0, p.f1, p.f2] ++ flipT p.f3.f0 ++ textL [p.f3.f1, p.f4.f0, p.f4.f1]
def okH (a b c d : Int) : Bool := [a, b, c, d].all (inR 0 cM)
def okZ (z : List Int) : Bool := z.all (inR 0 cM)
def okP (p : Pl) : Bool := [p.f0, p.f1, p.f2].all (inR 0 cM) && inR 0 3 p.f3.f1 && [p.f4.f0, p.f4.f1].all (inR (-cM) cM)
def headS (m : Mk) (ws : List (List UInt8)) : Mk × Int :=
 if ws.head? = some wMarker ∧ ws.tail.all formN = true ∧ ws.tail.length = 4 then
  if (ws.tail.map numV).all (inR 0 cM) = true then (⟨rd (ws.tail.map numV) 0, rd (ws.tail.map numV) 1, rd (ws.tail.map numV) 2, rd (ws.tail.map numV) 3, m.z, m.p⟩, 0) else (m, 3)
 else (m, 2)
def sizesS (m : Mk) (ws : List (List UInt8)) : Mk × Int :=
 if ws.head? = some wSizes ∧ ws.tail.all formN = true then
  if (ws.tail.map numV).all (inR 0 cM) = true then if 6 < ws.tail.length then (m, 5) else (⟨m.a, m.b, m.c, m.d, ws.tail.map numV, m.p⟩, 0) else (m, 3)
 else (m, 2)
def flipS (ws : List (List UInt8)) : Bool := decide (ws.length = 8 ∧ ws[4]? = some wFlip)
def restS (ws : List (List UInt8)) : List (List UInt8) := if flipS ws = true then (ws.take 4).drop 1 ++ ws.drop 5 else ws.tail
def inP (ns : List Int) : Bool := (ns.take 3).all (inR 0 cM) && ((ns.take 4).drop 3).all (inR 0 3) && (ns.drop 4).all (inR (-cM) cM)
def mkP (f : Bool) (ns : List Int) : Pl := ⟨rd ns 0, rd ns 1, rd ns 2, ⟨f, rd ns 3⟩, ⟨rd ns 4, rd ns 5⟩⟩
def placeS (m : Mk) (ws : List (List UInt8)) : Mk × Int :=
 if ws.head? = some wPlace ∧ (restS ws).all formN = true ∧ (restS ws).length = 6 then
  if inP ((restS ws).map numV) = true then if m.p.length = 60 then (m, 5) else (⟨m.a, m.b, m.c, m.d, m.z, m.p ++ [mkP (flipS ws) ((restS ws).map numV)]⟩, 0) else (m, 3)
 else (m, 2)
def stepS (i : Nat) (m : Mk) (ws : List (List UInt8)) : Mk × Int := if i = 1 then headS m ws else if i = 2 then sizesS m ws else placeS m ws

theorem in64_of {lo hi n : Int} (h : inR lo hi n = true) (hl : -1048576 ≤ lo) (hh : hi ≤ 1048576) : -9223372036854775808 ≤ n ∧ n ≤ 9223372036854775807 := by
 rw [inR_iff] at h; omega
theorem all_in64 {lo hi : Int} {ns : List Int} (h : ns.all (inR lo hi) = true) (hl : -1048576 ≤ lo) (hh : hi ≤ 1048576) : ∀ n ∈ ns, -9223372036854775808 ≤ n ∧ n ≤ 9223372036854775807 :=
 fun n hn => in64_of (List.all_eq_true.1 h n hn) hl hh
theorem cM_le : cM ≤ 1048576 := by unfold cM; omega
theorem cM_ge : (-1048576 : Int) ≤ -cM := by unfold cM; omega

theorem head_ok (m : Mk) {a b c d : Int} (h : okH a b c d = true) : headS m (splitL [32] (headLine a b c d)) = (⟨a, b, c, d, m.z, m.p⟩, 0) := by
 have h6 := all_in64 h (by omega) cM_le
 have hw : splitL [32] (headLine a b c d) = wMarker :: [a, b, c, d].map itoaL := words_text (by decide) h6
 obtain ⟨h1, h2⟩ := nums_itoa _ h6
 have h2' : (wMarker :: [a, b, c, d].map itoaL).tail.map numV = [a, b, c, d] := h2
 unfold headS
 rw [hw, if_pos ⟨rfl, h1, rfl⟩, if_pos (by rw [h2']; exact h), h2']
 rfl
theorem sizes_ok (m : Mk) {z : List Int} (h : okZ z = true) (hl : z.length ≤ 6) : sizesS m (splitL [32] (sizesLine z)) = (⟨m.a, m.b, m.c, m.d, z, m.p⟩, 0) := by
 have h6 := all_in64 h (by omega) cM_le
 have hw : splitL [32] (sizesLine z) = wSizes :: z.map itoaL := words_text (by decide) h6
 obtain ⟨h1, h2⟩ := nums_itoa _ h6
 have h2' : (wSizes :: z.map itoaL).tail.map numV = z := h2
 unfold sizesS
 rw [hw, if_pos ⟨rfl, h1⟩, if_pos (by rw [h2']; exact h), if_neg (by simp; omega), h2']

theorem placeLine_join (p : Pl) : placeLine p = Lib.join (wPlace :: ([p.f0, p.f1, p.f2].map itoaL ++ ((if p.f3.f0 = true then [wFlip] else []) ++ [p.f3.f1, p.f4.f0, p.f4.f1].map itoaL))) [32] := by
 unfold placeLine flipT
 cases p.f3.f0 <;> simp [Lib.join_cons, Lib.joinTail, textL]
theorem okP_iff {p : Pl} : okP p = true ↔ inP [p.f0, p.f1, p.f2, p.f3.f1, p.f4.f0, p.f4.f1] = true := by
 unfold okP inP
 simp
theorem inP_in64 {ns : List Int} (h : inP ns = true) : ∀ n ∈ ns, -9223372036854775808 ≤ n ∧ n ≤ 9223372036854775807 := by
 unfold inP at h
 simp only [Bool.and_eq_true] at h
 obtain ⟨⟨h1, h2⟩, h3⟩ := h
 intro n hn
 have e : ns = ns.take 3 ++ ((ns.take 4).drop 3 ++ ns.drop 4) := by
  rw [← List.append_assoc]
  have : ns.take 3 ++ (ns.take 4).drop 3 = ns.take 4 := by
   conv => rhs; rw [← List.take_append_drop 3 (ns.take 4)]
   rw [List.take_take]; rfl
  rw [this, List.take_append_drop]
 rw [e] at hn
 rcases List.mem_append.1 hn with hn | hn
 ·exact all_in64 h1 (by omega) cM_le n hn
 ·rcases List.mem_append.1 hn with hn | hn
  ·exact all_in64 h2 (by omega) (by omega) n hn
  ·exact all_in64 h3 cM_ge cM_le n hn
theorem place_ok (m : Mk) {p : Pl} (h : okP p = true) (hl : m.p.length < 60) : placeS m (splitL [32] (placeLine p)) = (⟨m.a, m.b, m.c, m.d, m.z, m.p ++ [p]⟩, 0) := by
 have h1 := okP_iff.1 h
 have h6 := inP_in64 h1
 obtain ⟨n1, n2⟩ := nums_itoa _ h6
 obtain ⟨q0, q1, q2, ⟨qf, q3⟩, ⟨q4, q5⟩⟩ := p
 have hw : splitL [32] (placeLine ⟨q0, q1, q2, ⟨qf, q3⟩, ⟨q4, q5⟩⟩) = wPlace :: ([q0, q1, q2].map itoaL ++ ((if qf = true then [wFlip] else []) ++ [q3, q4, q5].map itoaL)) := by
  rw [placeLine_join]
  refine split_join 32 [] _ (by simp) ?_
  intro x hx
  have nb : ∀ n ∈ [q0, q1, q2, q3, q4, q5], (32 : UInt8) ∉ itoaL n := fun n hn => itoa_byte (h6 n hn) (by decide) (by decide)
  rcases List.mem_cons.1 hx with rfl | hx
  ·decide
  ·rcases List.mem_append.1 hx with hx | hx
   ·obtain ⟨n, hn, rfl⟩ := List.mem_map.1 hx
    exact nb n (by simp at hn ⊢; rcases hn with rfl | rfl | rfl <;> simp)
   ·rcases List.mem_append.1 hx with hx | hx
    ·cases qf with
     | true => simp at hx; rw [hx]; decide
     | false => simp at hx
    ·obtain ⟨n, hn, rfl⟩ := List.mem_map.1 hx
     exact nb n (by simp at hn ⊢; rcases hn with rfl | rfl | rfl <;> simp)
 unfold placeS
 rw [hw]
 cases qf with
 | true =>
  have hq : flipS (wPlace :: ([q0, q1, q2].map itoaL ++ ((if true = true then [wFlip] else []) ++ [q3, q4, q5].map itoaL))) = true := by unfold flipS; exact decide_eq_true ⟨rfl, rfl⟩
  have hr : restS (wPlace :: ([q0, q1, q2].map itoaL ++ ((if true = true then [wFlip] else []) ++ [q3, q4, q5].map itoaL))) = [q0, q1, q2, q3, q4, q5].map itoaL := by
   unfold restS; rw [if_pos hq]; rfl
  rw [hq, hr, n2, if_pos ⟨rfl, n1, rfl⟩, if_pos h1, if_neg (by omega)]
  rfl
 | false =>
  have hq : flipS (wPlace :: ([q0, q1, q2].map itoaL ++ ((if false = true then [wFlip] else []) ++ [q3, q4, q5].map itoaL))) = false := by
   unfold flipS
   apply decide_eq_false
   rintro ⟨h8, _⟩
   exact absurd h8 (by simp)
  have hr : restS (wPlace :: ([q0, q1, q2].map itoaL ++ ((if false = true then [wFlip] else []) ++ [q3, q4, q5].map itoaL))) = [q0, q1, q2, q3, q4, q5].map itoaL := by
   unfold restS; rw [hq]; rfl
  rw [hq, hr, n2, if_pos ⟨rfl, n1, rfl⟩, if_pos h1, if_neg (by omega)]
  rfl
end Go.Proofs.YtghnjnegcdbgnaaDoor
