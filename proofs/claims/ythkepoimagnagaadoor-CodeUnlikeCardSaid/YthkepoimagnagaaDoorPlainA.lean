/- Plain law: an extension's check, of the program and of the reference, is one function of the extension. Conditions: an instruction's Imm is a word. -/
import Derived.Test.YthkepoimagnagaaDoorKx22
import Derived.Test.YthkepoimagnagaaDoorKx6
import Derived.Test.YthkepoimagnagaaDoorKx9
namespace Go.Proofs.YthkepoimagnagaaDoor.Plain
open Go.RowKit Go.Proofs.YthkepoimagnagaaDoor.K Go.Proofs.YthkepoimagnagaaDoorW.PrintWords Go.Proofs.YthkepoimagnagaaDoorW.PrintLast
set_option linter.unusedVariables false
set_option linter.unusedSimpArgs false

theorem ite_some_and (A : Prop) [Decidable A] (B : Bool) : (if A then some B else some false) = some (decide A && B) := by
  by_cases h : A <;> simp [h]
def W (u : Bool) (n a b : Int) : Bool := if u then decide (a ≤ n) && decide (n ≤ b) else n == 0
theorem within_eq (u : Bool) (n a b : Int) : code_within.f u n a b = some (W u n a b) := by
  unfold code_within.f W
  cases u
  · by_cases h : n = 0 <;> simp [h]
  · by_cases h : a ≤ n <;> simp [h]
def most (op : Int) : Int := if Go.bits .and .i64 (opUses op) 8 = 0 then 0 else if op = 12 then 31 else if op = 13 then 31 else if op = 23 then 7 else 4294967295
def mayB (op d s o m : Int) : Bool :=
  if 1 ≤ op then if op ≤ 24 then
    W (Go.bits .and .i64 (opUses op) 1 != 0) d 0 9 && (W (Go.bits .and .i64 (opUses op) 2 != 0) s 0 9 &&
      (W (Go.bits .and .i64 (opUses op) 4 != 0) o (if op ≥ 19 then 0 else -32768) (if op ≥ 19 then 255 else 32767) && decide (m ≤ most op)))
  else false else false
theorem of_eq (op : Int) (h1 : 1 ≤ op) (h2 : op ≤ 24) : code_of.f op = some (opName op, opUses op, true) := by
  unfold code_of.f
  rw [if_neg (by omega), if_neg (by omega)]
theorem of_no (op : Int) (h : op < 1 ∨ 24 < op) : code_of.f op = some (⟨#[]⟩, 0, false) := by
  unfold code_of.f
  by_cases h1 : op < 1
  · rw [if_pos h1]
  · rw [if_neg h1, if_pos (by omega)]
theorem may_j0 (k : Nat) (a b op d s o m : Int) (nm : ByteArray) : code_may.j0 (k + 2) a b op d s o m nm (opUses op) =
    some (W (Go.bits .and .i64 (opUses op) 1 != 0) d 0 9 && (W (Go.bits .and .i64 (opUses op) 2 != 0) s 0 9 && (W (Go.bits .and .i64 (opUses op) 4 != 0) o a b && decide (m ≤ most op)))) := by
  simp only [code_may.j0, code_may.j1, within_eq, Option.bind_some, ite_some_and, Bool.decide_eq_true, most]
  by_cases h8 : Go.bits .and .i64 (opUses op) 8 = 0
  · simp only [h8, if_true]
  · simp only [h8, if_false]
    by_cases h12 : op = 12
    · simp [h12]
    · by_cases h13 : op = 13
      · simp [h13]
      · by_cases h23 : op = 23
        · simp [h23]
        · simp [h12, h13, h23]
theorem may_eq (k : Nat) (op d s o m : Int) : code_may.f (k + 2) op d s o m = some (mayB op d s o m) := by
  unfold code_may.f mayB
  by_cases h1 : 1 ≤ op
  · by_cases h2 : op ≤ 24
    · rw [of_eq op h1 h2, if_pos h1, if_pos h2]
      simp only [Option.bind_some, if_true]
      by_cases h19 : op ≥ 19
      · simp only [h19, if_true, may_j0]
      · simp only [h19, if_false, may_j0]
    · rw [of_no op (by omega), if_pos h1, if_neg h2]
      simp
  · rw [of_no op (by omega), if_neg h1]
    simp

theorem ops24 (op : Int) (h1 : 1 ≤ op) (h2 : op ≤ 24) : op = 1 ∨ op = 2 ∨ op = 3 ∨ op = 4 ∨ op = 5 ∨ op = 6 ∨ op = 7 ∨ op = 8 ∨ op = 9 ∨ op = 10 ∨ op = 11 ∨ op = 12 ∨ op = 13 ∨ op = 14 ∨ op = 15 ∨ op = 16 ∨ op = 17 ∨ op = 18 ∨ op = 19 ∨ op = 20 ∨ op = 21 ∨ op = 22 ∨ op = 23 ∨ op = 24 := by omega
/-- What an Op uses, by the reference: four truths of the table's sum. -/
theorem uses_eq (k : Nat) (op : Int) (h1 : 1 ≤ op) (h2 : op ≤ 24) : cachetref05_Uses.f (k + 5) op =
    some (Go.bits .and .i64 (opUses op) 1 != 0, Go.bits .and .i64 (opUses op) 2 != 0, Go.bits .and .i64 (opUses op) 4 != 0, Go.bits .and .i64 (opUses op) 8 != 0, true) := by
  rcases ops24 op h1 h2 with h | h | h | h | h | h | h | h | h | h | h | h | h | h | h | h | h | h | h | h | h | h | h | h <;> subst h <;> rfl
theorem uses_no (k : Nat) (op : Int) (h : op < 1 ∨ 24 < op) : cachetref05_Uses.f (k + 5) op = some (false, false, false, false, false) := by
  simp only [cachetref05_Uses.f, cachetref05_Uses.j0, cachetref05_Uses.j1, cachetref05_Uses.j2, cachetref05_Uses.j3]
  simp [show op ≠ 1 by omega, show op ≠ 2 by omega, show op ≠ 3 by omega, show op ≠ 4 by omega, show op ≠ 5 by omega, show op ≠ 6 by omega, show op ≠ 7 by omega, show op ≠ 8 by omega, show op ≠ 9 by omega, show op ≠ 10 by omega, show op ≠ 11 by omega, show op ≠ 12 by omega, show op ≠ 13 by omega, show op ≠ 14 by omega, show op ≠ 15 by omega, show op ≠ 16 by omega, show op ≠ 17 by omega, show op ≠ 18 by omega, show op ≠ 19 by omega, show op ≠ 20 by omega, show op ≠ 21 by omega, show op ≠ 22 by omega, show op ≠ 23 by omega, show op ≠ 24 by omega]
def tail2 (op m : Int) : Bool := decide (¬ ((op = 12 ∨ op = 13) ∧ 31 < m)) && decide (op = 23 → m < 8)
def tail1 (op o : Int) : Bool := decide (¬ (16 ≤ op ∧ op ≤ 18 ∧ (o < -32768 ∨ 32767 < o)) ∧ ¬ (19 ≤ op ∧ (o < 0 ∨ 255 < o)))
def tail0 (d s : Int) : Bool := decide (0 ≤ d ∧ d ≤ 9 ∧ 0 ≤ s ∧ s ≤ 9)
theorem refmay_j2 (k : Nat) (x : Bool) (op d s o m y : Int) : cachetref05_May.j2 (k + 1) op x y d s o m = some (!x && tail2 op m) := by
  simp only [cachetref05_May.j2, tail2]
  cases x
  · simp only [Bool.false_eq_true, if_false, Bool.not_false, Bool.true_and]
    by_cases h12 : op = 12
    · subst h12
      by_cases hm : m > 31 <;> simp [hm] <;> omega
    · by_cases h13 : op = 13
      · subst h13
        by_cases hm : m > 31 <;> simp [hm] <;> omega
      · by_cases h23 : op = 23
        · subst h23
          simp
        · simp [h12, h13, h23]
  · simp
theorem refmay_j1 (k : Nat) (x : Bool) (op d s o m y : Int) : cachetref05_May.j1 (k + 2) op x y d s o m = some (!x && (tail1 op o && tail2 op m)) := by
  simp only [cachetref05_May.j1, refmay_j2]
  cases x
  · simp only [Bool.false_eq_true, if_false, Bool.not_false, Bool.true_and, Bool.not_true, Bool.false_and]
    by_cases h16 : op ≥ 16
    · by_cases h18 : op ≤ 18
      · have h19 : ¬ op ≥ 19 := by omega
        simp only [h16, h18, h19, if_true, if_false]
        by_cases c1 : o < -32768
        · rw [if_pos c1, show tail1 op o = false from decide_eq_false (by omega), Bool.false_and]
        · rw [if_neg c1]
          by_cases c2 : o > 32767
          · rw [if_pos c2, show tail1 op o = false from decide_eq_false (by omega), Bool.false_and]
          · rw [if_neg c2, show tail1 op o = true from decide_eq_true (by omega), Bool.true_and]
      · have h19 : op ≥ 19 := by omega
        simp only [h16, h18, h19, if_true, if_false]
        by_cases c1 : o < 0
        · rw [if_pos c1, show tail1 op o = false from decide_eq_false (by omega), Bool.false_and]
        · rw [if_neg c1]
          by_cases c2 : o > 255
          · rw [decide_eq_true c2, show tail1 op o = false from decide_eq_false (by omega)]; simp
          · rw [decide_eq_false c2, show tail1 op o = true from decide_eq_true (by omega)]; simp
    · have h19 : ¬ op ≥ 19 := by omega
      simp only [h16, h19, if_false]
      rw [show tail1 op o = true from decide_eq_true (by omega), Bool.true_and]
  · simp
theorem refmay_j0 (k : Nat) (x : Bool) (op d s o m y : Int) : cachetref05_May.j0 (k + 3) op x y d s o m = some (!x && (tail0 d s && (tail1 op o && tail2 op m))) := by
  simp only [cachetref05_May.j0, refmay_j1]
  cases x
  · simp only [Bool.false_eq_true, if_false, Bool.not_false, Bool.true_and, Bool.not_true, Bool.false_and]
    by_cases c1 : d < 0
    · rw [if_pos c1, show tail0 d s = false from decide_eq_false (by omega), Bool.false_and]
    · rw [if_neg c1]
      by_cases c2 : d > 9
      · rw [if_pos c2, show tail0 d s = false from decide_eq_false (by omega), Bool.false_and]
      · rw [if_neg c2]
        by_cases c3 : s < 0
        · rw [if_pos c3, show tail0 d s = false from decide_eq_false (by omega), Bool.false_and]
        · rw [if_neg c3]
          by_cases c4 : s > 9
          · rw [decide_eq_true c4, show tail0 d s = false from decide_eq_false (by omega)]; simp
          · rw [decide_eq_false c4, show tail0 d s = true from decide_eq_true (by omega)]; simp
  · simp
theorem opUses_vals (op : Int) (h1 : 1 ≤ op) (h2 : op ≤ 24) :
    (op = 23 ∧ opUses op = 8) ∨ (op = 24 ∧ opUses op = 0) ∨ (op = 19 ∧ opUses op = 4) ∨ (op = 22 ∧ opUses op = 7) ∨ ((op = 20 ∨ op = 21) ∧ opUses op = 13) ∨
    (16 ≤ op ∧ op ≤ 18 ∧ opUses op = 7) ∨ (op ≤ 15 ∧ op ≠ 12 ∧ op ≠ 13 ∧ (opUses op = 3 ∨ opUses op = 9)) ∨ ((op = 12 ∨ op = 13) ∧ opUses op = 9) := by
  rcases ops24 op h1 h2 with h | h | h | h | h | h | h | h | h | h | h | h | h | h | h | h | h | h | h | h | h | h | h | h <;> subst h <;> decide
theorem bits_8_1 : Go.bits .and .i64 8 1 = 0 := by decide
theorem bits_8_2 : Go.bits .and .i64 8 2 = 0 := by decide
theorem bits_8_4 : Go.bits .and .i64 8 4 = 0 := by decide
theorem bits_8_8 : Go.bits .and .i64 8 8 = 8 := by decide
theorem bits_0_1 : Go.bits .and .i64 0 1 = 0 := by decide
theorem bits_0_2 : Go.bits .and .i64 0 2 = 0 := by decide
theorem bits_0_4 : Go.bits .and .i64 0 4 = 0 := by decide
theorem bits_0_8 : Go.bits .and .i64 0 8 = 0 := by decide
theorem bits_4_1 : Go.bits .and .i64 4 1 = 0 := by decide
theorem bits_4_2 : Go.bits .and .i64 4 2 = 0 := by decide
theorem bits_4_4 : Go.bits .and .i64 4 4 = 4 := by decide
theorem bits_4_8 : Go.bits .and .i64 4 8 = 0 := by decide
theorem bits_7_1 : Go.bits .and .i64 7 1 = 1 := by decide
theorem bits_7_2 : Go.bits .and .i64 7 2 = 2 := by decide
theorem bits_7_4 : Go.bits .and .i64 7 4 = 4 := by decide
theorem bits_7_8 : Go.bits .and .i64 7 8 = 0 := by decide
theorem bits_13_1 : Go.bits .and .i64 13 1 = 1 := by decide
theorem bits_13_2 : Go.bits .and .i64 13 2 = 0 := by decide
theorem bits_13_4 : Go.bits .and .i64 13 4 = 4 := by decide
theorem bits_13_8 : Go.bits .and .i64 13 8 = 8 := by decide
theorem bits_3_1 : Go.bits .and .i64 3 1 = 1 := by decide
theorem bits_3_2 : Go.bits .and .i64 3 2 = 2 := by decide
theorem bits_3_4 : Go.bits .and .i64 3 4 = 0 := by decide
theorem bits_3_8 : Go.bits .and .i64 3 8 = 0 := by decide
theorem bits_9_1 : Go.bits .and .i64 9 1 = 1 := by decide
theorem bits_9_2 : Go.bits .and .i64 9 2 = 0 := by decide
theorem bits_9_4 : Go.bits .and .i64 9 4 = 0 := by decide
theorem bits_9_8 : Go.bits .and .i64 9 8 = 8 := by decide
theorem refmay_eq (k : Nat) (op d s o m : Int) (h0 : 0 ≤ m) (h1 : m ≤ 4294967295) : cachetref05_May.f (k + 5) op d s o m = some (mayB op d s o m) := by
  unfold cachetref05_May.f
  by_cases h : 1 ≤ op ∧ op ≤ 24
  · rw [uses_eq k op h.1 h.2]
    simp only [Option.bind_some, refmay_j0, if_true, Bool.not_false, Bool.true_and, Bool.not_true, Bool.false_and]
    unfold mayB W most
    rw [if_pos h.1, if_pos h.2]
    rcases opUses_vals op h.1 h.2 with ⟨e, u⟩ | ⟨e, u⟩ | ⟨e, u⟩ | ⟨e, u⟩ | ⟨e, u⟩ | ⟨e1, e2, u⟩ | ⟨e1, e2, e3, u | u⟩ | ⟨e, u⟩
    · rw [u]
      simp only [bits_8_1, bits_8_2, bits_8_4, bits_8_8, bne_self_eq_false, Int.reduceBNe, Bool.false_eq_true, if_true, if_false, ite_some_and, Int.reduceEq, reduceIte]
      refine congrArg some ?_
      rw [Bool.eq_iff_iff]
      simp only [tail0, tail1, tail2, Bool.and_eq_true, Bool.not_eq_true', decide_eq_true_eq, beq_iff_eq, bne_eq_false_iff_eq]
      first | omega | (simp; omega)
    · rw [u]
      simp only [bits_0_1, bits_0_2, bits_0_4, bits_0_8, bne_self_eq_false, Int.reduceBNe, Bool.false_eq_true, if_true, if_false, ite_some_and, Int.reduceEq, reduceIte]
      refine congrArg some ?_
      rw [Bool.eq_iff_iff]
      simp only [tail0, tail1, tail2, Bool.and_eq_true, Bool.not_eq_true', decide_eq_true_eq, beq_iff_eq, bne_eq_false_iff_eq]
      first | omega | (simp; omega)
    · rw [u]
      simp only [bits_4_1, bits_4_2, bits_4_4, bits_4_8, bne_self_eq_false, Int.reduceBNe, Bool.false_eq_true, if_true, if_false, ite_some_and, Int.reduceEq, reduceIte]
      refine congrArg some ?_
      rw [Bool.eq_iff_iff]
      simp only [tail0, tail1, tail2, Bool.and_eq_true, Bool.not_eq_true', decide_eq_true_eq, beq_iff_eq, bne_eq_false_iff_eq]
      first | omega | (simp; omega)
    · rw [u]
      simp only [bits_7_1, bits_7_2, bits_7_4, bits_7_8, bne_self_eq_false, Int.reduceBNe, Bool.false_eq_true, if_true, if_false, ite_some_and, Int.reduceEq, reduceIte]
      refine congrArg some ?_
      rw [Bool.eq_iff_iff]
      simp only [tail0, tail1, tail2, Bool.and_eq_true, Bool.not_eq_true', decide_eq_true_eq, beq_iff_eq, bne_eq_false_iff_eq]
      first | omega | (simp; omega)
    · rw [u]
      simp only [bits_13_1, bits_13_2, bits_13_4, bits_13_8, bne_self_eq_false, Int.reduceBNe, Bool.false_eq_true, if_true, if_false, ite_some_and, Int.reduceEq, reduceIte]
      refine congrArg some ?_
      rw [Bool.eq_iff_iff]
      simp only [tail0, tail1, tail2, Bool.and_eq_true, Bool.not_eq_true', decide_eq_true_eq, beq_iff_eq, bne_eq_false_iff_eq]
      first | omega | (simp; omega)
    · rw [u]
      simp only [bits_7_1, bits_7_2, bits_7_4, bits_7_8, bne_self_eq_false, Int.reduceBNe, Bool.false_eq_true, if_true, if_false, ite_some_and, Int.reduceEq, reduceIte]
      refine congrArg some ?_
      rw [Bool.eq_iff_iff]
      simp only [tail0, tail1, tail2, Bool.and_eq_true, Bool.not_eq_true', decide_eq_true_eq, beq_iff_eq, bne_eq_false_iff_eq]
      first | omega | (simp; omega)
    · rw [u]
      simp only [bits_3_1, bits_3_2, bits_3_4, bits_3_8, bne_self_eq_false, Int.reduceBNe, Bool.false_eq_true, if_true, if_false, ite_some_and, Int.reduceEq, reduceIte]
      refine congrArg some ?_
      rw [Bool.eq_iff_iff]
      simp only [tail0, tail1, tail2, Bool.and_eq_true, Bool.not_eq_true', decide_eq_true_eq, beq_iff_eq, bne_eq_false_iff_eq]
      first | omega | (simp; omega)
    · rw [u]
      simp only [bits_9_1, bits_9_2, bits_9_4, bits_9_8, bne_self_eq_false, Int.reduceBNe, Bool.false_eq_true, if_true, if_false, ite_some_and, Int.reduceEq, reduceIte]
      refine congrArg some ?_
      rw [Bool.eq_iff_iff]
      simp only [tail0, tail1, tail2, Bool.and_eq_true, Bool.not_eq_true', decide_eq_true_eq, beq_iff_eq, bne_eq_false_iff_eq]
      first | omega | (simp; omega)
    · rw [u]
      simp only [bits_9_1, bits_9_2, bits_9_4, bits_9_8, bne_self_eq_false, Int.reduceBNe, Bool.false_eq_true, if_true, if_false, ite_some_and, Int.reduceEq, reduceIte]
      refine congrArg some ?_
      rw [Bool.eq_iff_iff]
      simp only [tail0, tail1, tail2, Bool.and_eq_true, Bool.not_eq_true', decide_eq_true_eq, beq_iff_eq, bne_eq_false_iff_eq]
      first | omega | (simp; omega)
  · rw [uses_no k op (by omega)]
    simp only [Option.bind_some, Bool.false_eq_true, if_false, mayB, refmay_j0, Bool.not_true, Bool.false_and]
    by_cases h2 : 1 ≤ op
    · rw [if_pos h2, if_neg (by omega)]
    · rw [if_neg h2]

/-! The check of a whole extension -/
abbrev SI := S36
def mayS (x : SI) : Bool := mayB x.f0 x.f1 x.f2 x.f3 x.f4
def wfS (x : SI) : Prop := 0 ≤ x.f4 ∧ x.f4 ≤ 4294967295
theorem may_eqS (k : Nat) (x : SI) : code_may.f (k + 2) x.f0 x.f1 x.f2 x.f3 x.f4 = some (mayS x) := may_eq k _ _ _ _ _
theorem refmay_eqS (k : Nat) (x : SI) (h : wfS x) : cachetref05_May.f (k + 5) x.f0 x.f1 x.f2 x.f3 x.f4 = some (mayS x) := refmay_eq k _ _ _ _ _ h.1 h.2
def checkN (a : Int) (l : List SI) : Int := if a < 0 ∨ 256 < a then 2 else if l.all mayS then (if 256 < l.length then 3 else 0) else 2
theorem wrap_small (x : Int) (h0 : -9223372036854775808 ≤ x) (h1 : x ≤ 9223372036854775807) : wrap64 x = x := by unfold wrap64; omega
theorem rd_at (l : List SI) (i : Nat) (h : i < l.length) : rd_T36 l (i : Int) = l[i] := by
  simp [rd_T36, List.getD_eq_getElem?_getD, List.getElem?_eq_getElem h]
theorem drop_at {α : Type} (l : List α) (i : Nat) (h : i < l.length) : l.drop i = l[i] :: l.drop (i + 1) := List.drop_eq_getElem_cons h
theorem check_l0 (a : Int) (l : List SI) (hb : l.length ≤ 9000000000000000000) (d : Nat) : ∀ (i k : Nat), i ≤ l.length → l.length - i = d → d < k →
    code_Check.l0 (k + 2) 2 l (l.length : Int) (i : Int) a l = some (if (l.drop i).all mayS then (if 256 < l.length then 3 else 0) else 2) := by
  induction d with
  | zero =>
    intro i k h0 h1 h2
    have e : i = l.length := by omega
    subst e
    simp only [code_Check.l0, List.drop_length, List.all_nil, if_true]
    rw [if_neg (by omega)]
    by_cases c : 256 < l.length
    · rw [if_pos (by omega), if_pos c]
    · rw [if_neg (by omega), if_neg c]
  | succ d ih =>
    intro i k h0 h1 h2
    obtain ⟨k, rfl⟩ : ∃ m, k = m + 1 := ⟨k - 1, by omega⟩
    have hlt : i < l.length := by omega
    show code_Check.l0 ((k + 2) + 1) 2 l (l.length : Int) (i : Int) a l = _
    rw [code_Check.l0, if_pos (by omega), if_pos (by omega), if_pos (by omega), rd_at l i hlt, may_eqS k, drop_at l i hlt, List.all_cons]
    simp only [Option.bind_some]
    by_cases c : mayS l[i] = true
    · rw [if_pos c, c, Bool.true_and, wrap_small _ (by omega) (by omega)]
      exact ih (i + 1) k (by omega) (by omega) (by omega)
    · rw [if_neg c, Bool.eq_false_iff.2 c, Bool.false_and]
      rfl
theorem check_eq (k : Nat) (a : Int) (l : List SI) (hb : l.length ≤ 9000000000000000000) (hk : l.length + 4 ≤ k) : code_Check.f k a l = some (checkN a l) := by
  obtain ⟨k, rfl⟩ : ∃ m, k = m + 4 := ⟨k - 4, by omega⟩
  unfold code_Check.f checkN
  by_cases h1 : a < 0
  · rw [if_pos h1, if_pos (.inl h1)]
    rfl
  · rw [if_neg h1]
    by_cases h2 : 256 < a
    · rw [decide_eq_true (show a > 256 from h2), if_pos (.inr h2)]
      rfl
    · rw [decide_eq_false (show ¬ a > 256 from h2), if_neg (by omega)]
      simp only [code_Check.j0, Bool.false_eq_true, if_false]
      exact check_l0 a l hb l.length 0 (k + 1) (by omega) (by omega) (by omega)
/-- What the statements all ask beside. -/
theorem known_true : cachetlaw05_known.f = some true := by decide +kernel
/-- What Encode answers. -/
theorem encode_eq (a : Int) (l : List SI) (hb : l.length ≤ 9000000000000000000) : code_Encode.f a l = some (if checkN a l = 0 then encN a l else [], checkN a l) := by
  unfold code_Encode.f
  rw [check_eq _ a l hb (by omega)]
  simp only [Option.bind_some]
  by_cases c : checkN a l = 0
  · have hl : l.length ≤ 256 := by
      unfold checkN at c
      by_cases h1 : a < 0 ∨ 256 < a
      · rw [if_pos h1] at c; omega
      · rw [if_neg h1] at c
        by_cases h2 : l.all mayS
        · rw [if_pos h2] at c
          by_cases h3 : 256 < l.length
          · rw [if_pos h3] at c; omega
          · omega
        · rw [if_neg h2] at c; omega
    rw [if_pos c, if_pos c, if_pos hl, c]
  · rw [if_neg c, if_neg c]
theorem known_bind : (cachetlaw05_known.f.bind fun t => some t) = some true := by rw [known_true]; rfl
end Go.Proofs.YthkepoimagnagaaDoor.Plain
