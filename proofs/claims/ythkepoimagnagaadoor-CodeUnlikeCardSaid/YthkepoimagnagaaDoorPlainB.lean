/- Plain law: an extension's bytes, written and read, are one function of the extension and of the bytes. Conditions: numbers are of their kinds. -/
import Derived.Test.YthkepoimagnagaaDoorPlainA
import Derived.Test.YthkepoimagnagaaDoorKx26
import Derived.Laws.Strings
import Derived.Laws.BitsLemmas
namespace Go.Proofs.YthkepoimagnagaaDoor.Plain
open Go.RowKit Go.Proofs.YthkepoimagnagaaDoor.K Go.Proofs.YthkepoimagnagaaDoorW.PrintWords Go.Proofs.YthkepoimagnagaaDoorW.PrintLast
set_option linter.unusedVariables false
set_option linter.unusedSimpArgs false

/-! Numbers as bytes -/
def b2 (n : Int) : List Int := [n % 256, n / 256 % 256]
def b4 (n : Int) : List Int := [n % 256, n / 256 % 256, n / 65536 % 256, n / 16777216 % 256]
theorem tm (n : Int) (h : 0 ≤ n) : Int.tmod n 256 % 256 = n % 256 := by rw [Int.tmod_eq_emod_of_nonneg h]; omega
theorem td (n : Int) (h : 0 ≤ n) : Int.tdiv n 256 = n / 256 := Int.tdiv_eq_ediv_of_nonneg h
theorem le2_eq (n : Int) (h0 : 0 ≤ n) (h1 : n ≤ 4294967295) : le2 n = b2 n := by
  unfold le2 b2
  rw [tm n h0, td n h0, Int.emod_eq_of_lt (a := n / 256) (b := 4294967296) (by omega) (by omega), tm _ (by omega)]
theorem le4_eq (n : Int) (h0 : 0 ≤ n) (h1 : n ≤ 4294967295) : le4 n = b4 n := by
  unfold le4 b4
  rw [tm n h0, td n h0, Int.emod_eq_of_lt (a := n / 256) (b := 4294967296) (by omega) (by omega), tm _ (by omega), td _ (by omega), Int.emod_eq_of_lt (a := n / 256 / 256) (b := 4294967296) (by omega) (by omega), tm _ (by omega), td _ (by omega),
    Int.emod_eq_of_lt (a := n / 256 / 256 / 256) (b := 4294967296) (by omega) (by omega), tm _ (by omega), show n / 256 / 256 = n / 65536 by omega, show n / 65536 / 256 = n / 16777216 by omega]
def byteI (b : Int) : Prop := 0 ≤ b ∧ b ≤ 255
/-- 'n & 0xffff' is n modulo 65536, below 0 too. -/
theorem and16 (n : Int) : Go.bits .and .i64 n 65535 = n % 65536 := by
  have h1 : (BitVec.ofInt 64 65535).toNat = 2 ^ 16 - 1 := by decide
  have h2 : ((BitVec.ofInt 64 n).toNat : Int) = n % 18446744073709551616 := by
    rw [BitVec.toNat_ofInt]
    have : (0 : Int) ≤ n % 18446744073709551616 := by omega
    first | (simp; done) | (simp; omega)
  show IntKind.i64.wrap (((BitVec.ofInt 64 n &&& BitVec.ofInt 64 65535).toNat : Nat) : Int) = n % 65536
  rw [BitVec.toNat_and, h1, Nat.and_two_pow_sub_one_eq_mod]
  have h3 : (((BitVec.ofInt 64 n).toNat % 2 ^ 16 : Nat) : Int) = n % 65536 := by
    rw [Int.natCast_emod, h2]
    first | (simp; done) | (simp; omega)
  rw [h3, IntKind.wrap_i64]
  omega

/-! An instruction's bytes, and the instruction of eight bytes -/
def insN (x : SI) : List Int := [x.f0, 16 * x.f1 + x.f2] ++ b2 (if x.f3 < 0 then x.f3 + 65536 else x.f3) ++ b4 x.f4
def sgn (n : Int) : Int := if n ≥ 32768 then n - 65536 else n
def decIns (c0 c1 c2 c3 c4 c5 c6 c7 : Int) : SI := ⟨c0, c1 / 16, c1 % 16, sgn (c2 + 256 * c3), c4 + 256 * c5 + 65536 * c6 + 16777216 * c7⟩
def decL : List Int → List SI
  | c0 :: c1 :: c2 :: c3 :: c4 :: c5 :: c6 :: c7 :: r => decIns c0 c1 c2 c3 c4 c5 c6 c7 :: decL r
  | _ => []
theorem w_09 (u : Bool) (n : Int) (h : W u n 0 9 = true) : 0 ≤ n ∧ n ≤ 9 := by
  unfold W at h
  cases u
  · simp at h; omega
  · simp at h; omega
theorem may_facts (x : SI) (h : mayS x = true) : 1 ≤ x.f0 ∧ x.f0 ≤ 24 ∧ 0 ≤ x.f1 ∧ x.f1 ≤ 9 ∧ 0 ≤ x.f2 ∧ x.f2 ≤ 9 ∧ -32768 ≤ x.f3 ∧ x.f3 ≤ 32767 := by
  unfold mayS mayB at h
  by_cases c1 : 1 ≤ x.f0
  · rw [if_pos c1] at h
    by_cases c2 : x.f0 ≤ 24
    · rw [if_pos c2] at h
      simp only [Bool.and_eq_true] at h
      obtain ⟨h1, h2, h3, _⟩ := h
      have g1 := w_09 _ _ h1
      have g2 := w_09 _ _ h2
      have g3 : -32768 ≤ x.f3 ∧ x.f3 ≤ 32767 := by
        unfold W at h3
        by_cases c : (Go.bits .and .i64 (opUses x.f0) 4 != 0) = true
        · rw [if_pos c] at h3
          simp only [Bool.and_eq_true, decide_eq_true_eq] at h3
          by_cases c19 : x.f0 ≥ 19
          · rw [if_pos c19, if_pos c19] at h3; omega
          · rw [if_neg c19, if_neg c19] at h3; omega
        · rw [if_neg c] at h3
          simp at h3
          omega
      exact ⟨c1, c2, g1.1, g1.2, g2.1, g2.2, g3.1, g3.2⟩
    · rw [if_neg c2] at h; cases h
  · rw [if_neg c1] at h; cases h
theorem insB_eq (x : SI) (h : mayS x = true) (hw : wfS x) : insB x = insN x := by
  obtain ⟨h1, h2, h3, h4, h5, h6, h7, h8⟩ := may_facts x h
  obtain ⟨m0, m1⟩ := hw
  unfold insB insN
  rw [and16, Int.emod_eq_of_lt (a := x.f3 % 65536) (b := 4294967296) (by omega) (by omega), le2_eq _ (by omega) (by omega), le4_eq _ m0 m1, Plain.wrap_small (x.f1 * 16) (by omega) (by omega), Plain.wrap_small _ (by omega) (by omega),
    Int.emod_eq_of_lt (a := x.f0) (by omega) (by omega), Int.emod_eq_of_lt (a := x.f1 * 16 + x.f2) (by omega) (by omega), show x.f1 * 16 + x.f2 = 16 * x.f1 + x.f2 by omega]
  by_cases c : x.f3 < 0
  · rw [if_pos c, show x.f3 % 65536 = x.f3 + 65536 by omega]
  · rw [if_neg c, show x.f3 % 65536 = x.f3 by omega]
theorem dec_ins (x : SI) (h : mayS x = true) (hw : wfS x) (r : List Int) : decL (insN x ++ r) = x :: decL r := by
  obtain ⟨h1, h2, h3, h4, h5, h6, h7, h8⟩ := may_facts x h
  obtain ⟨m0, m1⟩ := hw
  show decIns x.f0 (16 * x.f1 + x.f2) _ _ _ _ _ _ :: decL r = x :: decL r
  refine congrArg (· :: decL r) ?_
  unfold decIns sgn
  have e1 : (16 * x.f1 + x.f2) / 16 = x.f1 := by omega
  have e2 : (16 * x.f1 + x.f2) % 16 = x.f2 := by omega
  have e4 : x.f4 % 256 + 256 * (x.f4 / 256 % 256) + 65536 * (x.f4 / 65536 % 256) + 16777216 * (x.f4 / 16777216 % 256) = x.f4 := by omega
  rw [e1, e2, e4]
  by_cases c : x.f3 < 0
  · rw [if_pos c, if_pos (by omega), show (x.f3 + 65536) % 256 + 256 * ((x.f3 + 65536) / 256 % 256) - 65536 = x.f3 by omega]
  · rw [if_neg c, if_neg (by omega), show x.f3 % 256 + 256 * (x.f3 / 256 % 256) = x.f3 by omega]
theorem dec_flat (l : List SI) (h : l.all mayS = true) (hw : ∀ x ∈ l, wfS x) : decL (l.flatMap insN) = l := by
  induction l with
  | nil => rfl
  | cons x l ih =>
    rw [List.all_cons, Bool.and_eq_true] at h
    rw [List.flatMap_cons, dec_ins x h.1 (hw x (List.mem_cons_self ..)), ih h.2 fun y hy => hw y (List.mem_cons_of_mem _ hy)]
theorem flatN_length (l : List SI) : (l.flatMap insN).length = 8 * l.length := by
  induction l with
  | nil => rfl
  | cons x l ih => rw [List.flatMap_cons, List.length_append, ih]; show 8 + _ = _; rw [List.length_cons]; omega
theorem flat_eq (l : List SI) (h : l.all mayS = true) (hw : ∀ x ∈ l, wfS x) : l.flatMap insB = l.flatMap insN := by
  induction l with
  | nil => rfl
  | cons x l ih =>
    rw [List.all_cons, Bool.and_eq_true] at h
    rw [List.flatMap_cons, List.flatMap_cons, insB_eq x h.1 (hw x (List.mem_cons_self ..)), ih h.2 fun y hy => hw y (List.mem_cons_of_mem _ hy)]
def bytesN (a : Int) (l : List SI) : List Int := [67, 88] ++ b2 a ++ b2 (l.length : Int) ++ l.flatMap insN
theorem check_zero (a : Int) (l : List SI) (h : checkN a l = 0) : 0 ≤ a ∧ a ≤ 256 ∧ l.all mayS = true ∧ l.length ≤ 256 := by
  unfold checkN at h
  by_cases h1 : a < 0 ∨ 256 < a
  · rw [if_pos h1] at h; omega
  · rw [if_neg h1] at h
    by_cases h2 : l.all mayS = true
    · rw [if_pos h2] at h
      by_cases h3 : 256 < l.length
      · rw [if_pos h3] at h; omega
      · exact ⟨by omega, by omega, h2, by omega⟩
    · rw [if_neg h2] at h; omega
theorem encN_eq (a : Int) (l : List SI) (h : checkN a l = 0) (hw : ∀ x ∈ l, wfS x) : encN a l = bytesN a l := by
  obtain ⟨h1, h2, h3, h4⟩ := check_zero a l h
  unfold encN bytesN
  rw [flat_eq l h3 hw, Int.emod_eq_of_lt (a := a) (by omega) (by omega), Int.emod_eq_of_lt (a := (l.length : Int)) (by omega) (by omega), le2_eq _ h1 (by omega), le2_eq _ (by omega) (by omega)]

/-- Same of one and the same. -/
theorem same_l0 (a : Int) (l : List SI) (hb : l.length ≤ 9000000000000000000) (d : Nat) : ∀ (i k : Nat), i ≤ l.length → l.length - i = d → d < k → cachetref05_Same.l0 k (i : Int) a l a l = some true := by
  induction d with
  | zero =>
    intro i k h0 h1 h2
    obtain ⟨k, rfl⟩ : ∃ m, k = m + 1 := ⟨k - 1, by omega⟩
    rw [cachetref05_Same.l0, if_neg (by omega)]
  | succ d ih =>
    intro i k h0 h1 h2
    obtain ⟨k, rfl⟩ : ∃ m, k = m + 1 := ⟨k - 1, by omega⟩
    rw [cachetref05_Same.l0, if_pos (by omega), if_pos (by omega), if_pos (by omega), if_neg (by simp), Plain.wrap_small _ (by omega) (by omega)]
    exact ih (i + 1) k (by omega) (by omega) (by omega)
theorem same_eq (k : Nat) (a : Int) (l : List SI) (hb : l.length ≤ 9000000000000000000) (hk : l.length + 3 ≤ k) : cachetref05_Same.f k a l a l = some true := by
  obtain ⟨k, rfl⟩ : ∃ m, k = m + 1 := ⟨k - 1, by omega⟩
  unfold cachetref05_Same.f
  rw [if_pos rfl, cachetref05_Same.j0, if_neg (by simp)]
  exact same_l0 a l hb l.length 0 k (by omega) (by omega) (by omega)
end Go.Proofs.YthkepoimagnagaaDoor.Plain
