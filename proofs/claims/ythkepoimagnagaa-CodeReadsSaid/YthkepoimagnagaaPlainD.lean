/- Plain law: the statements CodeReads and CodeBytes answer true of any bytes, of any extension. Conditions: numbers are of their kinds. -/
import Derived.Test.YthkepoimagnagaaPlainR
import Derived.Test.YthkepoimagnagaaKx25
namespace Go.Proofs.Ythkepoimagnagaa.Plain
open Go.RowKit Go.Proofs.Ythkepoimagnagaa.K Go.Proofs.YthkepoimagnagaaW.PrintWords Go.Proofs.YthkepoimagnagaaW.PrintLast
set_option linter.unusedVariables false
theorem decL_le : ∀ n (x : List Int), x.length ≤ n → (decL x).length ≤ n
  | 0, x, h => by
    obtain rfl : x = [] := List.eq_nil_of_length_eq_zero (by omega)
    simp [decL]
  | n + 1, x, h => by
    unfold decL
    split
    · rename_i r
      simp only [List.length_cons] at h ⊢
      have := decL_le n r (by omega)
      omega
    · simp
theorem readN_len (l : List Int) : (readN l).2.1.length ≤ l.length := by
  by_cases h6 : l.length < 6
  · rw [readN_short l h6]; simp
  · obtain ⟨c0, c1, s0, s1, n0, n1, r, rfl⟩ := six l (by omega)
    simp only [readN]
    have h := decL_le r.length r (Nat.le_refl _)
    split
    · unfold fin
      split
      · show (decL r).length ≤ _
        simp only [List.length_cons]; omega
      · simp
    · simp
theorem reads_true (l : List Int) (hb : bytesI l) : ∃ k, cachetlaw05_CodeReads.f k l = some true := by
  refine ⟨l.length + 30, ?_⟩
  unfold cachetlaw05_CodeReads.f
  by_cases h : (l.length : Int) > 2100
  · rw [if_pos h, known_bind]
  · rw [if_neg h, decode_eq _ l hb (by omega) (by omega), read_eq _ l hb (by omega) (by omega)]
    simp only [Option.bind_some]
    rw [if_pos trivial, same_eq _ _ _ (by have := readN_len l; omega) (by have := readN_len l; omega)]
    simp only [Option.bind_some]
    rw [cachetlaw05_CodeReads.j0, if_neg (by decide)]
    by_cases hz : (readN l).2.2 = 0
    · obtain ⟨hc, hw, he⟩ := write_read l hb hz
      rw [if_pos hz, encode_eq _ _ (by have := readN_len l; omega), if_pos hc]
      simp only [Option.bind_some]
      rw [if_pos hc, encN_eq _ _ hc hw, he, if_pos rfl, known_bind]
    · rw [if_neg hz, known_bind]
end Go.Proofs.Ythkepoimagnagaa.Plain
