/- Plain law: the statement CodeBytes answers true of any extension. Conditions: numbers are of their kinds. -/
import Derived.Test.YthkepoimagnagaaPlainC
import Derived.Test.YthkepoimagnagaaPlainE
import Derived.Test.YthkepoimagnagaaKx22
namespace Go.Proofs.Ythkepoimagnagaa.Plain
open Go.RowKit Go.Proofs.Ythkepoimagnagaa.K Go.Proofs.YthkepoimagnagaaW.PrintWords Go.Proofs.YthkepoimagnagaaW.PrintLast
set_option linter.unusedVariables false
set_option linter.unusedSimpArgs false
theorem bytes_true (a : Int) (l : List SI) (hw : ∀ x ∈ l, wfS x) : ∃ k, cachetlaw05_CodeBytes.f k a l = some true := by
  refine ⟨8 * l.length + 60, ?_⟩
  unfold cachetlaw05_CodeBytes.f
  by_cases h : (l.length : Int) > 300
  · rw [if_pos h, known_bind]
  · rw [if_neg h, refcheck_eq _ a l hw (by omega) (by omega), encode_eq a l (by omega), check_eq _ a l (by omega) (by omega)]
    simp only [Option.bind_some]
    rw [if_pos trivial, cachetlaw05_CodeBytes.j0, if_neg (by simp)]
    by_cases hz : checkN a l = 0
    · obtain ⟨h0, h1, hm, hl⟩ := check_zero a l hz
      have hbl := bytesN_length a l
      rw [if_pos hz, if_pos hz, encN_eq a l hz hw, decode_eq _ _ (bytesN_bytes a l h0 h1 hm hw) (by omega) (by omega), refbytes_eq _ a l h0 (by omega) hm hw (by omega) (by omega), read_write a l hz hw]
      simp only [Option.bind_some]
      rw [if_pos trivial, if_pos trivial, same_eq _ a l (by omega) (by omega)]
      simp only [Option.bind_some]
      rw [if_pos trivial, known_bind]
    · rw [if_neg hz, if_neg hz, if_pos (by simp), known_bind]
end Go.Proofs.Ythkepoimagnagaa.Plain
