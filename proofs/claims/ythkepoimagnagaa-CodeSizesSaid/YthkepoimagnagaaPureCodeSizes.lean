/- Contexts' sizes and numbers of instructions, at their bounds: the statement CodeSizes answers true of any two numbers. No condition. -/
import Derived.Test.YthkepoimagnagaaPlainF
import Derived.Test.YthkepoimagnagaaKx26
namespace Go.Proofs.Ythkepoimagnagaa.Pure
open Go.RowKit Go.Proofs.Ythkepoimagnagaa.K Go.Proofs.Ythkepoimagnagaa.Plain Go.Proofs.YthkepoimagnagaaW.PrintWords Go.Proofs.YthkepoimagnagaaW.PrintLast
theorem sizes_l0 (n : Nat) (hn : n ≤ 300) (a : Int) (d : Nat) : ∀ (i : Nat) (l : List SI), l.length = n → (∀ x ∈ l, wfS x) → i ≤ n → n - i = d → ∃ k, cachetlaw05_CodeSizes.l0 k (n : Int) (i : Int) a l = some true := by
  induction d with
  | zero =>
    intro i l hl hw h0 h1
    obtain ⟨k, hk⟩ := bytes_true a l hw
    refine ⟨k + 1, ?_⟩
    rw [cachetlaw05_CodeSizes.l0, if_neg (by omega), hk]
    rfl
  | succ d ih =>
    intro i l hl hw h0 h1
    have hr : wfS (rd_T26 l (i : Int)) := by rw [rd_at l i (by omega)]; exact hw _ (List.getElem_mem _)
    obtain ⟨k, hk⟩ := ih (i + 1) (l.set i ⟨24, (rd_T26 l (i : Int)).f1, (rd_T26 l (i : Int)).f2, (rd_T26 l (i : Int)).f3, (rd_T26 l (i : Int)).f4⟩) (by rw [List.length_set]; exact hl) (by
      intro x hx
      rcases List.mem_or_eq_of_mem_set hx with hx | hx
      · exact hw x hx
      · subst hx; exact hr) (by omega) (by omega)
    refine ⟨k + 1, ?_⟩
    rw [cachetlaw05_CodeSizes.l0, if_pos (by omega), if_pos (by omega), if_pos (by omega), Plain.wrap_small _ (by omega) (by omega), Int.toNat_natCast]
    exact hk
theorem CodeSizes : cachetlaw05_CodeSizes.Pure := by
  intro a n h1 h2
  have out : ∀ k, cachetlaw05_CodeSizes.j0 (k + 1) a n true = some true := fun k => by rw [cachetlaw05_CodeSizes.j0, if_pos rfl, known_bind]
  unfold cachetlaw05_CodeSizes.f
  by_cases c : n < 0
  · exact ⟨1, by rw [if_pos c]; exact out 0⟩
  · by_cases c2 : n > 300
    · exact ⟨1, by rw [if_neg c, decide_eq_true c2]; exact out 0⟩
    · obtain ⟨m, rfl⟩ := Int.eq_ofNat_of_zero_le (show 0 ≤ n by omega)
      obtain ⟨k, hk⟩ := sizes_l0 m (by omega) a m 0 (List.replicate m z26) (by simp) (by
        intro x hx
        obtain ⟨_, rfl⟩ := List.mem_replicate.1 hx
        show 0 ≤ (0 : Int) ∧ (0 : Int) ≤ 4294967295
        omega) (by omega) (by omega)
      refine ⟨k + 1, ?_⟩
      rw [if_neg c, decide_eq_false c2, cachetlaw05_CodeSizes.j0, if_neg (by decide), if_pos (by omega), Int.toNat_natCast, if_pos (by omega)]
      exact hk
end Go.Proofs.Ythkepoimagnagaa.Pure
