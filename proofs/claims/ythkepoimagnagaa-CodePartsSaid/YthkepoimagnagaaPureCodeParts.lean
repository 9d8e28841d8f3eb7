/- Each part of an instruction is checked as the document says: whatever the Op and the numbers, the statement CodeParts answers true. No condition. -/
import Derived.Test.YthkepoimagnagaaKx8
import Derived.Test.YthkepoimagnagaaPlainA
import Derived.DataShut
namespace Go.Proofs.Ythkepoimagnagaa.Pure
open Go.RowKit Go.Proofs.Ythkepoimagnagaa.K Go.Proofs.Ythkepoimagnagaa.Plain Go.Proofs.YthkepoimagnagaaW.PrintWords Go.Proofs.YthkepoimagnagaaW.PrintLast

theorem check_one (x : SI) : checkN 0 [x] = if mayS x then 0 else 2 := by
  unfold checkN
  rw [if_neg (by omega)]
  simp
theorem parts_l0 (l : List SI) (hw : ∀ x ∈ l, wfS x) (hb : l.length ≤ 1000) (d : Nat) : ∀ (i k : Nat), i ≤ l.length → l.length - i = d → d < k →
    cachetlaw05_CodeParts.l0 (k + 8) l (i : Int) = some true := by
  induction d with
  | zero =>
    intro i k h0 h1 h2
    have e : i = l.length := by omega
    subst e
    rw [cachetlaw05_CodeParts.l0, if_neg (by omega), known_true]
    rfl
  | succ d ih =>
    intro i k h0 h1 h2
    obtain ⟨k, rfl⟩ : ∃ m, k = m + 1 := ⟨k - 1, by omega⟩
    have hlt : i < l.length := by omega
    have hx := hw l[i] (List.getElem_mem hlt)
    show cachetlaw05_CodeParts.l0 ((k + 8) + 1) l (i : Int) = _
    rw [cachetlaw05_CodeParts.l0, if_pos (by omega), if_pos (by omega), rd_at l i hlt, refmay_eqS (k + 3) _ hx]
    simp only [Option.bind_some]
    rw [show (⟨l[i].f0, l[i].f1, l[i].f2, l[i].f3, l[i].f4⟩ : SI) = l[i] from rfl, check_eq (k + 8) 0 [l[i]] (by simp) (by simp), check_one]
    simp only [Option.bind_some]
    rw [Plain.wrap_small _ (by omega) (by omega)]
    have h := ih (i + 1) k (by omega) (by omega) (by omega)
    by_cases c : mayS l[i] = true
    · rw [if_pos c, if_pos c, if_pos rfl]
      exact h
    · rw [if_neg c, if_neg c, if_pos rfl]
      exact h
theorem CodeParts : cachetlaw05_CodeParts.Pure := by
  intro op n m h1 h2 h3
  have hm : 0 ≤ m ∧ m ≤ 4294967295 := by
    have h := (Lit.wf_int_iff _ _).1 h3
    rw [show IntKind.u32.min = 0 from rfl, show IntKind.u32.max = 4294967295 from rfl] at h
    exact h
  refine ⟨20, ?_⟩
  unfold cachetlaw05_CodeParts.f
  have key : ∀ b : Bool, cachetlaw05_CodeParts.j0 20 op n m b = some true := by
    intro b
    rw [cachetlaw05_CodeParts.j0]
    cases b
    · rw [if_neg (by decide)]
      refine parts_l0 _ ?_ (by simp) 7 0 11 (by simp) (by simp) (by omega)
      intro x hx
      simp only [List.mem_cons, List.not_mem_nil, or_false] at hx
      rcases hx with rfl | rfl | rfl | rfl | rfl | rfl | rfl <;> constructor <;> (show _ ≤ _) <;> first | omega | (simp; done) | (simp; omega)
    · rw [if_pos rfl, known_true]
      rfl
  by_cases c : op < -2
  · rw [if_pos c]; exact key _
  · rw [if_neg c]; exact key _
end Go.Proofs.Ythkepoimagnagaa.Pure
