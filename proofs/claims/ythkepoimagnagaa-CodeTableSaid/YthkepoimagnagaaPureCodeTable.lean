/- Each Op has a name, and no two have the same one: whatever the number beside them, the statement CodeTable answers true. No condition. -/
import Derived.Test.YthkepoimagnagaaKx8
import Derived.Test.YthkepoimagnagaaPlainA
import Derived.Laws.Strings
import Derived.DataShut
namespace Go.Proofs.Ythkepoimagnagaa.Pure
open Go.RowKit Go.Proofs.Ythkepoimagnagaa.K Go.Proofs.Ythkepoimagnagaa.Plain Go.Proofs.YthkepoimagnagaaW.PrintWords Go.Proofs.YthkepoimagnagaaW.PrintLast

theorem refname_eq (k : Nat) (op : Int) (h1 : 1 ≤ op) (h2 : op ≤ 24) : cachetref05_Name.f (k + 5) op = some (opName op) := by
  unfold cachetref05_Name.f
  rw [uses_eq k op h1 h2]
  simp only [Option.bind_some, if_true]
  rw [if_pos (by omega), if_pos (by simp; omega)]
  rcases ops24 op h1 h2 with h | h | h | h | h | h | h | h | h | h | h | h | h | h | h | h | h | h | h | h | h | h | h | h <;> subst h <;> rfl
theorem name_eq (op : Int) (h1 : 1 ≤ op) (h2 : op ≤ 24) : code_Name.f op = some (opName op, true) := by
  unfold code_Name.f
  rw [of_eq op h1 h2]
  rfl
theorem distinct_fin : ∀ i j : Fin 25, 1 ≤ j.val → j.val < i.val → (opName (j.val : Int)).data.toList ≠ (opName (i.val : Int)).data.toList := by decide +kernel
theorem named_fin : ∀ i : Fin 25, 1 ≤ i.val → (opName (i.val : Int)).data.toList ≠ [] := by decide +kernel
theorem distinct (i j : Nat) (hi : i ≤ 24) (h1 : 1 ≤ j) (h : j < i) : (opName (j : Int)).toList ≠ (opName (i : Int)).toList := by
  rw [ByteArray.toList_eq, ByteArray.toList_eq]
  exact distinct_fin ⟨i, by omega⟩ ⟨j, by omega⟩ h1 h
theorem named (i : Nat) (hi : i ≤ 24) (h1 : 1 ≤ i) : (opName (i : Int)).toList ≠ [] := by
  rw [ByteArray.toList_eq]
  exact named_fin ⟨i, by omega⟩ h1
theorem table_l1 (n : Int) (l : List ByteArray) (at_ : Int) (s : ByteArray) (hl : l.length ≤ 100) (hd : ∀ t ∈ l, t.toList ≠ s.toList) (d : Nat) : ∀ (i k : Nat), i ≤ l.length → l.length - i = d →
    cachetlaw05_CodeTable.l1 (k + d + 1) n l at_ s (i : Int) = cachetlaw05_CodeTable.l0 k n (l ++ [s]) (wrap64 (at_ + 1)) := by
  induction d with
  | zero =>
    intro i k h0 h1
    rw [cachetlaw05_CodeTable.l1, if_neg (by omega), if_pos (by omega)]
  | succ d ih =>
    intro i k h0 h1
    have hlt : i < l.length := by omega
    have hr : rdOf ByteArray.empty l (i : Int) = l[i] := by simp [rdOf, List.getD_eq_getElem?_getD, List.getElem?_eq_getElem hlt]
    show cachetlaw05_CodeTable.l1 ((k + d + 1) + 1) n l at_ s (i : Int) = _
    rw [cachetlaw05_CodeTable.l1, if_pos (by omega), if_pos (by omega), hr, if_neg (hd _ (List.getElem_mem hlt)), Plain.wrap_small _ (by omega) (by omega)]
    exact ih (i + 1) k (by omega) (by omega)
def names (i : Nat) : List ByteArray := (List.range i).map fun j => opName ((j + 1 : Nat) : Int)
theorem names_length (i : Nat) : (names i).length = i := by simp [names]
theorem names_snoc (i : Nat) : names i ++ [opName ((i + 1 : Nat) : Int)] = names (i + 1) := by simp [names, List.range_succ]
theorem table_end (n : Int) (hn : -9223372036854775808 ≤ n ∧ n ≤ 9223372036854775807) : ∃ k, cachetlaw05_CodeTable.l0 k n (names 24) 25 = some true := by
  refine ⟨1, ?_⟩
  rw [cachetlaw05_CodeTable.l0, if_neg (by omega)]
  unfold code_Name.f
  by_cases h : 1 ≤ n ∧ n ≤ 24
  · rw [of_eq n h.1 h.2]
    simp only [Option.bind_some, known_true]
    rw [if_pos h.1, decide_eq_true h.2]
    rfl
  · rw [of_no n (by omega)]
    simp only [Option.bind_some, known_true]
    have he : (⟨#[]⟩ : ByteArray).toList = [] := by rw [ByteArray.toList_eq]
    by_cases h1 : n ≥ 1
    · rw [if_pos h1, decide_eq_false (by omega)]
      simp [he]
    · rw [if_neg h1]
      simp [he]
theorem table_step (n : Int) (i : Nat) (hi : i < 24) (h : ∃ k, cachetlaw05_CodeTable.l0 k n (names (i + 1)) ((i + 2 : Nat) : Int) = some true) : ∃ k, cachetlaw05_CodeTable.l0 k n (names i) ((i + 1 : Nat) : Int) = some true := by
  obtain ⟨k, hk⟩ := h
  refine ⟨(k + i + 2) + 5 + 1, ?_⟩
  rw [cachetlaw05_CodeTable.l0, if_pos (by omega), name_eq _ (by omega) (by omega), refname_eq (k + i + 2) _ (by omega) (by omega)]
  simp only [Option.bind_some, if_true]
  rw [beq_eq_false_iff_ne.2 (named (i + 1) (by omega) (by omega)), show (k + i + 2) + 5 = ((k + 5) + i + 1) + 1 by omega, cachetlaw05_CodeTable.j1, if_neg (by decide)]
  have h1 := table_l1 n (names i) ((i + 1 : Nat) : Int) (opName ((i + 1 : Nat) : Int)) (by rw [names_length]; omega) (by
    intro t ht
    simp only [names, List.mem_map, List.mem_range] at ht
    obtain ⟨j, hj, rfl⟩ := ht
    exact distinct (i + 1) (j + 1) (by omega) (by omega) (by omega)) i 0 (k + 5) (by omega) (by rw [names_length]; omega)
  rw [Int.natCast_zero] at h1
  rw [h1, names_snoc, Plain.wrap_small _ (by omega) (by omega)]
  have hm := cachetlaw05_CodeTable.mono_l
  exact at_rounds (g := fun k => cachetlaw05_CodeTable.l0 k n (names (i + 1)) (((i + 1 : Nat) : Int) + 1)) (fun k => (hm k).1 _ _ _) (show k ≤ k + 5 by omega) hk
theorem table_from (n : Int) (hn : -9223372036854775808 ≤ n ∧ n ≤ 9223372036854775807) (d : Nat) : ∀ i, i + d = 24 → ∃ k, cachetlaw05_CodeTable.l0 k n (names i) ((i + 1 : Nat) : Int) = some true := by
  induction d with
  | zero =>
    intro i h
    obtain rfl : i = 24 := by omega
    exact table_end n hn
  | succ d ih =>
    intro i h
    exact table_step n i (by omega) (ih (i + 1) (by omega))
theorem CodeTable : cachetlaw05_CodeTable.Pure := by
  intro n h
  have hn := (Lit.wf_int_iff _ _).1 h
  rw [show IntKind.i64.min = -9223372036854775808 from rfl, show IntKind.i64.max = 9223372036854775807 from rfl] at hn
  exact table_from n hn 24 0 (by omega)
end Go.Proofs.Ythkepoimagnagaa.Pure
