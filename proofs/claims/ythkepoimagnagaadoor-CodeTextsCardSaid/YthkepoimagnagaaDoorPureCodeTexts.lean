/- An instruction as a text: the program's answer is the document's, whatever the instruction: the statement CodeTexts answers true. No condition. -/
import Derived.Test.YthkepoimagnagaaDoorAimCodeTexts
import Derived.Test.YthkepoimagnagaaDoorPlainT
import Derived.Test.YthkepoimagnagaaDoorPlainB
import Derived.DataShut
namespace Go.Proofs.YthkepoimagnagaaDoor.Pure
open Go.RowKit Go.Proofs.YthkepoimagnagaaDoor.K Go.Proofs.YthkepoimagnagaaDoor.Plain Go.Proofs.YthkepoimagnagaaDoorW.PrintWords Go.Proofs.YthkepoimagnagaaDoorW.PrintLast
set_option linter.unusedVariables false
set_option linter.unusedSimpArgs false

theorem refname_no (k : Nat) (op : Int) (h : op < 1 ∨ 24 < op) : cachetref05_Name.f (k + 5) op = some ⟨#[]⟩ := by
  unfold cachetref05_Name.f
  rw [uses_no k op h]
  simp
theorem name_eq (op : Int) (h1 : 1 ≤ op) (h2 : op ≤ 24) : code_Name.f op = some (opName op, true) := by
  unfold code_Name.f
  rw [of_eq op h1 h2]
  rfl
theorem name_no (op : Int) (h : op < 1 ∨ 24 < op) : code_Name.f op = some (⟨#[]⟩, false) := by
  unfold code_Name.f
  rw [of_no op h]
  rfl
theorem named_fin : ∀ i : Fin 25, 1 ≤ i.val → (opName (i.val : Int)).data.toList ≠ [] := by decide +kernel
theorem named (op : Int) (h1 : 1 ≤ op) (h2 : op ≤ 24) : (opName op).toList ≠ [] := by
  rw [ByteArray.toList_eq]
  have := named_fin ⟨op.toNat, by omega⟩ (by show 1 ≤ op.toNat; omega)
  rwa [show ((op.toNat : Nat) : Int) = op by omega] at this
theorem texts_j0 (op d s o m : Int) (hm1 : 0 ≤ m) (hm2 : m ≤ 4294967295) : cachetlaw05_CodeTexts.j0 40 (textN op d s o m).1 (textN op d s o m).2 false op d s o m = some true := by
  rw [cachetlaw05_CodeTexts.j0, if_neg (by simp), show (39 : Nat) = 34 + 5 from rfl, refmay_eq 34 op d s o m hm1 hm2]
  simp only [Option.bind_some]
  cases hm : mayB op d s o m with
  | false =>
    have he : (⟨#[]⟩ : ByteArray).toList = [] := by rw [ByteArray.toList_eq]
    simp only [textN, hm]
    simp [he, known_true]
  | true =>
    obtain ⟨h1, h2, d1, d2, s1, s2, o1, o2⟩ := may_facts ⟨op, d, s, o, m⟩ hm
    simp only at h1 h2 d1 d2 s1 s2 o1 o2
    rw [if_pos rfl, show (34 : Nat) + 5 = 10 + 29 from rfl, reftext_eq 10 op d s o m h1 h2 d1 d2 s1 s2 o1 o2 hm1 hm2]
    simp only [textN, hm]
    simp [known_true]
theorem CodeTexts : cachetlaw05_CodeTexts.Pure := by
  intro op d s o m w0 w1 w2 w3 w4
  have h1 := (Lit.wf_int_iff _ _).1 w1
  have h2 := (Lit.wf_int_iff _ _).1 w2
  have h3 := (Lit.wf_int_iff _ _).1 w3
  have h4 := (Lit.wf_int_iff _ _).1 w4
  rw [show IntKind.i64.min = -9223372036854775808 from rfl, show IntKind.i64.max = 9223372036854775807 from rfl] at h1 h2 h3
  rw [show IntKind.u32.min = 0 from rfl, show IntKind.u32.max = 4294967295 from rfl] at h4
  refine ⟨40, ?_⟩
  unfold cachetlaw05_CodeTexts.f
  rw [text_eq op d s o m ⟨h1, h2, h3, h4⟩]
  simp only [Option.bind_some]
  by_cases h : 1 ≤ op ∧ op ≤ 24
  · rw [name_eq op h.1 h.2, show (40 : Nat) = 35 + 5 from rfl, refname_eq 35 op h.1 h.2]
    simp only [Option.bind_some]
    rw [if_pos trivial, bne_iff_ne.2 (named op h.1 h.2)]
    exact texts_j0 op d s o m h4.1 h4.2
  · rw [name_no op (by omega), show (40 : Nat) = 35 + 5 from rfl, refname_no 35 op (by omega)]
    simp only [Option.bind_some]
    have he : (⟨#[]⟩ : ByteArray).toList = [] := by rw [ByteArray.toList_eq]
    rw [if_pos trivial, he]
    exact texts_j0 op d s o m h4.1 h4.2
end Go.Proofs.YthkepoimagnagaaDoor.Pure
