/- The contracts of code.rows and code.of: an Op's name and what it uses, read off the table of Ops. No condition. -/
import Derived.Test.YthkepoimagnagaaDoorKx0
import Derived.Laws.Tables
import Derived.Laws.Rows
namespace Go.Proofs.YthkepoimagnagaaDoor.K
open Go.RowKit Go.Proofs.YthkepoimagnagaaDoorW.PrintWords Go.Proofs.YthkepoimagnagaaDoorW.PrintLast Go.Proofs.YthkepoimagnagaaDoorW.PrintMore
set_option linter.unusedVariables false
set_option linter.unusedSimpArgs false
def rowCells : Array Value := #[.string (⟨#[]⟩ : ByteArray), .int .i64 0, .string (⟨#[109, 111, 118, 105]⟩ : ByteArray), .int .i64 9, .string (⟨#[109, 111, 118]⟩ : ByteArray), .int .i64 3, .string (⟨#[97, 100, 100, 105]⟩ : ByteArray), .int .i64 9, .string (⟨#[97, 100, 100]⟩ : ByteArray), .int .i64 3, .string (⟨#[115, 117, 98]⟩ : ByteArray), .int .i64 3, .string (⟨#[109, 117, 108, 105]⟩ : ByteArray), .int .i64 9, .string (⟨#[109, 117, 108]⟩ : ByteArray), .int .i64 3, .string (⟨#[97, 110, 100, 105]⟩ : ByteArray), .int .i64 9, .string (⟨#[97, 110, 100]⟩ : ByteArray), .int .i64 3, .string (⟨#[111, 114]⟩ : ByteArray), .int .i64 3, .string (⟨#[120, 111, 114]⟩ : ByteArray), .int .i64 3, .string (⟨#[115, 104, 108, 105]⟩ : ByteArray), .int .i64 9, .string (⟨#[115, 104, 114, 105]⟩ : ByteArray), .int .i64 9, .string (⟨#[100, 105, 118]⟩ : ByteArray), .int .i64 3, .string (⟨#[109, 111, 100]⟩ : ByteArray), .int .i64 3, .string (⟨#[108, 100, 99]⟩ : ByteArray), .int .i64 7, .string (⟨#[108, 100, 115]⟩ : ByteArray), .int .i64 7, .string (⟨#[115, 116, 115]⟩ : ByteArray), .int .i64 7, .string (⟨#[106, 97]⟩ : ByteArray), .int .i64 4, .string (⟨#[106, 101, 113, 105]⟩ : ByteArray), .int .i64 13, .string (⟨#[106, 108, 116, 105]⟩ : ByteArray), .int .i64 13, .string (⟨#[106, 108, 116]⟩ : ByteArray), .int .i64 7, .string (⟨#[99, 97, 108, 108]⟩ : ByteArray), .int .i64 8, .string (⟨#[101, 120, 105, 116]⟩ : ByteArray), .int .i64 0]
def zeroCells : Array Value := #[.string (⟨#[]⟩ : ByteArray), .int .i64 0, .string (⟨#[]⟩ : ByteArray), .int .i64 0, .string (⟨#[]⟩ : ByteArray), .int .i64 0, .string (⟨#[]⟩ : ByteArray), .int .i64 0, .string (⟨#[]⟩ : ByteArray), .int .i64 0, .string (⟨#[]⟩ : ByteArray), .int .i64 0, .string (⟨#[]⟩ : ByteArray), .int .i64 0, .string (⟨#[]⟩ : ByteArray), .int .i64 0, .string (⟨#[]⟩ : ByteArray), .int .i64 0, .string (⟨#[]⟩ : ByteArray), .int .i64 0, .string (⟨#[]⟩ : ByteArray), .int .i64 0, .string (⟨#[]⟩ : ByteArray), .int .i64 0, .string (⟨#[]⟩ : ByteArray), .int .i64 0, .string (⟨#[]⟩ : ByteArray), .int .i64 0, .string (⟨#[]⟩ : ByteArray), .int .i64 0, .string (⟨#[]⟩ : ByteArray), .int .i64 0, .string (⟨#[]⟩ : ByteArray), .int .i64 0, .string (⟨#[]⟩ : ByteArray), .int .i64 0, .string (⟨#[]⟩ : ByteArray), .int .i64 0, .string (⟨#[]⟩ : ByteArray), .int .i64 0, .string (⟨#[]⟩ : ByteArray), .int .i64 0, .string (⟨#[]⟩ : ByteArray), .int .i64 0, .string (⟨#[]⟩ : ByteArray), .int .i64 0, .string (⟨#[]⟩ : ByteArray), .int .i64 0, .string (⟨#[]⟩ : ByteArray), .int .i64 0]
def opName (n : Int) : ByteArray :=
  if n = 1 then (⟨#[109, 111, 118, 105]⟩ : ByteArray) else
  if n = 2 then (⟨#[109, 111, 118]⟩ : ByteArray) else
  if n = 3 then (⟨#[97, 100, 100, 105]⟩ : ByteArray) else
  if n = 4 then (⟨#[97, 100, 100]⟩ : ByteArray) else
  if n = 5 then (⟨#[115, 117, 98]⟩ : ByteArray) else
  if n = 6 then (⟨#[109, 117, 108, 105]⟩ : ByteArray) else
  if n = 7 then (⟨#[109, 117, 108]⟩ : ByteArray) else
  if n = 8 then (⟨#[97, 110, 100, 105]⟩ : ByteArray) else
  if n = 9 then (⟨#[97, 110, 100]⟩ : ByteArray) else
  if n = 10 then (⟨#[111, 114]⟩ : ByteArray) else
  if n = 11 then (⟨#[120, 111, 114]⟩ : ByteArray) else
  if n = 12 then (⟨#[115, 104, 108, 105]⟩ : ByteArray) else
  if n = 13 then (⟨#[115, 104, 114, 105]⟩ : ByteArray) else
  if n = 14 then (⟨#[100, 105, 118]⟩ : ByteArray) else
  if n = 15 then (⟨#[109, 111, 100]⟩ : ByteArray) else
  if n = 16 then (⟨#[108, 100, 99]⟩ : ByteArray) else
  if n = 17 then (⟨#[108, 100, 115]⟩ : ByteArray) else
  if n = 18 then (⟨#[115, 116, 115]⟩ : ByteArray) else
  if n = 19 then (⟨#[106, 97]⟩ : ByteArray) else
  if n = 20 then (⟨#[106, 101, 113, 105]⟩ : ByteArray) else
  if n = 21 then (⟨#[106, 108, 116, 105]⟩ : ByteArray) else
  if n = 22 then (⟨#[106, 108, 116]⟩ : ByteArray) else
  if n = 23 then (⟨#[99, 97, 108, 108]⟩ : ByteArray) else
  if n = 24 then (⟨#[101, 120, 105, 116]⟩ : ByteArray) else
  ⟨#[]⟩
def opUses (n : Int) : Int :=
  if n = 1 then 9 else
  if n = 2 then 3 else
  if n = 3 then 9 else
  if n = 4 then 3 else
  if n = 5 then 3 else
  if n = 6 then 9 else
  if n = 7 then 3 else
  if n = 8 then 9 else
  if n = 9 then 3 else
  if n = 10 then 3 else
  if n = 11 then 3 else
  if n = 12 then 9 else
  if n = 13 then 9 else
  if n = 14 then 3 else
  if n = 15 then 3 else
  if n = 16 then 7 else
  if n = 17 then 7 else
  if n = 18 then 7 else
  if n = 19 then 4 else
  if n = 20 then 13 else
  if n = 21 then 13 else
  if n = 22 then 7 else
  if n = 23 then 8 else
  if n = 24 then 0 else
  0
def code_of.f (a0 : Int) : Option (ByteArray × Int × Bool) := if a0 < 1 then some (⟨#[]⟩, 0, false) else if a0 > 24 then some (⟨#[]⟩, 0, false) else some (opName a0, opUses a0, true)
section
attribute [local irreducible] wpList Code.wp
set_option maxRecDepth 100000 in
theorem rows_calls (w : World) : Calls Tryd.prog 28 #[] w fun e w' => e = .returned (.agg rowCells) ∧ Below w.heap.size w w' := by
  go_enter Tryd.func28, Tryd.ntmps28
  apply wp_seq_k
  intro K hK
  apply wp_region_lit
  refine step_value (v := .pointer (some ⟨w.heap.size, 0, none⟩)) (w' := w.alloc (.cells zeroCells 60)) rfl (by as_aux_lemma => kernel_rfl) ?_
  apply wpList_nil
  apply hK
  clear hK K
  apply wp_seq_k
  intro K hK
  apply wp_region_lit
  refine step_value (v := .agg #[.string (⟨#[109, 111, 118, 105]⟩ : ByteArray), .int .i64 9]) (w' := w.alloc (.cells zeroCells 60)) rfl (by as_aux_lemma => kernel_rfl) ?_
  refine step_value (v := .agg #[.string (⟨#[109, 111, 118]⟩ : ByteArray), .int .i64 3]) (w' := w.alloc (.cells zeroCells 60)) rfl (by as_aux_lemma => kernel_rfl) ?_
  refine step_value (v := .agg #[.string (⟨#[97, 100, 100, 105]⟩ : ByteArray), .int .i64 9]) (w' := w.alloc (.cells zeroCells 60)) rfl (by as_aux_lemma => kernel_rfl) ?_
  refine step_value (v := .agg #[.string (⟨#[97, 100, 100]⟩ : ByteArray), .int .i64 3]) (w' := w.alloc (.cells zeroCells 60)) rfl (by as_aux_lemma => kernel_rfl) ?_
  refine step_value (v := .agg #[.string (⟨#[115, 117, 98]⟩ : ByteArray), .int .i64 3]) (w' := w.alloc (.cells zeroCells 60)) rfl (by as_aux_lemma => kernel_rfl) ?_
  refine step_value (v := .agg #[.string (⟨#[109, 117, 108, 105]⟩ : ByteArray), .int .i64 9]) (w' := w.alloc (.cells zeroCells 60)) rfl (by as_aux_lemma => kernel_rfl) ?_
  refine step_value (v := .agg #[.string (⟨#[109, 117, 108]⟩ : ByteArray), .int .i64 3]) (w' := w.alloc (.cells zeroCells 60)) rfl (by as_aux_lemma => kernel_rfl) ?_
  refine step_value (v := .agg #[.string (⟨#[97, 110, 100, 105]⟩ : ByteArray), .int .i64 9]) (w' := w.alloc (.cells zeroCells 60)) rfl (by as_aux_lemma => kernel_rfl) ?_
  refine step_value (v := .agg #[.string (⟨#[97, 110, 100]⟩ : ByteArray), .int .i64 3]) (w' := w.alloc (.cells zeroCells 60)) rfl (by as_aux_lemma => kernel_rfl) ?_
  refine step_value (v := .agg #[.string (⟨#[111, 114]⟩ : ByteArray), .int .i64 3]) (w' := w.alloc (.cells zeroCells 60)) rfl (by as_aux_lemma => kernel_rfl) ?_
  refine step_value (v := .agg #[.string (⟨#[120, 111, 114]⟩ : ByteArray), .int .i64 3]) (w' := w.alloc (.cells zeroCells 60)) rfl (by as_aux_lemma => kernel_rfl) ?_
  refine step_value (v := .agg #[.string (⟨#[115, 104, 108, 105]⟩ : ByteArray), .int .i64 9]) (w' := w.alloc (.cells zeroCells 60)) rfl (by as_aux_lemma => kernel_rfl) ?_
  refine step_value (v := .agg #[.string (⟨#[115, 104, 114, 105]⟩ : ByteArray), .int .i64 9]) (w' := w.alloc (.cells zeroCells 60)) rfl (by as_aux_lemma => kernel_rfl) ?_
  refine step_value (v := .agg #[.string (⟨#[100, 105, 118]⟩ : ByteArray), .int .i64 3]) (w' := w.alloc (.cells zeroCells 60)) rfl (by as_aux_lemma => kernel_rfl) ?_
  refine step_value (v := .agg #[.string (⟨#[109, 111, 100]⟩ : ByteArray), .int .i64 3]) (w' := w.alloc (.cells zeroCells 60)) rfl (by as_aux_lemma => kernel_rfl) ?_
  refine step_value (v := .agg #[.string (⟨#[108, 100, 99]⟩ : ByteArray), .int .i64 7]) (w' := w.alloc (.cells zeroCells 60)) rfl (by as_aux_lemma => kernel_rfl) ?_
  refine step_value (v := .agg #[.string (⟨#[108, 100, 115]⟩ : ByteArray), .int .i64 7]) (w' := w.alloc (.cells zeroCells 60)) rfl (by as_aux_lemma => kernel_rfl) ?_
  refine step_value (v := .agg #[.string (⟨#[115, 116, 115]⟩ : ByteArray), .int .i64 7]) (w' := w.alloc (.cells zeroCells 60)) rfl (by as_aux_lemma => kernel_rfl) ?_
  refine step_value (v := .agg #[.string (⟨#[106, 97]⟩ : ByteArray), .int .i64 4]) (w' := w.alloc (.cells zeroCells 60)) rfl (by as_aux_lemma => kernel_rfl) ?_
  refine step_value (v := .agg #[.string (⟨#[106, 101, 113, 105]⟩ : ByteArray), .int .i64 13]) (w' := w.alloc (.cells zeroCells 60)) rfl (by as_aux_lemma => kernel_rfl) ?_
  refine step_value (v := .agg #[.string (⟨#[106, 108, 116, 105]⟩ : ByteArray), .int .i64 13]) (w' := w.alloc (.cells zeroCells 60)) rfl (by as_aux_lemma => kernel_rfl) ?_
  refine step_value (v := .agg #[.string (⟨#[106, 108, 116]⟩ : ByteArray), .int .i64 7]) (w' := w.alloc (.cells zeroCells 60)) rfl (by as_aux_lemma => kernel_rfl) ?_
  refine step_value (v := .agg #[.string (⟨#[99, 97, 108, 108]⟩ : ByteArray), .int .i64 8]) (w' := w.alloc (.cells zeroCells 60)) rfl (by as_aux_lemma => kernel_rfl) ?_
  refine step_value (v := .agg #[.string (⟨#[101, 120, 105, 116]⟩ : ByteArray), .int .i64 0]) (w' := w.alloc (.cells zeroCells 60)) rfl (by as_aux_lemma => kernel_rfl) ?_
  refine step_value (v := .agg rowCells) (w' := w.alloc (.cells zeroCells 60)) rfl (by as_aux_lemma => kernel_rfl) ?_
  refine wpList_store_row rfl 60 _ _ rfl w.heap.size rowCells (by as_aux_lemma => kernel_rfl) (by as_aux_lemma => kernel_rfl) 60 zeroCells (heap_alloc_new w _) (by as_aux_lemma => kernel_rfl) rfl (by as_aux_lemma => kernel_rfl) ?_
  apply wpList_nil
  apply hK
  clear hK K
  apply wp_ret
  refine bodyPost_ret (results_cell_row (p := 0) (ty := 60) rfl _ _ w.heap.size 60 rowCells (0, 0) _ (by as_aux_lemma => kernel_rfl) (setRow_heap _ _ zeroCells _ 60 (0, 0) (heap_alloc_new w _)) Tryd.underlying60 rfl (by as_aux_lemma => kernel_rfl)) rfl ⟨rfl, ?_⟩
  exact ((Below.refl _ _).alloc (Nat.le_refl _) _).trans ⟨rfl, rfl, rfl, by simp, fun i hi => setRow_other _ _ _ _ (by omega)⟩
end
theorem rows_index (a0 : Int) (h1 : 1 ≤ a0) (h2 : a0 ≤ 24) (w : World) : (Instr.index 60 (.agg rowCells) (.int .i64 a0)).run Tryd.prog w = .ok (.agg #[.string (opName a0), .int .i64 (opUses a0)]) w := by
  have h : a0 = 1 ∨ a0 = 2 ∨ a0 = 3 ∨ a0 = 4 ∨ a0 = 5 ∨ a0 = 6 ∨ a0 = 7 ∨ a0 = 8 ∨ a0 = 9 ∨ a0 = 10 ∨ a0 = 11 ∨ a0 = 12 ∨ a0 = 13 ∨ a0 = 14 ∨ a0 = 15 ∨ a0 = 16 ∨ a0 = 17 ∨ a0 = 18 ∨ a0 = 19 ∨ a0 = 20 ∨ a0 = 21 ∨ a0 = 22 ∨ a0 = 23 ∨ a0 = 24 := by omega
  rcases h with h | h | h | h | h | h | h | h | h | h | h | h | h | h | h | h | h | h | h | h | h | h | h | h <;> (subst h; show Sem.run _ _ _ = _; kernel_rfl)
theorem bcell {W w1 : World} (hb : Below W.heap.size W w1) : (∀ b o, b < W.heap.size → w1.cell? ⟨b, o, none⟩ = W.cell? ⟨b, o, none⟩) ∧ (∀ b o, b < W.heap.size → w1.frozen? ⟨b, o, none⟩ = W.frozen? ⟨b, o, none⟩) :=
  ⟨fun b o h => hb.cell (p := ⟨b, o, none⟩) h, fun b o h => hb.frozen (p := ⟨b, o, none⟩) h⟩
set_option maxHeartbeats 1000000 in
set_option maxRecDepth 100000 in
theorem code_of.calls (a0 : Int) (r1 : ByteArray) (r2 : Int) (r3 : Bool) (w : World) (h : code_of.f a0 = some (r1, r2, r3)) :
    Calls Tryd.prog 17 #[.int .i64 a0] w fun e w' => e = .returned (.tuple #[.agg #[.string r1, .int .i64 r2], .bool r3]) ∧ Below w.heap.size w w' := by
  unfold code_of.f at h
  by_cases c1 : a0 < 1
  · rw [if_pos c1] at h
    simp only [Option.some.injEq, Prod.mk.injEq] at h
    obtain ⟨rfl, rfl, rfl⟩ := h
    go_enter Tryd.func17, Tryd.ntmps17
    go_wp2
    exact bodyPost_ret (v := .tuple #[.agg #[.string ⟨#[]⟩, .int .i64 0], .bool false]) (by simp [results, Tryd.results17, go_sem]) rfl ⟨rfl, (Below.refl _ _).alloc (Nat.le_refl _) _⟩
  · rw [if_neg c1] at h
    by_cases c2 : a0 > 24
    · rw [if_pos c2] at h
      simp only [Option.some.injEq, Prod.mk.injEq] at h
      obtain ⟨rfl, rfl, rfl⟩ := h
      go_enter Tryd.func17, Tryd.ntmps17
      go_wp2
      exact bodyPost_ret (v := .tuple #[.agg #[.string ⟨#[]⟩, .int .i64 0], .bool false]) (by simp [results, Tryd.results17, go_sem]) rfl ⟨rfl, (Below.refl _ _).alloc (Nat.le_refl _) _⟩
    · rw [if_neg c2] at h
      simp only [Option.some.injEq, Prod.mk.injEq] at h
      obtain ⟨rfl, rfl, rfl⟩ := h
      have hidx := rows_index a0 (by omega) (by omega)
      go_enter Tryd.func17, Tryd.ntmps17
      go_wp2_with fail
      refine (rows_calls _).mono ?_
      rintro e w1 ⟨rfl, hb⟩
      obtain ⟨hc, hf⟩ := bcell hb
      have hz : w.heap.size < w1.heap.size := by have := hb.size; simp at this; omega
      go_wp2
      refine bodyPost_ret (v := .tuple #[.agg #[.string (opName a0), .int .i64 (opUses a0)], .bool true]) (by simp [results, Tryd.results17, go_sem, hc, hf, hz]) rfl ⟨rfl, ?_⟩
      exact (((((Below.refl _ _).alloc (Nat.le_refl _) _).trans (hb.mono (by simp))).setCell (by simp) _).setCell (by simp) _)
end Go.Proofs.YthkepoimagnagaaDoor.K
