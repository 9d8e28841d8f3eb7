/- Of any bytes it is told which extension they are, or what is wrong; what is read is written as the same bytes: the statement CodeReads answers true. No condition. -/
import Derived.Test.YthkepoimagnagaaPlainD
import Derived.DataShut
namespace Go.Proofs.Ythkepoimagnagaa.Pure
open Go.RowKit Go.Proofs.Ythkepoimagnagaa.K Go.Proofs.Ythkepoimagnagaa.Plain Go.Proofs.YthkepoimagnagaaW.PrintWords Go.Proofs.YthkepoimagnagaaW.PrintLast
theorem CodeReads : cachetlaw05_CodeReads.Pure := by
  intro l h1 h2 h3
  refine reads_true l fun b hb => ?_
  have h := (Lit.wf_int_iff _ _).1 (h3 b hb)
  rw [show IntKind.u8.min = 0 from rfl, show IntKind.u8.max = 255 from rfl] at h
  exact h
end Go.Proofs.Ythkepoimagnagaa.Pure
