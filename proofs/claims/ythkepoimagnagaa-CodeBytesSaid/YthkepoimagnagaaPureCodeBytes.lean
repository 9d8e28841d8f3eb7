/- May an extension be, and its bytes, are what the document says; read, they are it: the statement CodeBytes answers true of any extension. No condition. -/
import Derived.Test.YthkepoimagnagaaPlainF
import Derived.Test.YthkepoimagnagaaAimCodeBytes
import Derived.DataShut
namespace Go.Proofs.Ythkepoimagnagaa.Pure
open Go.RowKit Go.Proofs.Ythkepoimagnagaa.K Go.Proofs.Ythkepoimagnagaa.Plain Go.Proofs.YthkepoimagnagaaW.PrintWords Go.Proofs.YthkepoimagnagaaW.PrintLast
theorem CodeBytes : cachetlaw05_CodeBytes.Pure := by
  intro a l h1 h2
  refine bytes_true a l fun x hx => ?_
  have h := (Lit.wf_int_iff _ _).1 (h2.2 x hx).2.2.2.2
  rw [show IntKind.u32.min = 0 from rfl, show IntKind.u32.max = 4294967295 from rfl] at h
  exact h
end Go.Proofs.Ythkepoimagnagaa.Pure
