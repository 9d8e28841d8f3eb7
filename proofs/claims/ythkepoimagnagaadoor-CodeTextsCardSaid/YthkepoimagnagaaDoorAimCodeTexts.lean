/- Written by a program of this session (wip/handprint, over the kit's printer): what Go functions of the program come to, each by a contract of its own; Lean checks all of it. -/
import Derived.Test.YthkepoimagnagaaDoorKx25
import Derived.Test.YthkepoimagnagaaDoorHandR
namespace Go.Proofs.YthkepoimagnagaaDoor.K
open Go.RowKit Go.Proofs.YthkepoimagnagaaDoorW.PrintWords Go.Proofs.YthkepoimagnagaaDoorW.PrintLast Go.Proofs.YthkepoimagnagaaDoorW.PrintMore
/-- THE ONE PURE STATEMENT of cachetlaw05_CodeTexts. -/
def cachetlaw05_CodeTexts.Pure : Prop := ∀ (a0_0 : Int) (a0_1 : Int) (a0_2 : Int) (a0_3 : Int) (a0_4 : Int), (Lit.int .i64 a0_0).wf = true → (Lit.int .i64 a0_1).wf = true → (Lit.int .i64 a0_2).wf = true → (Lit.int .i64 a0_3).wf = true → (Lit.int .u32 a0_4).wf = true → ∃ k, cachetlaw05_CodeTexts.f k a0_0 a0_1 a0_2 a0_3 a0_4 = some true
end Go.Proofs.YthkepoimagnagaaDoor.K
