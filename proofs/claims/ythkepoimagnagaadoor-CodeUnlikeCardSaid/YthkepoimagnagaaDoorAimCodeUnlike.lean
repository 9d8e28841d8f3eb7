/- Written by a program of this session (wip/handprint, over the kit's printer): what Go functions of the program come to, each by a contract of its own; Lean checks all of it. -/
import Derived.Test.YthkepoimagnagaaDoorKx27
import Derived.Test.YthkepoimagnagaaDoorHandR
namespace Go.Proofs.YthkepoimagnagaaDoor.K
open Go.RowKit Go.Proofs.YthkepoimagnagaaDoorW.PrintWords Go.Proofs.YthkepoimagnagaaDoorW.PrintLast Go.Proofs.YthkepoimagnagaaDoorW.PrintMore
def wf36 (x : S36) : Prop := ((Lit.int .i64 x.f0).wf = true) ∧ ((Lit.int .i64 x.f1).wf = true) ∧ ((Lit.int .i64 x.f2).wf = true) ∧ ((Lit.int .i64 x.f3).wf = true) ∧ ((Lit.int .u32 x.f4).wf = true)
theorem k36_opens : Opens Tryd.prog k36 36 wf36 :=
  opens_struct (f := fun x : S36 => (x.f0, x.f1, x.f2, x.f3, x.f4)) (g := fun a => ⟨a.1, a.2.1, a.2.2.1, a.2.2.2.1, a.2.2.2.2⟩) Tryd.underlying36 (by kernel_rfl) rfl (fits_pair (opens_int Tryd.underlying33) (fits_pair (opens_int Tryd.underlying3) (fits_pair (opens_int Tryd.underlying3) (fits_pair (opens_int Tryd.underlying3) (fits_one (opens_int Tryd.underlying34)))))) (fun _ => rfl)
/-- THE ONE PURE STATEMENT of cachetlaw05_CodeUnlike. -/
def cachetlaw05_CodeUnlike.Pure : Prop := ∀ (a0_0 : Int) (l0_1 : List (S36)) (a1_0 : Int) (l1_1 : List (S36)), (Lit.int .i64 a0_0).wf = true → (l0_1.length ≤ maxLen ∧ ∀ x4 ∈ l0_1, wf36 x4) → (Lit.int .i64 a1_0).wf = true → (l1_1.length ≤ maxLen ∧ ∀ x4 ∈ l1_1, wf36 x4) → ∃ k, cachetlaw05_CodeUnlike.f k a0_0 l0_1 a1_0 l1_1 = some true
end Go.Proofs.YthkepoimagnagaaDoor.K
