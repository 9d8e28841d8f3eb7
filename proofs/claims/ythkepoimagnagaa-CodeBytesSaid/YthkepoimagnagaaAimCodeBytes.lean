/- Written by a program of this session (wip/handprint, over the kit's printer): what Go functions of the program come to, each by a contract of its own; Lean checks all of it. -/
import Derived.Test.YthkepoimagnagaaKx22
import Derived.Test.YthkepoimagnagaaHandR
namespace Go.Proofs.Ythkepoimagnagaa.K
open Go.RowKit Go.Proofs.YthkepoimagnagaaW.PrintWords Go.Proofs.YthkepoimagnagaaW.PrintLast Go.Proofs.YthkepoimagnagaaW.PrintMore
def wf26 (x : S26) : Prop := ((Lit.int .i64 x.f0).wf = true) ∧ ((Lit.int .i64 x.f1).wf = true) ∧ ((Lit.int .i64 x.f2).wf = true) ∧ ((Lit.int .i64 x.f3).wf = true) ∧ ((Lit.int .u32 x.f4).wf = true)
theorem k26_opens : Opens Try.prog k26 26 wf26 :=
  opens_struct (f := fun x : S26 => (x.f0, x.f1, x.f2, x.f3, x.f4)) (g := fun a => ⟨a.1, a.2.1, a.2.2.1, a.2.2.2.1, a.2.2.2.2⟩) Try.underlying26 (by kernel_rfl) rfl (fits_pair (opens_int Try.underlying24) (fits_pair (opens_int Try.underlying3) (fits_pair (opens_int Try.underlying3) (fits_pair (opens_int Try.underlying3) (fits_one (opens_int Try.underlying22)))))) (fun _ => rfl)
/-- THE ONE PURE STATEMENT of cachetlaw05_CodeBytes. -/
def cachetlaw05_CodeBytes.Pure : Prop := ∀ (a0_0 : Int) (l0_1 : List (S26)), (Lit.int .i64 a0_0).wf = true → (l0_1.length ≤ maxLen ∧ ∀ x4 ∈ l0_1, wf26 x4) → ∃ k, cachetlaw05_CodeBytes.f k a0_0 l0_1 = some true
end Go.Proofs.Ythkepoimagnagaa.K
