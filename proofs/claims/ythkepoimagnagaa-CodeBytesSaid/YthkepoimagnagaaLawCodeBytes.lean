/- Written by a program of this session (wip/handprint, over the kit's printer): what Go functions of the program come to, each by a contract of its own; Lean checks all of it. -/
import Derived.Test.YthkepoimagnagaaRows
import Derived.Test.YthkepoimagnagaaAimCodeBytes
import Derived.Test.YthkepoimagnagaaPureCodeBytes
import Derived.WalkKit
import Derived.ProofKit
import Derived.OpenShut
import Derived.ShutString
import Derived.ChangeOld
import Derived.Below
namespace Go.Proofs.Ythkepoimagnagaa.codeBytes
open Go.ChangeShapes Go.WideShapes Go.ChangeAt Go.RowKit Go.Proofs.YthkepoimagnagaaW.PrintWords Go.Proofs.YthkepoimagnagaaW.PrintMore Go.Proofs.Ythkepoimagnagaa.K
open Go.ChangeMaps (open_string shut_string)
set_option linter.unusedVariables false
theorem own : ownKnob Try.prog.godebug = none := by kernel_rfl
theorem laidOut : laidOutB Try.prog = true := by kernel_rfl
set_option maxRecDepth 100000 in
theorem lifted (os : Os) (started : os.Started) (H : Type) (enc : TypeId × Value → H) :
    ReturnsInHanded {} Try.checked os 5 .any (Rows.codeBytesSpec.pre6 enc Try.prog Try.f5 Rows.codeBytesRow.domain false) (Rows.codeBytesSpec.post enc Try.prog Try.f5 false true false false) := by
  refine returnsInHanded_of_change (C := Try.checked) own started (by kernel_rfl) Try.func5
    (ChangeSpec.witness6 (enc := enc) (C := Try.checked) false ⟨#[], #[.agg #[.int .i64 0, .slice none 0 0]], []⟩ 8 (by kernel_rfl) (by kernel_rfl) (by kernel_rfl) (by kernel_rfl)) ?_
  intro W base args ds gs before hval0 hW hcnd _
  have hval : ∀ (j : Nat) t v, Try.f5.params[j]? = some t → args[j]? = some v → Value.okWide Try.prog W .any base t v := hval0
  have hW' := hW
  obtain ⟨p, q, hA0, hV, rfl, hfz, hnd⟩ := hW
  have hA : DataW.TrodAll enc Try.prog W 0 (fun _ => true) true Try.f5.params.toList args.toList ds p := hA0
  rw [Try.params5] at hA hval
  obtain ⟨v0, vs0, d0, ds0, p0, q0, hargs, rfl, rfl, h0, r0⟩ := trodAll_cons hA
  obtain ⟨rfl, rfl, rfl⟩ := trodAll_nil r0
  obtain rfl : args = #[v0] := by cases args; simp_all
  obtain ⟨rfl, rfl⟩ := trodVars_none hV
  have k0 := h0
  have lt0 : ∀ x ∈ p0, x.block < W.heap.size := by obtain ⟨m, hm⟩ := k0; exact DataW.trod_lt m _ _ _ hm
  obtain ⟨cs0, rfl, _⟩ := okWide_struct Try.underlying32 (hval 0 32 v0 rfl rfl)
  obtain ⟨fuel0, hf0⟩ := h0
  obtain ⟨y0, hK0, hw0⟩ := (opens_struct (f := id) (g := id) Try.underlying32 (by kernel_rfl) rfl (fits_pair (opens_int Try.underlying3) (fits_one (opens_slice Try.underlying27 (by kernel_rfl) k26_opens))) (fun _ => rfl)) hf0
  obtain ⟨cl0, hcl0⟩ : ∃ cl, cs0.toList = cl := ⟨_, rfl⟩
  have hK0' : Kd.K _ W y0 cl0 := hcl0 ▸ hK0
  obtain ⟨a0_0, l0_1⟩ := y0
  obtain ⟨_, _, rfl, rfl, ⟨A0_1, c0_1, rfl, hc0_1, hr0_1⟩⟩ := hK0'
  obtain ⟨w0_0, w0_1⟩ := hw0
  obtain rfl : cs0 = #[.int .i64 a0_0, .slice A0_1 l0_1.length c0_1] := by rw [← Array.toList_inj, hcl0]; rfl
  clear hcl0 hK0
  clear hA0 hval0
  have hp := Pure.CodeBytes a0_0 l0_1 w0_0 w0_1
  obtain ⟨k, hk⟩ := hp
  refine (K.cachetlaw05_CodeBytes.calls k a0_0 _ _ l0_1 true W hr0_1 hc0_1 hk).mono fun e W' he => ?_
  obtain ⟨rfl, bel⟩ := he
  exact ⟨_, rfl, _, _, _, [], _, [], hW', trodAll_mk1 (shut_bool Try.underlying4 _), (trodAll_cons_mk (Below.trod laidOut (by kernel_rfl) (of_decide_eq_true (by kernel_rfl)) k0 bel lt0) trodAll_mk0), rfl, bel.frame _, fun h => by cases h⟩
theorem over : Rows.codeBytesRow.holds Try.pinned (OpenSpec.ofChange Rows.codeBytesSpec) :=
  OpenClaim.holds_of_wide 5 Try.f5 rfl rfl rfl rfl rfl rfl rfl ⟨rfl, rfl, rfl, rfl, rfl⟩ rfl rfl rfl rfl rfl (by kernel_rfl) Try.func5 (by kernel_rfl)
    (of_decide_eq_true (by kernel_rfl)) (by unfold Func.isWrapper; first | (rw [if_pos (by decide +kernel)]; kernel_rfl) | (rw [if_neg (by decide +kernel)]; exact ⟨rfl, rfl⟩))
    (fun os started H enc _ => lifted os started H enc)
theorem proved : Rows.CodeBytesSaid := over
#print axioms proved
end Go.Proofs.Ythkepoimagnagaa.codeBytes
namespace Go.Proofs.Ythkepoimagnagaa
/-- The row, under a short name, for the claim. -/
theorem codeBytes_holds : Rows.CodeBytesSaid := codeBytes.proved
end Go.Proofs.Ythkepoimagnagaa
