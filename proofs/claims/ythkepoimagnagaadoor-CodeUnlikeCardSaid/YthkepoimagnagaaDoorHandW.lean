/- Words for walks by hand and by print: a scope whose jumps go ahead alone; one operation run by the kernel. No condition. -/
import Derived.WalkMore
import Derived.ScopeJumps
import Derived.RowKit
namespace Go.Proofs.YthkepoimagnagaaDoorW.PrintMore
variable {P : Program} {a : Act} {w : World} {Q : Exit → Act → World → Prop}
theorem noGoto_jump {l : Nat} {J : Act → World → Prop} : ∀ e a w, Exit.noGoto Q e a w → Exit.jump l J Q e a w := by
  intro e a w h
  cases e <;> first | exact h | exact h.elim
theorem wp_scope_ahead {c rest : Code} (l : Nat) (hf : findLabel c l = some rest)
    (first : c.wp P (Exit.jump l (fun a w => rest.wp P (Exit.noGoto Q) a w) Q) a w) : (Code.scope c).wp P Q a w :=
  wp_scope_jumps l _ (fun _ _ => 0) hf first fun _ _ h => Code.wp_mono (noGoto_jump (l := l)) h
theorem jump_ahead {l : Nat} {J : Act → World → Prop} (h : J a w) : Exit.jump l J Q (.goto l) a w := ⟨rfl, h⟩
theorem jump_ret {l : Nat} {J : Act → World → Prop} : Exit.jump l J Q .ret a w = Q .ret a w := rfl
theorem step_value {ops : Array Oper} {rest : List Oper} {o : Oper} {w' : World} {v : Value} (hg : o.guard = none)
    (h : (execOp a.eval o).run P w = .ok (.value v) w') (k : wpList P ops Q rest (a.put o.dst v) w') : wpList P ops Q (o :: rest) a w :=
  wpList_plain hg fun K hK => by unfold Oper.wp; rw [h]; exact hK _ _ k
end Go.Proofs.YthkepoimagnagaaDoorW.PrintMore
