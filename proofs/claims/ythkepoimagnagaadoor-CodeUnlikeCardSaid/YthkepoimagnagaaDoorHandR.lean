/- Words for rows: what came in and can be read as data is a value of a kind of the print: numbers, truths, texts, slices, structs, nested. No condition. -/
import Derived.Test.YthkepoimagnagaaDoorWWords
import Derived.Deep.Slices
import Derived.Deep.Fields
import Derived.ChangeSame
import Derived.WideShapes
import Derived.ChangeArms
import Derived.DataShut
namespace Go.Proofs.YthkepoimagnagaaDoorW.PrintMore
open Go.RowKit Go.Proofs.YthkepoimagnagaaDoorW.PrintWords Go.ChangeShapes Go.WideShapes Go.Deep
set_option linter.unusedVariables false
set_option linter.unusedSimpArgs false

/-- Whatever reads as data of type t is a value of the kind d, well formed. -/
def Opens (P : Program) {α : Type} (d : Kd α) (t : TypeId) (wf : α → Prop) : Prop :=
  ∀ {H : Type} {enc : TypeId × Value → H} {w : World} {base : Nat} {spare : Nat → Bool} {held : Bool} {fuel : Nat} {cs : List Value} {x : DataW H × List MemPlace},
    DataW.trod enc P w base spare held fuel t cs = some x → ∃ a, d.K w a cs ∧ wf a
variable {P : Program}
theorem opens_int {t : TypeId} {k : IntKind} (ht : P.underlying t = some (.int k)) : Opens P (Kd.int k) t (fun n => (Lit.int k n).wf = true) := by
  intro H enc w base spare held fuel cs x h
  obtain ⟨n, rfl, _, hn⟩ := DataW.trod_int ht h
  exact ⟨n, rfl, hn⟩
theorem opens_bool {t : TypeId} (ht : P.underlying t = some .bool) : Opens P Kd.bool t (fun _ => True) := by
  intro H enc w base spare held fuel cs x h
  obtain ⟨b, rfl, _⟩ := DataW.trod_bool ht h
  exact ⟨b, rfl, trivial⟩
theorem opens_string {t : TypeId} (ht : P.underlying t = some .string) : Opens P Kd.string t (fun s => s.size ≤ maxLen) := by
  intro H enc w base spare held fuel cs x h
  obtain ⟨s, rfl, _, hs⟩ := DataW.trod_string ht h
  exact ⟨s, rfl, hs⟩
theorem choose_list {α : Type} {R : Nat → α → Prop} : ∀ (n : Nat), (∀ i, i < n → ∃ a, R i a) → ∃ xs : List α, xs.length = n ∧ ∀ i a, xs[i]? = some a → R i a
  | 0, _ => ⟨[], rfl, fun i a h => by simp at h⟩
  | n + 1, h => by
    obtain ⟨xs, hl, hx⟩ := choose_list n fun i hi => h i (by omega)
    obtain ⟨a, ha⟩ := h n (by omega)
    refine ⟨xs ++ [a], by simp [hl], fun i b hb => ?_⟩
    rcases Nat.lt_or_ge i xs.length with hi | hi
    · rw [List.getElem?_append_left hi] at hb
      exact hx i b hb
    · have hi' : i = n := by
        have := (List.getElem?_eq_some_iff.1 hb).1
        simp [hl] at this
        omega
      subst hi'
      rw [List.getElem?_append_right hi, hl] at hb
      simp at hb
      subst hb
      exact ha
theorem opens_slice {t e : TypeId} {α : Type} {d : Kd α} {wf : α → Prop} (ht : P.underlying t = some (.slice e)) (hsz : P.cellsOf e = d.sz) (he : Opens P d e wf) : Opens P (Kd.slice e d) t (fun xs => xs.length ≤ maxLen ∧ ∀ x ∈ xs, wf x) := by
  intro H enc w base spare held fuel cs x h
  rcases open_slice ht h with ⟨rfl, _⟩ | ⟨a, len, cap, m, n, D, Pl, rfl, _, hl, hc, hm, _, hi⟩
  · exact ⟨[], ⟨none, 0, rfl, Nat.le_refl _, rfl, by simp, fun hp => absurd hp (by simp)⟩, Nat.zero_le _, fun x hx => by simp at hx⟩
  · have hlm : len ≤ m := by rw [hm]; split <;> omega
    obtain ⟨xs, hxl, hxs⟩ := choose_list (R := fun i x => ∃ c, c.length = d.sz ∧ d.K w x c ∧ wf x ∧ ∀ j u, c[j]? = some u → w.cell? (a.add (i * d.sz + j)) = some u) len (fun i hlt => by
      obtain ⟨cs', hcs, htr⟩ := hi i (by omega)
      rw [hsz] at hcs
      obtain ⟨y, hy, hwy⟩ := he htr
      obtain ⟨_, hcl, hat⟩ := World.cells?_some hcs
      refine ⟨y, cs', hcl, hy, hwy, fun j u hu => ?_⟩
      have hj : j < d.sz := by
        have := (List.getElem?_eq_some_iff.1 hu).1
        omega
      rw [← Go.Deep.add_add, hat j hj, hu])
    subst hxl
    have hmax : maxLen ≤ 9223372036854775807 := by simp [maxLen]
    refine ⟨xs, ⟨some a, cap, rfl, hl, rfl, by omega, fun _ => ⟨a, rfl, fun j p hj => ?_⟩⟩, by omega, fun x hx => ?_⟩
    · obtain ⟨c, h1, h2, _, h4⟩ := hxs j p hj
      exact ⟨c, h1, h2, h4⟩
    · obtain ⟨i, hlt, rfl⟩ := List.getElem_of_mem hx
      obtain ⟨c, _, _, h3, _⟩ := hxs i _ (List.getElem?_eq_getElem hlt)
      exact h3
/-- Cells that are types' values, one behind the other. -/
def SegTrod {H : Type} (enc : TypeId × Value → H) (P : Program) (w : World) (base : Nat) (spare : Nat → Bool) (held : Bool) : List TypeId → List Value → Prop
  | [], cs => cs = []
  | t :: ts, cs => ∃ c0 c1, cs = c0 ++ c1 ∧ (∃ fuel x, DataW.trod enc P w base spare held fuel t c0 = some x) ∧ SegTrod enc P w base spare held ts c1
def Fits (P : Program) {α : Type} (d : Kd α) (ts : List TypeId) (wf : α → Prop) : Prop :=
  ∀ {H : Type} {enc : TypeId × Value → H} {w : World} {base : Nat} {spare : Nat → Bool} {held : Bool} {cs : List Value}, SegTrod enc P w base spare held ts cs → ∃ a, d.K w a cs ∧ wf a
theorem fits_one {α : Type} {d : Kd α} {t : TypeId} {wf : α → Prop} (h : Opens P d t wf) : Fits P d [t] wf := by
  intro H enc w base spare held cs hs
  obtain ⟨c0, c1, rfl, ⟨fuel, x, hx⟩, h1⟩ := hs
  have h1' : c1 = [] := h1
  subst h1'
  rw [List.append_nil]
  exact h hx
theorem fits_pair {α β : Type} {d : Kd α} {d' : Kd β} {t : TypeId} {ts : List TypeId} {wf : α → Prop} {wf' : β → Prop} (h : Opens P d t wf) (h' : Fits P d' ts wf') : Fits P (Kd.pair d d') (t :: ts) (fun x => wf x.1 ∧ wf' x.2) := by
  intro H enc w base spare held cs hs
  obtain ⟨c0, c1, rfl, ⟨fuel, x, hx⟩, h1⟩ := hs
  obtain ⟨a, ha, hwa⟩ := h hx
  obtain ⟨b, hb, hwb⟩ := h' h1
  exact ⟨(a, b), ⟨c0, c1, rfl, ha, hb⟩, hwa, hwb⟩
/-- Do fields lie one behind the other, from o on, to the end n? -/
def inLine (P : Program) : List Field → Nat → Nat → Bool
  | [], o, n => o == n
  | f :: fs, o, n => f.offset == o && inLine P fs (o + P.cellsOf f.type) n
theorem seg_of_fields {H : Type} {enc : TypeId × Value → H} {w : World} {base : Nat} {spare : Nat → Bool} {held : Bool} {cs : List Value} {n fuel : Nat} (hn : cs.length = n) :
    ∀ (fs : List Field) (o : Nat), inLine P fs o n = true → o ≤ n → (∀ f ∈ fs, ∃ y, DataW.trod enc P w base spare held fuel f.type ((cs.drop f.offset).take (P.cellsOf f.type)) = some y) → SegTrod enc P w base spare held (fs.map (·.type)) (cs.drop o)
  | [], o, hl, _, _ => by
    have : o = n := by simpa [inLine] using hl
    show cs.drop o = []
    rw [this, ← hn, List.drop_length]
  | f :: fs, o, hl, ho, hf => by
    have h2 : f.offset = o ∧ inLine P fs (o + P.cellsOf f.type) n = true := by simpa [inLine] using hl
    obtain ⟨h2, h3⟩ := h2
    obtain ⟨y, hy⟩ := hf f (List.mem_cons_self ..)
    have hle : ∀ (gs : List Field) (q : Nat), inLine P gs q n = true → q ≤ n := by
      intro gs
      induction gs with
      | nil => intro q hq; have : q = n := by simpa [inLine] using hq
               omega
      | cons g gs ih => intro q hq; have hq' : g.offset = q ∧ inLine P gs (q + P.cellsOf g.type) n = true := by simpa [inLine] using hq
                        have := ih _ hq'.2
                        omega
    refine ⟨(cs.drop o).take (P.cellsOf f.type), (cs.drop o).drop (P.cellsOf f.type), (List.take_append_drop _ _).symm, ⟨fuel, y, by rw [← h2]; exact hy⟩, ?_⟩
    rw [List.drop_drop]
    exact seg_of_fields hn fs (o + P.cellsOf f.type) h3 (hle _ _ h3) fun g hg => hf g (List.mem_cons_of_mem _ hg)
theorem opens_struct {t : TypeId} {fs : Array Field} {α β : Type} {d : Kd α} {f : β → α} {g : α → β} {wf : α → Prop} {ts : List TypeId} (ht : P.underlying t = some (.struct fs)) (hin : inLine P fs.toList 0 (P.cellsOf t) = true) (hts : fs.toList.map (·.type) = ts)
    (hd : Fits P d ts wf) (hg : ∀ a, f (g a) = a) : Opens P (Kd.iso d f) t (fun b => wf (f b)) := by
  intro H enc w base spare held fuel cs x h
  obtain ⟨xs, n, _, _, hlen, hxl, hf⟩ := DataW.trod_struct ht h
  have hs := seg_of_fields (P := P) (enc := enc) (w := w) (base := base) (spare := spare) (held := held) (cs := cs) (fuel := n) hlen fs.toList 0 hin (Nat.zero_le _) (fun fld hm => by
    obtain ⟨i, hlt, rfl⟩ := List.getElem_of_mem hm
    have hlt' : i < fs.size := by simpa using hlt
    have h1 := hf i fs[i] (by simp [hlt'])
    have h2 : i < xs.length := by omega
    exact ⟨xs[i], by
      have e : fs.toList[i] = fs[i] := by simp
      rw [e, h1, List.getElem?_eq_getElem h2]⟩)
  rw [List.drop_zero, hts] at hs
  obtain ⟨a, ha, hwa⟩ := hd hs
  refine ⟨g a, ?_, ?_⟩
  · show d.K w (f (g a)) cs
    rw [hg]; exact ha
  · show wf (f (g a))
    rw [hg]; exact hwa
end Go.Proofs.YthkepoimagnagaaDoorW.PrintMore
