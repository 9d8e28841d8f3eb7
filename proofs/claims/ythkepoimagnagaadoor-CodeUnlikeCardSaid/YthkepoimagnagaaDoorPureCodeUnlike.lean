/- Two extensions have the same bytes just if they are the same, and two instructions the same text: the statement CodeUnlike answers true. No condition. -/
import Derived.Test.YthkepoimagnagaaDoorAimCodeUnlike
import Derived.Test.YthkepoimagnagaaDoorPlainU
import Derived.DataShut
namespace Go.Proofs.YthkepoimagnagaaDoor.Pure
open Go.RowKit Go.Proofs.YthkepoimagnagaaDoor.K Go.Proofs.YthkepoimagnagaaDoor.Plain Go.Proofs.YthkepoimagnagaaDoorW.PrintWords Go.Proofs.YthkepoimagnagaaDoorW.PrintLast
set_option linter.unusedVariables false
set_option linter.unusedSimpArgs false

def eqS (x y : SI) : Bool := x.f0 == y.f0 && (x.f1 == y.f1 && (x.f2 == y.f2 && (x.f3 == y.f3 && (x.f4 == y.f4))))
theorem eqS_iff (x y : SI) : eqS x y = true ↔ x = y := by
  constructor
  · intro h
    unfold eqS at h
    simp only [Bool.and_eq_true, beq_iff_eq] at h
    obtain ⟨h0, h1, h2, h3, h4⟩ := h
    cases x; cases y
    simp only at *
    subst h0 h1 h2 h3 h4
    rfl
  · rintro rfl
    simp [eqS]
theorem neS (x y : SI) : (!(x.f0 == y.f0) || (!(x.f1 == y.f1) || (!(x.f2 == y.f2) || (!(x.f3 == y.f3) || (!(x.f4 == y.f4)))))) = !eqS x y := by
  unfold eqS
  simp only [Bool.not_and]
theorem same_any (a b : Int) (l m : List SI) (hlen : l.length = m.length) (hb : l.length ≤ 9000000000000000000) (d : Nat) : ∀ (i k : Nat), i ≤ l.length → l.length - i = d → d < k → ∃ r, cachetref05_Same.l0 k (i : Int) a l b m = some r ∧ (r = true ↔ l.drop i = m.drop i) := by
  induction d with
  | zero =>
    intro i k h0 h1 h2
    obtain ⟨k, rfl⟩ : ∃ m, k = m + 1 := ⟨k - 1, by omega⟩
    refine ⟨true, ?_, ?_⟩
    · rw [cachetref05_Same.l0, if_neg (by omega)]
    · rw [List.drop_of_length_le (by omega), List.drop_of_length_le (by omega)]; simp
  | succ d ih =>
    intro i k h0 h1 h2
    obtain ⟨k, rfl⟩ : ∃ m, k = m + 1 := ⟨k - 1, by omega⟩
    have hi : i < l.length := by omega
    have hj : i < m.length := by omega
    rw [cachetref05_Same.l0, if_pos (by omega), if_pos (by omega), if_pos (by omega), rd_at l i hi, rd_at m i hj, neS, List.drop_eq_getElem_cons hi, List.drop_eq_getElem_cons hj]
    cases he : eqS l[i] m[i] with
    | false =>
      refine ⟨false, ?_, ?_⟩
      · rw [if_pos (by rfl)]
      · constructor
        · intro h; cases h
        · intro h
          simp only [List.cons.injEq] at h
          rw [(eqS_iff _ _).2 h.1] at he; cases he
    | true =>
      rw [if_neg (by simp), Plain.wrap_small _ (by omega) (by omega)]
      obtain ⟨r, h3, h4⟩ := ih (i + 1) k (by omega) (by omega) (by omega)
      refine ⟨r, h3, h4.trans ?_⟩
      exact ⟨fun h => by rw [(eqS_iff _ _).1 he, h], fun h => (List.cons.inj h).2⟩
theorem same_f (k : Nat) (a b : Int) (l m : List SI) (hb : l.length ≤ 9000000000000000000) (hk : l.length + 3 ≤ k) : ∃ r, cachetref05_Same.f k a l b m = some r ∧ (r = true ↔ a = b ∧ l = m) := by
  obtain ⟨k, rfl⟩ : ∃ m, k = m + 1 := ⟨k - 1, by omega⟩
  unfold cachetref05_Same.f
  by_cases hab : a = b
  · rw [if_pos hab]
    by_cases hlen : l.length = m.length
    · rw [show ((l.length : Int) != (m.length : Int)) = false from bne_eq_false_iff_eq.2 (by omega), cachetref05_Same.j0, if_neg (by simp)]
      obtain ⟨r, h1, h2⟩ := same_any a b l m hlen hb l.length 0 k (by omega) (by omega) (by omega)
      refine ⟨r, h1, h2.trans ?_⟩
      simp [hab]
    · rw [show ((l.length : Int) != (m.length : Int)) = true from bne_iff_ne.2 (by omega), cachetref05_Same.j0, if_pos rfl]
      refine ⟨false, rfl, ?_⟩
      constructor
      · intro h; cases h
      · rintro ⟨_, rfl⟩; exact absurd rfl hlen
  · rw [if_neg hab, cachetref05_Same.j0, if_pos rfl]
    refine ⟨false, rfl, ?_⟩
    constructor
    · intro h; cases h
    · rintro ⟨h, _⟩; exact absurd h hab
def wfI (x : SI) : Prop := wfN x.f1 x.f2 x.f3 x.f4
theorem textN_zero (x : SI) : (textN x.f0 x.f1 x.f2 x.f3 x.f4).2 = 0 → mayS x = true := by
  unfold textN mayS
  cases mayB x.f0 x.f1 x.f2 x.f3 x.f4 <;> simp
theorem texts_same (x y : SI) (hx : mayS x = true) (hy : mayS y = true) (wx : wfI x) (wy : wfI y) : ((textN x.f0 x.f1 x.f2 x.f3 x.f4).1.toList == (textN y.f0 y.f1 y.f2 y.f3 y.f4).1.toList) = eqS x y := by
  rw [ByteArray.toList_eq, ByteArray.toList_eq]
  cases he : eqS x y with
  | true => rw [(eqS_iff _ _).1 he]; simp
  | false =>
    refine beq_eq_false_iff_ne.2 fun h => ?_
    rw [(eqS_iff _ _).2 (text_inj x y hx hy ⟨wx.2.2.2.1, wx.2.2.2.2⟩ ⟨wy.2.2.2.1, wy.2.2.2.2⟩ h)] at he
    cases he
theorem unl_l0 (a b : Int) (l m : List SI) (hl : ∀ x ∈ l, wfI x) (hm : ∀ x ∈ m, wfI x) (hb : l.length ≤ 1000) (d : Nat) : ∀ (i k : Nat), i ≤ l.length → l.length - i = d → 2 * d + 2 ≤ k → cachetlaw05_CodeUnlike.l0 k (i : Int) a l b m = some true := by
  induction d with
  | zero =>
    intro i k h0 h1 h2
    obtain ⟨k, rfl⟩ : ∃ m, k = m + 2 := ⟨k - 2, by omega⟩
    rw [cachetlaw05_CodeUnlike.l0, if_neg (by omega), cachetlaw05_CodeUnlike.j3, if_neg (by simp)]
    exact known_bind
  | succ d ih =>
    intro i k h0 h1 h2
    obtain ⟨k, rfl⟩ : ∃ m, k = m + 2 := ⟨k - 2, by omega⟩
    have hi : i < l.length := by omega
    rw [cachetlaw05_CodeUnlike.l0, if_pos (by omega)]
    by_cases hj : i < m.length
    · rw [decide_eq_true (by omega), cachetlaw05_CodeUnlike.j3, if_pos rfl, if_pos (by omega), if_pos (by omega), rd_at l i hi]
      have wx := hl _ (List.getElem_mem hi)
      have wy := hm _ (List.getElem_mem hj)
      have hn := ih (i + 1) k (by omega) (by omega) (by omega)
      rw [Plain.wrap_small _ (by omega) (by omega), show (i : Int) + 1 = ((i + 1 : Nat) : Int) by omega, rd_at m i hj, hn]
      generalize l[i] = x at *
      generalize m[i] = y at *
      rw [text_eq _ _ _ _ _ wx]
      simp only [Option.bind_some]
      rw [if_pos (by omega), text_eq _ _ _ _ _ wy]
      simp only [Option.bind_some]
      by_cases e1 : (textN x.f0 x.f1 x.f2 x.f3 x.f4).2 = 0
      · rw [if_pos e1]
        by_cases e2 : (textN y.f0 y.f1 y.f2 y.f3 y.f4).2 = 0
        · rw [if_pos e2, texts_same x y (textN_zero x e1) (textN_zero y e2) wx wy, if_neg (by unfold eqS; simp)]
        · rw [if_neg e2]
      · rw [if_neg e1]
    · rw [decide_eq_false (by omega), cachetlaw05_CodeUnlike.j3, if_neg (by simp)]
      exact known_bind
theorem CodeUnlike : cachetlaw05_CodeUnlike.Pure := by
  intro a l b m wa wl wb wm
  have toI : ∀ x : SI, wf36 x → wfI x := by
    rintro x ⟨h0, h1, h2, h3, h4⟩
    replace h1 := (Lit.wf_int_iff _ _).1 h1
    replace h2 := (Lit.wf_int_iff _ _).1 h2
    replace h3 := (Lit.wf_int_iff _ _).1 h3
    replace h4 := (Lit.wf_int_iff _ _).1 h4
    rw [show IntKind.i64.min = -9223372036854775808 from rfl, show IntKind.i64.max = 9223372036854775807 from rfl] at h1 h2 h3
    rw [show IntKind.u32.min = 0 from rfl, show IntKind.u32.max = 4294967295 from rfl] at h4
    exact ⟨h1, h2, h3, h4⟩
  have hl : ∀ x ∈ l, wfI x := fun x hx => toI x (wl.2 x hx)
  have hm : ∀ x ∈ m, wfI x := fun x hx => toI x (wm.2 x hx)
  have sl : ∀ x ∈ l, wfS x := fun x hx => ⟨(hl x hx).2.2.2.1, (hl x hx).2.2.2.2⟩
  have sm : ∀ x ∈ m, wfS x := fun x hx => ⟨(hm x hx).2.2.2.1, (hm x hx).2.2.2.2⟩
  refine ⟨200, ?_⟩
  unfold cachetlaw05_CodeUnlike.f
  by_cases h1 : (l.length : Int) > 40
  · rw [if_pos h1, cachetlaw05_CodeUnlike.j0, if_pos rfl]
    exact known_bind
  · rw [if_neg h1]
    by_cases h2 : (m.length : Int) > 40
    · rw [decide_eq_true h2, cachetlaw05_CodeUnlike.j0, if_pos rfl]
      exact known_bind
    · rw [decide_eq_false h2, cachetlaw05_CodeUnlike.j0, if_neg (by simp), encode_eq a l (by omega), encode_eq b m (by omega)]
      have hend : cachetlaw05_CodeUnlike.j1 199 false a l b m = some true := by
        rw [cachetlaw05_CodeUnlike.j1, if_neg (by simp)]
        exact unl_l0 a b l m hl hm (by omega) l.length 0 198 (by omega) (by omega) (by omega)
      simp only [Option.bind_some]
      by_cases ca : checkN a l = 0
      · rw [if_pos ca]
        by_cases cb : checkN b m = 0
        · rw [if_pos cb]
          obtain ⟨r, e1, e2⟩ := same_f 199 a b l m (by omega) (by omega)
          rw [e1]
          simp only [Option.bind_some]
          rw [if_pos ca, if_pos cb]
          have e3 := enc_inj a b l m ca cb sl sm
          have e4 : ((strOfNums (encN a l)).toList == (strOfNums (encN b m)).toList) = r := by
            cases r with
            | true => exact beq_iff_eq.2 (e3.2 (e2.1 rfl))
            | false => exact beq_eq_false_iff_ne.2 fun h => by have := e2.2 (e3.1 h); cases this
          rw [e4, show (r != r) = false from bne_self_eq_false r]
          exact hend
        · rw [if_neg cb]; exact hend
      · rw [if_neg ca]; exact hend
end Go.Proofs.YthkepoimagnagaaDoor.Pure
