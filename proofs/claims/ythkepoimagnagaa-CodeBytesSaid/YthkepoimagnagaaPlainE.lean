/- Plain law: the reference's bytes of an extension. Conditions: numbers are of their kinds. -/
import Derived.Test.YthkepoimagnagaaPlainB
import Derived.Test.YthkepoimagnagaaKx20
namespace Go.Proofs.Ythkepoimagnagaa.Plain
open Go.RowKit Go.Proofs.Ythkepoimagnagaa.K Go.Proofs.YthkepoimagnagaaW.PrintWords Go.Proofs.YthkepoimagnagaaW.PrintLast
set_option linter.unusedVariables false
set_option linter.unusedSimpArgs false
theorem low2 (k : Nat) (n : Int) (h0 : 0 ≤ n) (h1 : n ≤ 4294967295) : cachetref05_low.f (k + 3) n 2 = some (b2 n) := by
  simp only [cachetref05_low.f, cachetref05_low.l0, List.nil_append, List.length_nil, List.length_cons, List.cons_append]
  rw [if_pos (by omega), if_pos (by omega), Plain.wrap_small (0 + 1) (by omega) (by omega), if_pos (by omega), if_pos (by omega), Plain.wrap_small (0 + 1 + 1) (by omega) (by omega), if_neg (by omega), td n h0, Plain.wrap_small (n / 256) (by omega) (by omega), tm n h0, tm _ (by omega)]
  rfl
theorem low4 (k : Nat) (n : Int) (h0 : 0 ≤ n) (h1 : n ≤ 4294967295) : cachetref05_low.f (k + 5) n 4 = some (b4 n) := by
  simp only [cachetref05_low.f, cachetref05_low.l0, List.nil_append, List.length_nil, List.length_cons, List.cons_append]
  rw [if_pos (by omega), if_pos (by omega), Plain.wrap_small (0 + 1) (by omega) (by omega), if_pos (by omega), if_pos (by omega), Plain.wrap_small (0 + 1 + 1) (by omega) (by omega), if_pos (by omega), if_pos (by omega), Plain.wrap_small (0 + 1 + 1 + 1) (by omega) (by omega), if_pos (by omega), if_pos (by omega), Plain.wrap_small (0 + 1 + 1 + 1 + 1) (by omega) (by omega), if_neg (by omega),
    td n h0, Plain.wrap_small (n / 256) (by omega) (by omega), td (n / 256) (by omega), Plain.wrap_small (n / 256 / 256) (by omega) (by omega), td (n / 256 / 256) (by omega), Plain.wrap_small (n / 256 / 256 / 256) (by omega) (by omega), tm n h0, tm _ (by omega), tm _ (by omega), tm _ (by omega)]
  unfold b4
  rw [show n / 256 / 256 = n / 65536 by omega, show n / 65536 / 256 = n / 16777216 by omega]
/-! The reference's bytes -/
theorem take_snoc (l : List SI) (i : Nat) (h : i < l.length) : (l.take (i + 1)).flatMap insN = (l.take i).flatMap insN ++ insN l[i] := by
  rw [List.take_succ_eq_append_getElem h, List.flatMap_append]
  simp
theorem refbytes_l0 (a : Int) (l : List SI) (hm : l.all mayS = true) (hw : ∀ x ∈ l, wfS x) (hb : l.length ≤ 100000) (out : List Int) (ho : out.length ≤ 1000) (d : Nat) : ∀ (i k : Nat), i ≤ l.length → l.length - i = d → d < k →
    cachetref05_Bytes.l0 (k + 6) (out ++ (l.take i).flatMap insN) (i : Int) a l = some (out ++ l.flatMap insN) := by
  induction d with
  | zero =>
    intro i k h0 h1 h2
    have e : i = l.length := by omega
    subst e
    rw [cachetref05_Bytes.l0, if_neg (by omega), List.take_length]
  | succ d ih =>
    intro i k h0 h1 h2
    obtain ⟨k, rfl⟩ : ∃ m, k = m + 1 := ⟨k - 1, by omega⟩
    have hlt : i < l.length := by omega
    have hx := hw l[i] (List.getElem_mem hlt)
    have hmx : mayS l[i] = true := List.all_eq_true.1 hm _ (List.getElem_mem hlt)
    obtain ⟨g1, g2, g3, g4, g5, g6, g7, g8⟩ := may_facts _ hmx
    have hlen : (out ++ (l.take i).flatMap insN).length ≤ 1000 + 8 * 100000 := by
      rw [List.length_append, flatN_length, List.length_take]; omega
    show cachetref05_Bytes.l0 ((k + 6) + 1) _ (i : Int) a l = _
    have next := ih (i + 1) k (by omega) (by omega) (by omega)
    rw [take_snoc l i hlt] at next
    rw [cachetref05_Bytes.l0, if_pos (by omega), if_pos (by omega), rd_at l i hlt]
    generalize hz : out ++ (l.take i).flatMap insN = z at *
    have e0 : wrap64 (wrap64 (16 * l[i].f1) + l[i].f2) % 256 = 16 * l[i].f1 + l[i].f2 := by
      rw [Plain.wrap_small (16 * l[i].f1) (by omega) (by omega), Plain.wrap_small _ (by omega) (by omega)]; omega
    have e1 : l[i].f0 % 256 = l[i].f0 := by omega
    have e2 : wrap64 l[i].f4 = l[i].f4 := Plain.wrap_small _ (by have := hx.1; omega) (by have := hx.2; omega)
    have ew : wrap64 ((i : Int) + 1) = ((i + 1 : Nat) : Int) := Plain.wrap_small _ (by omega) (by omega)
    rw [e0, e1, e2, ew, low4 (k + 1) _ hx.1 hx.2]
    have fin : ∀ n : Int, 0 ≤ n → n ≤ 65535 → n = (if l[i].f3 < 0 then l[i].f3 + 65536 else l[i].f3) → ((cachetref05_low.f (k + 6) n 2).bind fun t => if (z ++ [l[i].f0, 16 * l[i].f1 + l[i].f2]).length + t.length < 140737488355328 then (some (z ++ [l[i].f0, 16 * l[i].f1 + l[i].f2] ++ t : List Int)).bind fun y => (some (b4 l[i].f4)).bind fun u => if y.length + u.length < 140737488355328 then cachetref05_Bytes.l0 (k + 6) (y ++ u) ((i + 1 : Nat) : Int) a l else none else none) = some (out ++ l.flatMap insN) := by
      intro n n0 n1 hn
      rw [low2 (k + 3) n n0 (by omega)]
      simp only [Option.bind_some, List.length_append, List.length_cons, List.length_nil, b2, b4]
      rw [if_pos (by omega), if_pos (by omega)]
      rw [← next]
      simp [hn, insN, b2, b4, List.append_assoc, ← hz]
    by_cases c : l[i].f3 < 0
    · rw [if_pos c]
      simp only [Option.bind_some, List.length_cons, List.length_nil]
      rw [if_pos (by omega), Plain.wrap_small (l[i].f3 + 65536) (by omega) (by omega)]
      exact fin (l[i].f3 + 65536) (by omega) (by omega) (by rw [if_pos c])
    · rw [if_neg c]
      simp only [Option.bind_some, List.length_cons, List.length_nil]
      rw [if_pos (by omega)]
      exact fin l[i].f3 (by omega) (by omega) (by rw [if_neg c])
theorem refbytes_eq (k : Nat) (a : Int) (l : List SI) (h0 : 0 ≤ a) (h1 : a ≤ 65535) (hm : l.all mayS = true) (hw : ∀ x ∈ l, wfS x) (hb : l.length ≤ 65535) (hk : l.length + 8 ≤ k) : cachetref05_Bytes.f k a l = some (bytesN a l) := by
  obtain ⟨k, rfl⟩ : ∃ m, k = m + 8 := ⟨k - 8, by omega⟩
  unfold cachetref05_Bytes.f
  rw [low2 (k + 5) a h0 (by omega), low2 (k + 5) (l.length : Int) (by omega) (by omega)]
  simp only [Option.bind_some, List.length_append, List.length_cons, List.length_nil, b2]
  rw [if_pos (by omega), if_pos (by omega)]
  have h := refbytes_l0 a l hm hw (by omega) ([67, 88] ++ b2 a ++ b2 (l.length : Int)) (by simp [b2]) l.length 0 (k + 2) (by omega) (by omega) (by omega)
  simp only [List.take_zero, List.flatMap_nil, List.append_nil] at h
  exact h
end Go.Proofs.Ythkepoimagnagaa.Plain
