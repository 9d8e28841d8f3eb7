/- Plain law: which extension bytes are by the reference. Conditions: bytes are bytes. -/
import Derived.Test.YthkepoimagnagaaPlainC
import Derived.Test.YthkepoimagnagaaKx24
namespace Go.Proofs.Ythkepoimagnagaa.Plain
open Go.RowKit Go.Proofs.Ythkepoimagnagaa.K Go.Proofs.YthkepoimagnagaaW.PrintWords Go.Proofs.YthkepoimagnagaaW.PrintLast
set_option linter.unusedVariables false
set_option linter.unusedSimpArgs false
theorem num8 (x b : Int) (h0 : 0 ≤ x) (h1 : x < 16777216) (hb : byteI b) : wrap64 (wrap64 (x * 256) + wrap64 b) = x * 256 + b := by
  obtain ⟨g0, g1⟩ := hb
  rw [Plain.wrap_small (x * 256) (by omega) (by omega), Plain.wrap_small b (by omega) (by omega), Plain.wrap_small _ (by omega) (by omega)]
theorem number2 (k : Nat) (a b : Int) (ha : byteI a) (hb : byteI b) : cachetref05_number.f (k + 3) [a, b] = some (a + 256 * b) := by
  have e1 : wrap64 ((([a, b] : List Int).length : Int) - 1) = 1 := Plain.wrap_small _ (by simp) (by simp)
  have e2 : wrap64 ((1 : Int) - 1) = 0 := Plain.wrap_small _ (by omega) (by omega)
  have e3 : wrap64 ((0 : Int) - 1) = -1 := Plain.wrap_small _ (by omega) (by omega)
  have r1 : rd [a, b] 1 = b := rfl
  have r0 : rd [a, b] 0 = a := rfl
  obtain ⟨a0, a1⟩ := ha
  obtain ⟨b0, b1⟩ := hb
  have o1 := num8 0 b (by omega) (by omega) ⟨b0, b1⟩
  have o2 := num8 (0 * 256 + b) a (by omega) (by omega) ⟨a0, a1⟩
  unfold cachetref05_number.f
  rw [e1]
  rw [cachetref05_number.l0, if_pos (by omega), if_pos (by omega), if_pos (by simp), e2, r1, o1]
  rw [cachetref05_number.l0, if_pos (by omega), if_pos (by omega), if_pos (by simp), e3, r0, o2]
  rw [cachetref05_number.l0, if_neg (by omega)]
  exact congrArg some (by omega)
theorem number4 (k : Nat) (a b c d : Int) (ha : byteI a) (hb : byteI b) (hc : byteI c) (hd : byteI d) : cachetref05_number.f (k + 5) [a, b, c, d] = some (a + 256 * b + 65536 * c + 16777216 * d) := by
  have e0 : wrap64 ((([a, b, c, d] : List Int).length : Int) - 1) = 3 := Plain.wrap_small _ (by simp) (by simp)
  have e1 : wrap64 ((3 : Int) - 1) = 2 := Plain.wrap_small _ (by omega) (by omega)
  have e2 : wrap64 ((2 : Int) - 1) = 1 := Plain.wrap_small _ (by omega) (by omega)
  have e3 : wrap64 ((1 : Int) - 1) = 0 := Plain.wrap_small _ (by omega) (by omega)
  have e4 : wrap64 ((0 : Int) - 1) = -1 := Plain.wrap_small _ (by omega) (by omega)
  have r3 : rd [a, b, c, d] 3 = d := rfl
  have r2 : rd [a, b, c, d] 2 = c := rfl
  have r1 : rd [a, b, c, d] 1 = b := rfl
  have r0 : rd [a, b, c, d] 0 = a := rfl
  obtain ⟨a0, a1⟩ := ha
  obtain ⟨b0, b1⟩ := hb
  obtain ⟨c0, c1⟩ := hc
  obtain ⟨d0, d1⟩ := hd
  have o1 := num8 0 d (by omega) (by omega) ⟨d0, d1⟩
  have o2 := num8 (0 * 256 + d) c (by omega) (by omega) ⟨c0, c1⟩
  have o3 := num8 ((0 * 256 + d) * 256 + c) b (by omega) (by omega) ⟨b0, b1⟩
  have o4 := num8 (((0 * 256 + d) * 256 + c) * 256 + b) a (by omega) (by omega) ⟨a0, a1⟩
  unfold cachetref05_number.f
  rw [e0]
  rw [cachetref05_number.l0, if_pos (by omega), if_pos (by omega), if_pos (by simp), e1, r3, o1]
  rw [cachetref05_number.l0, if_pos (by omega), if_pos (by omega), if_pos (by simp), e2, r2, o2]
  rw [cachetref05_number.l0, if_pos (by omega), if_pos (by omega), if_pos (by simp), e3, r1, o3]
  rw [cachetref05_number.l0, if_pos (by omega), if_pos (by omega), if_pos (by simp), e4, r0, o4]
  rw [cachetref05_number.l0, if_neg (by omega)]
  exact congrArg some (by omega)
/-! The reference's Read -/
theorem rd_drop (l r : List Int) (p j : Nat) (c : Int) (cs : List Int) (h : l.drop p = cs) (hj : cs[j]? = some c) : rd l ((p + j : Nat) : Int) = c := by
  subst h
  rw [List.getElem?_drop] at hj
  unfold rd
  rw [Int.toNat_natCast, List.getD_eq_getElem?_getD, hj]
  rfl
theorem cut_drop (l cs : List Int) (p a b : Nat) (h : l.drop p = cs) : (l.take (p + b)).drop (p + a) = (cs.take b).drop a := by
  subst h
  rw [List.drop_take, List.drop_take, List.drop_drop, show p + b - (p + a) = b - a by omega]
theorem read_l0 (l : List Int) (hl : l.length ≤ 100000) (n : Nat) : ∀ (k p : Nat) (x : List Int) (a : Int) (acc : List SI), l.drop p = x → p + x.length = l.length → x.length = 8 * n → bytesI x → (∀ y ∈ acc, wfS y) → acc.length + n ≤ 1000000 → acc.length + 2 * n + 12 ≤ k →
    cachetref05_Read.l0 k l (p : Int) a acc = some (fin a (acc ++ decL x)) := by
  induction n with
  | zero =>
    intro k p x a acc hd hp h hb hw hn hk
    obtain ⟨k, rfl⟩ : ∃ m, k = m + 1 := ⟨k - 1, by omega⟩
    obtain rfl : x = [] := List.eq_nil_of_length_eq_zero (by omega)
    simp only [List.length_nil] at hp
    rw [cachetref05_Read.l0, if_neg (by omega), refcheck_eq k a acc hw (by omega) (by omega)]
    simp only [Option.bind_some, decL, List.append_nil, fin]
    by_cases c : checkN a acc = 0
    · rw [if_pos c, if_pos c]
    · rw [if_neg c, if_neg c]
  | succ n ih =>
    intro k p x a acc hd hp h hb hw hn hk
    obtain ⟨k, rfl⟩ : ∃ m, k = m + 1 := ⟨k - 1, by omega⟩
    obtain ⟨c0, c1, c2, c3, c4, c5, c6, c7, r, rfl, hr⟩ := eight n x h
    have d0 := hb c0 (by simp)
    have d1 := hb c1 (by simp)
    have d2 := hb c2 (by simp)
    have d3 := hb c3 (by simp)
    have d4 := hb c4 (by simp)
    have d5 := hb c5 (by simp)
    have d6 := hb c6 (by simp)
    have d7 := hb c7 (by simp)
    have hlen : (c0 :: c1 :: c2 :: c3 :: c4 :: c5 :: c6 :: c7 :: r).length = r.length + 8 := rfl
    rw [hlen] at hp
    have w1 : wrap64 ((p : Int) + 1) = ((p + 1 : Nat) : Int) := Plain.wrap_small _ (by omega) (by omega)
    have w2 : wrap64 ((p : Int) + 2) = ((p + 2 : Nat) : Int) := Plain.wrap_small _ (by omega) (by omega)
    have w4 : wrap64 ((p : Int) + 4) = ((p + 4 : Nat) : Int) := Plain.wrap_small _ (by omega) (by omega)
    have w8 : wrap64 ((p : Int) + 8) = ((p + 8 : Nat) : Int) := Plain.wrap_small _ (by omega) (by omega)
    have t1 : (l.take (p + 4)).drop (p + 2) = [c2, c3] := cut_drop l _ p 2 4 hd
    have t2 : (l.take (p + 8)).drop (p + 4) = [c4, c5, c6, c7] := cut_drop l _ p 4 8 hd
    have r0 : rd l (p : Int) = c0 := rd_drop l [] p 0 c0 _ hd rfl
    have r1 : rd l ((p + 1 : Nat) : Int) = c1 := rd_drop l [] p 1 c1 _ hd rfl
    have hdr : l.drop (p + 8) = r := by rw [← List.drop_drop, hd]; rfl
    obtain ⟨m, rfl⟩ : ∃ m, k = m + 5 := ⟨k - 5, by omega⟩
    have hx := ih (m + 5) (p + 8) r a (acc ++ [decIns c0 c1 c2 c3 c4 c5 c6 c7]) hdr (by omega) hr (fun b hm => hb b (by simp [hm])) (by
      intro y hy
      rcases List.mem_append.1 hy with hy | hy
      · exact hw y hy
      · obtain rfl := List.mem_singleton.1 hy
        unfold byteI at d4 d5 d6 d7
        show 0 ≤ c4 + 256 * c5 + 65536 * c6 + 16777216 * c7 ∧ c4 + 256 * c5 + 65536 * c6 + 16777216 * c7 ≤ 4294967295
        omega) (by simp; omega) (by simp; omega)
    rw [cachetref05_Read.l0, w1, w2, w4, w8, if_pos (by omega), if_pos (by omega), if_pos (by omega), if_pos (by omega), Int.toNat_natCast, Int.toNat_natCast, t1, number2 (m + 2) c2 c3 d2 d3, Int.toNat_natCast, t2, number4 m c4 c5 c6 c7 d4 d5 d6 d7, r0, r1]
    clear w1 w2 w4 w8
    simp only [Option.bind_some]
    unfold byteI at d0 d1 d2 d3 d4 d5 d6 d7
    have e : ∀ q : Int, q = sgn (c2 + 256 * c3) → (⟨wrap64 c0, wrap64 (Int.tdiv (wrap64 c1) 16), Int.tmod (wrap64 c1) 16, q, (c4 + 256 * c5 + 65536 * c6 + 16777216 * c7) % 4294967296⟩ : SI) = decIns c0 c1 c2 c3 c4 c5 c6 c7 := by
      intro q hq
      unfold decIns
      rw [Plain.wrap_small c0 (by omega) (by omega), Plain.wrap_small c1 (by omega) (by omega), Int.tdiv_eq_ediv_of_nonneg d1.1, Int.tmod_eq_emod_of_nonneg d1.1, Plain.wrap_small (c1 / 16) (by omega) (by omega), hq, Int.emod_eq_of_lt (a := c4 + 256 * c5 + 65536 * c6 + 16777216 * c7) (by omega) (by omega)]
    have hfin : fin a (acc ++ [decIns c0 c1 c2 c3 c4 c5 c6 c7] ++ decL r) = fin a (acc ++ decL (c0 :: c1 :: c2 :: c3 :: c4 :: c5 :: c6 :: c7 :: r)) := by
      simp only [decL, List.append_assoc, List.singleton_append]
    by_cases c : c2 + 256 * c3 ≥ 32768
    · rw [if_pos c, if_pos (by omega), if_pos (by omega), if_pos (by omega), if_pos (by omega), if_pos (by omega), if_pos (by omega), if_pos (by omega), Plain.wrap_small (c2 + 256 * c3 - 65536) (by omega) (by omega), e _ (by unfold sgn; rw [if_pos c]), hx, hfin]
    · rw [if_neg c, if_pos (by omega), if_pos (by omega), if_pos (by omega), if_pos (by omega), if_pos (by omega), if_pos (by omega), if_pos (by omega), e _ (by unfold sgn; rw [if_neg c]), hx, hfin]
theorem read_eq (k : Nat) (l : List Int) (hb : bytesI l) (hl : l.length ≤ 100000) (hk : l.length + 20 ≤ k) : cachetref05_Read.f k l = some (readN l) := by
  obtain ⟨k, rfl⟩ : ∃ m, k = m + 3 := ⟨k - 3, by omega⟩
  unfold cachetref05_Read.f
  by_cases h6 : (l.length : Int) < 6
  · rw [if_pos h6, cachetref05_Read.j0, if_pos rfl, readN_short l (by omega)]
  · rw [if_neg h6, if_pos (by omega)]
    obtain ⟨c0, c1, s0, s1, n0, n1, r, rfl⟩ := six l (by omega)
    have d2 := hb s0 (by simp)
    have d3 := hb s1 (by simp)
    have d4 := hb n0 (by simp)
    have d5 := hb n1 (by simp)
    have hlen : (c0 :: c1 :: s0 :: s1 :: n0 :: n1 :: r).length = r.length + 6 := rfl
    have t1 : ((c0 :: c1 :: s0 :: s1 :: n0 :: n1 :: r).take 6).drop 4 = [n0, n1] := rfl
    have t2 : ((c0 :: c1 :: s0 :: s1 :: n0 :: n1 :: r).take 4).drop 2 = [s0, s1] := rfl
    have r0 : rd (c0 :: c1 :: s0 :: s1 :: n0 :: n1 :: r) 0 = c0 := rfl
    have r1 : rd (c0 :: c1 :: s0 :: s1 :: n0 :: n1 :: r) 1 = c1 := rfl
    have hl' := hl
    rw [hlen] at hl hk
    rw [r0]
    by_cases hc0 : c0 = 67
    · rw [if_pos hc0, hlen, if_pos (by omega), r1]
      by_cases hc1 : c1 = 88
      · rw [if_pos hc1, if_pos (by omega), if_pos (by omega), t1, number2 k n0 n1 d4 d5]
        simp only [Option.bind_some, readN]
        unfold byteI at d4 d5
        rw [Plain.wrap_small (8 * (n0 + 256 * n1)) (by omega) (by omega), Plain.wrap_small (6 + 8 * (n0 + 256 * n1)) (by omega) (by omega), cachetref05_Read.j0]
        by_cases hn : (r.length : Int) = 8 * (n0 + 256 * n1)
        · rw [if_neg (by simp; omega), if_pos (by omega), hlen, if_pos (by omega), if_pos ⟨hc0, hc1, hn⟩, t2]
          obtain ⟨m, rfl⟩ : ∃ m, k = m + 1 := ⟨k - 1, by omega⟩
          show ((cachetref05_number.f (m + 3) [s0, s1]).bind _) = _
          rw [number2 m s0 s1 d2 d3]
          simp only [Option.bind_some]
          obtain ⟨n, hn'⟩ : ∃ n : Nat, r.length = 8 * n := ⟨(n0 + 256 * n1).toNat, by omega⟩
          have h := read_l0 (c0 :: c1 :: s0 :: s1 :: n0 :: n1 :: r) hl' n (m + 1 + 2) 6 r (s0 + 256 * s1) [] rfl (by rw [hlen]; omega) hn' (fun b hm => hb b (by simp [hm])) (by simp) (by simp; omega) (by simp; omega)
          exact h
        · rw [if_pos (by simp; omega), if_neg (fun h => hn h.2.2)]
      · rw [if_neg hc1, cachetref05_Read.j0, if_pos rfl]
        simp only [readN]
        rw [if_neg (fun h => hc1 h.2.1)]
    · rw [if_neg hc0, cachetref05_Read.j0, if_pos rfl]
      simp only [readN]
      rw [if_neg (fun h => hc0 h.1)]

end Go.Proofs.Ythkepoimagnagaa.Plain
