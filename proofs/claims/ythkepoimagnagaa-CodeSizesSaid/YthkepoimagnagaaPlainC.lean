/- Plain law: which extension bytes are, by the program and by the reference, is one function of the bytes; what is read is written as the same bytes. Conditions: bytes are bytes. -/
import Derived.Test.YthkepoimagnagaaPlainB
import Derived.Test.YthkepoimagnagaaKx18
namespace Go.Proofs.Ythkepoimagnagaa.Plain
open Go.RowKit Go.Proofs.Ythkepoimagnagaa.K Go.Proofs.YthkepoimagnagaaW.PrintWords Go.Proofs.YthkepoimagnagaaW.PrintLast
set_option linter.unusedVariables false
set_option linter.unusedSimpArgs false

def bytesI (l : List Int) : Prop := ∀ b ∈ l, byteI b
theorem eight (n : Nat) (x : List Int) (h : x.length = 8 * (n + 1)) : ∃ c0 c1 c2 c3 c4 c5 c6 c7 r, x = c0 :: c1 :: c2 :: c3 :: c4 :: c5 :: c6 :: c7 :: r ∧ r.length = 8 * n := by
  match x, h with
  | c0 :: c1 :: c2 :: c3 :: c4 :: c5 :: c6 :: c7 :: r, h =>
    simp only [List.length_cons] at h
    exact ⟨c0, c1, c2, c3, c4, c5, c6, c7, r, rfl, by omega⟩
theorem decL_length (n : Nat) : ∀ x : List Int, x.length = 8 * n → (decL x).length = n := by
  induction n with
  | zero => intro x h; obtain rfl : x = [] := List.eq_nil_of_length_eq_zero (by omega); rfl
  | succ n ih =>
    intro x h
    obtain ⟨c0, c1, c2, c3, c4, c5, c6, c7, r, rfl, hr⟩ := eight n x h
    simp only [decL, List.length_cons, ih r hr]
theorem decL_wf (n : Nat) : ∀ x : List Int, x.length = 8 * n → bytesI x → ∀ y ∈ decL x, wfS y := by
  induction n with
  | zero => intro x h hb y hy; obtain rfl : x = [] := List.eq_nil_of_length_eq_zero (by omega); simp [decL] at hy
  | succ n ih =>
    intro x h hb y hy
    obtain ⟨c0, c1, c2, c3, c4, c5, c6, c7, r, rfl, hr⟩ := eight n x h
    simp only [decL, List.mem_cons] at hy
    rcases hy with rfl | hy
    · have b4 := hb c4 (by simp)
      have b5 := hb c5 (by simp)
      have b6 := hb c6 (by simp)
      have b7 := hb c7 (by simp)
      unfold byteI at b4 b5 b6 b7
      show 0 ≤ c4 + 256 * c5 + 65536 * c6 + 16777216 * c7 ∧ c4 + 256 * c5 + 65536 * c6 + 16777216 * c7 ≤ 4294967295
      omega
    · exact ih r hr (fun b hm => hb b (by simp [hm])) y hy
/-- What is read is written as the same bytes. -/
theorem flat_dec (n : Nat) : ∀ x : List Int, x.length = 8 * n → bytesI x → (decL x).all mayS = true → (decL x).flatMap insN = x := by
  induction n with
  | zero => intro x h hb hm; obtain rfl : x = [] := List.eq_nil_of_length_eq_zero (by omega); rfl
  | succ n ih =>
    intro x h hb hm
    obtain ⟨c0, c1, c2, c3, c4, c5, c6, c7, r, rfl, hr⟩ := eight n x h
    simp only [decL, List.all_cons, Bool.and_eq_true] at hm
    obtain ⟨m1, m2⟩ := hm
    obtain ⟨g1, g2, g3, g4, g5, g6, g7, g8⟩ := may_facts _ m1
    have d0 := hb c0 (by simp)
    have d1 := hb c1 (by simp)
    have d2 := hb c2 (by simp)
    have d3 := hb c3 (by simp)
    have d4 := hb c4 (by simp)
    have d5 := hb c5 (by simp)
    have d6 := hb c6 (by simp)
    have d7 := hb c7 (by simp)
    unfold byteI at d0 d1 d2 d3 d4 d5 d6 d7
    simp only [decL, List.flatMap_cons]
    rw [ih r hr (fun b hm => hb b (by simp [hm])) m2]
    have e1 : 16 * (c1 / 16) + c1 % 16 = c1 := by omega
    have e2 : b2 (if sgn (c2 + 256 * c3) < 0 then sgn (c2 + 256 * c3) + 65536 else sgn (c2 + 256 * c3)) = [c2, c3] := by
      unfold sgn b2
      by_cases c : c2 + 256 * c3 ≥ 32768
      · rw [if_pos c, if_pos (by omega), show (c2 + 256 * c3 - 65536 + 65536) % 256 = c2 by omega, show (c2 + 256 * c3 - 65536 + 65536) / 256 % 256 = c3 by omega]
      · rw [if_neg c, if_neg (by omega), show (c2 + 256 * c3) % 256 = c2 by omega, show (c2 + 256 * c3) / 256 % 256 = c3 by omega]
    have e3 : b4 (c4 + 256 * c5 + 65536 * c6 + 16777216 * c7) = [c4, c5, c6, c7] := by
      unfold b4
      rw [show (c4 + 256 * c5 + 65536 * c6 + 16777216 * c7) % 256 = c4 by omega, show (c4 + 256 * c5 + 65536 * c6 + 16777216 * c7) / 256 % 256 = c5 by omega, show (c4 + 256 * c5 + 65536 * c6 + 16777216 * c7) / 65536 % 256 = c6 by omega, show (c4 + 256 * c5 + 65536 * c6 + 16777216 * c7) / 16777216 % 256 = c7 by omega]
    show [c0, 16 * (c1 / 16) + c1 % 16] ++ b2 (if sgn (c2 + 256 * c3) < 0 then sgn (c2 + 256 * c3) + 65536 else sgn (c2 + 256 * c3)) ++ b4 (c4 + 256 * c5 + 65536 * c6 + 16777216 * c7) ++ r = _
    rw [e1, e2, e3]
    rfl
/-- Of bytes: the context's size and the instructions, or an error. -/
def fin (a : Int) (l : List SI) : Int × List SI × Int := if checkN a l = 0 then (a, l, 0) else (0, [], checkN a l)
def readN : List Int → Int × List SI × Int
  | c0 :: c1 :: s0 :: s1 :: n0 :: n1 :: r => if c0 = 67 ∧ c1 = 88 ∧ (r.length : Int) = 8 * (n0 + 256 * n1) then fin (s0 + 256 * s1) (decL r) else (0, [], 150)
  | _ => (0, [], 150)

/-! The program's Decode -/
theorem i16_wrap (n : Int) (h0 : 0 ≤ n) (h1 : n ≤ 65535) : wrap64 (IntKind.i16.wrap n) = sgn n := by
  have e : IntKind.i16.wrap n = (n + 32768) % 65536 - 32768 := by
    simp [IntKind.wrap, IntKind.bits, IntKind.signed]
    split <;> omega
  rw [e, Plain.wrap_small _ (by omega) (by omega)]
  unfold sgn
  by_cases c : n ≥ 32768
  · rw [if_pos c]; omega
  · rw [if_neg c]; omega
theorem dec_l0 (n : Nat) : ∀ (k : Nat) (x : List Int) (a : Int) (acc : List SI), x.length = 8 * n → bytesI x → acc.length + n ≤ 1000000 → acc.length + 2 * n + 10 ≤ k →
    code_Decode.l0 k x a acc = some (fin a (acc ++ decL x)) := by
  induction n with
  | zero =>
    intro k x a acc h hb hl hk
    obtain ⟨k, rfl⟩ : ∃ m, k = m + 1 := ⟨k - 1, by omega⟩
    obtain rfl : x = [] := List.eq_nil_of_length_eq_zero (by omega)
    rw [code_Decode.l0, if_neg (by simp), check_eq k a acc (by omega) (by omega)]
    simp only [Option.bind_some, decL, List.append_nil, fin]
    by_cases c : checkN a acc = 0
    · rw [if_pos c, if_pos c]
    · rw [if_neg c, if_neg c]
  | succ n ih =>
    intro k x a acc h hb hl hk
    obtain ⟨k, rfl⟩ : ∃ m, k = m + 1 := ⟨k - 1, by omega⟩
    obtain ⟨c0, c1, c2, c3, c4, c5, c6, c7, r, rfl, hr⟩ := eight n x h
    have d0 := hb c0 (by simp)
    have d1 := hb c1 (by simp)
    have d2 := hb c2 (by simp)
    have d3 := hb c3 (by simp)
    have d4 := hb c4 (by simp)
    have d5 := hb c5 (by simp)
    have d6 := hb c6 (by simp)
    have d7 := hb c7 (by simp)
    have t1 : ((c0 :: c1 :: c2 :: c3 :: c4 :: c5 :: c6 :: c7 :: r).take 4).drop 2 = [c2, c3] := rfl
    have t2 : ((c0 :: c1 :: c2 :: c3 :: c4 :: c5 :: c6 :: c7 :: r).take 8).drop 4 = [c4, c5, c6, c7] := rfl
    have t3 : (c0 :: c1 :: c2 :: c3 :: c4 :: c5 :: c6 :: c7 :: r).drop 8 = r := rfl
    have r0 : rd (c0 :: c1 :: c2 :: c3 :: c4 :: c5 :: c6 :: c7 :: r) 0 = c0 := rfl
    have r1 : rd (c0 :: c1 :: c2 :: c3 :: c4 :: c5 :: c6 :: c7 :: r) 1 = c1 := rfl
    have hlen : (c0 :: c1 :: c2 :: c3 :: c4 :: c5 :: c6 :: c7 :: r).length = r.length + 8 := rfl
    rw [code_Decode.l0, t1, t2, t3, r0, r1, hlen, if_pos (by omega), if_pos (by omega), if_pos (by omega), if_pos (by omega), if_pos (by omega)]
    obtain ⟨m, rfl⟩ : ∃ m, k = m + 5 := ⟨k - 5, by omega⟩
    rw [taken2 (m + 2) c2 c3 d2 d3, taken4 m c4 c5 c6 c7 d4 d5 d6 d7]
    simp only [Option.bind_some]
    rw [if_pos (by omega), if_pos (by omega), if_pos (by omega)]
    have e : (⟨wrap64 c0, wrap64 (IntKind.u8.wrap (Int.tdiv c1 16)), wrap64 (Int.tmod c1 16), wrap64 (IntKind.i16.wrap (c2 + 256 * c3)), c4 + 256 * c5 + 65536 * c6 + 16777216 * c7⟩ : SI) = decIns c0 c1 c2 c3 c4 c5 c6 c7 := by
      unfold byteI at d0 d1 d2 d3
      unfold decIns
      rw [Plain.wrap_small c0 (by omega) (by omega), Int.tdiv_eq_ediv_of_nonneg d1.1, Int.tmod_eq_emod_of_nonneg d1.1, IntKind.wrap_u8, Int.emod_eq_of_lt (a := c1 / 16) (by omega) (by omega), Plain.wrap_small (c1 / 16) (by omega) (by omega), Plain.wrap_small (c1 % 16) (by omega) (by omega), i16_wrap _ (by omega) (by omega)]
    rw [e, ih (m + 5) r a (acc ++ [decIns c0 c1 c2 c3 c4 c5 c6 c7]) hr (fun b hm => hb b (by simp [hm])) (by simp; omega) (by simp; omega)]
    simp only [decL, List.append_assoc, List.singleton_append]
theorem six (l : List Int) (h : 6 ≤ l.length) : ∃ c0 c1 s0 s1 n0 n1 r, l = c0 :: c1 :: s0 :: s1 :: n0 :: n1 :: r := by
  match l, h with
  | c0 :: c1 :: s0 :: s1 :: n0 :: n1 :: r, _ => exact ⟨c0, c1, s0, s1, n0, n1, r, rfl⟩
theorem readN_short (l : List Int) (h : l.length < 6) : readN l = (0, [], 150) := by
  match l, h with
  | [], _ => rfl
  | [_], _ => rfl
  | [_, _], _ => rfl
  | [_, _, _], _ => rfl
  | [_, _, _, _], _ => rfl
  | [_, _, _, _, _], _ => rfl
theorem cx_iff (c0 c1 : Int) (h0 : byteI c0) (h1 : byteI c1) (l : List Int) : (strOfNums ((c0 :: c1 :: l).take 2)).toList = ([67, 88] : List UInt8) ↔ c0 = 67 ∧ c1 = 88 := by
  rw [ByteArray.toList_eq, strOfNums_data]
  unfold byteI at h0 h1
  have e : ∀ c : Int, 0 ≤ c ∧ c ≤ 255 → (UInt8.ofNat c.toNat).toNat = c.toNat := fun c hc => by simp; omega
  show [UInt8.ofNat c0.toNat, UInt8.ofNat c1.toNat] = [67, 88] ↔ _
  constructor
  · intro h
    injection h with a1 h
    injection h with a2 _
    have b1 := congrArg UInt8.toNat a1
    have b2 := congrArg UInt8.toNat a2
    rw [e c0 h0] at b1
    rw [e c1 h1] at b2
    have q1 : c0.toNat = 67 := b1
    have q2 : c1.toNat = 88 := b2
    omega
  · rintro ⟨rfl, rfl⟩
    rfl
theorem decode_eq (k : Nat) (l : List Int) (hb : bytesI l) (hl : l.length ≤ 100000) (hk : l.length + 20 ≤ k) : code_Decode.f k l = some (readN l) := by
  obtain ⟨k, rfl⟩ : ∃ m, k = m + 3 := ⟨k - 3, by omega⟩
  unfold code_Decode.f
  by_cases h6 : (l.length : Int) < 6
  · rw [if_pos h6, code_Decode.j0, if_pos rfl, readN_short l (by omega)]
  · rw [if_neg h6, if_pos (by omega)]
    obtain ⟨c0, c1, s0, s1, n0, n1, r, rfl⟩ := six l (by omega)
    have d0 := hb c0 (by simp)
    have d1 := hb c1 (by simp)
    have d2 := hb s0 (by simp)
    have d3 := hb s1 (by simp)
    have d4 := hb n0 (by simp)
    have d5 := hb n1 (by simp)
    have hlen : (c0 :: c1 :: s0 :: s1 :: n0 :: n1 :: r).length = r.length + 6 := rfl
    have t1 : ((c0 :: c1 :: s0 :: s1 :: n0 :: n1 :: r).take 6).drop 4 = [n0, n1] := rfl
    have t2 : ((c0 :: c1 :: s0 :: s1 :: n0 :: n1 :: r).take 4).drop 2 = [s0, s1] := rfl
    have t3 : (c0 :: c1 :: s0 :: s1 :: n0 :: n1 :: r).drop 6 = r := rfl
    rw [hlen] at hl hk
    by_cases hc : c0 = 67 ∧ c1 = 88
    · rw [if_pos ((cx_iff c0 c1 d0 d1 _).2 hc), if_pos (by omega), hlen, if_pos (by omega), t1, taken2 k n0 n1 d4 d5]
      simp only [Option.bind_some, readN]
      unfold byteI at d4 d5
      rw [Plain.wrap_small (n0 + 256 * n1) (by omega) (by omega), Plain.wrap_small (8 * (n0 + 256 * n1)) (by omega) (by omega), Plain.wrap_small (6 + 8 * (n0 + 256 * n1)) (by omega) (by omega), code_Decode.j0]
      by_cases hn : (r.length : Int) = 8 * (n0 + 256 * n1)
      · rw [if_neg (by simp; omega), if_pos (by omega), hlen, if_pos (by omega), if_pos ⟨hc.1, hc.2, hn⟩, t2, t3]
        obtain ⟨m, rfl⟩ : ∃ m, k = m + 1 := ⟨k - 1, by omega⟩
        show ((code_taken.f (m + 3) [s0, s1]).bind _) = _
        rw [taken2 m s0 s1 d2 d3]
        simp only [Option.bind_some]
        unfold byteI at d2 d3
        obtain ⟨n, hn'⟩ : ∃ n : Nat, r.length = 8 * n := ⟨(n0 + 256 * n1).toNat, by omega⟩
        rw [if_pos (by omega), Plain.wrap_small (s0 + 256 * s1) (by omega) (by omega), dec_l0 n (m + 1 + 2) r (s0 + 256 * s1) [] hn' (fun b hm => hb b (by simp [hm])) (by simp; omega) (by simp; omega)]
        rfl
      · rw [if_pos (by simp; omega), if_neg (fun h => hn h.2.2)]
    · rw [if_neg (fun h => hc ((cx_iff c0 c1 d0 d1 _).1 h)), code_Decode.j0, if_pos rfl]
      simp only [readN]
      rw [if_neg (fun h => hc ⟨h.1, h.2.1⟩)]

/-! What is read, and written again; what is written, and read -/
theorem b2_of (a b : Int) (ha : byteI a) (hb : byteI b) : b2 (a + 256 * b) = [a, b] := by
  unfold byteI at ha hb
  unfold b2
  rw [show (a + 256 * b) % 256 = a by omega, show (a + 256 * b) / 256 % 256 = b by omega]
theorem write_read (l : List Int) (hb : bytesI l) (h : (readN l).2.2 = 0) : checkN (readN l).1 (readN l).2.1 = 0 ∧ (∀ y ∈ (readN l).2.1, wfS y) ∧ bytesN (readN l).1 (readN l).2.1 = l := by
  by_cases h6 : l.length < 6
  · rw [readN_short l h6] at h
    exact absurd h (by decide)
  · obtain ⟨c0, c1, s0, s1, n0, n1, r, rfl⟩ := six l (by omega)
    have d2 := hb s0 (by simp)
    have d3 := hb s1 (by simp)
    have d4 := hb n0 (by simp)
    have d5 := hb n1 (by simp)
    simp only [readN] at h ⊢
    by_cases c : c0 = 67 ∧ c1 = 88 ∧ (r.length : Int) = 8 * (n0 + 256 * n1)
    · rw [if_pos c] at h ⊢
      obtain ⟨rfl, rfl, hn⟩ := c
      unfold fin at h ⊢
      by_cases c : checkN (s0 + 256 * s1) (decL r) = 0
      · rw [if_pos c]
        obtain ⟨n, hn'⟩ : ∃ n : Nat, r.length = 8 * n := ⟨(n0 + 256 * n1).toNat, by unfold byteI at d4 d5; omega⟩
        have hr : bytesI r := fun b hm => hb b (by simp [hm])
        obtain ⟨_, _, hm, _⟩ := check_zero _ _ c
        refine ⟨c, decL_wf n r hn' hr, ?_⟩
        show bytesN (s0 + 256 * s1) (decL r) = _
        unfold bytesN
        rw [flat_dec n r hn' hr hm, decL_length n r hn', b2_of s0 s1 d2 d3, show ((n : Nat) : Int) = n0 + 256 * n1 by omega, b2_of n0 n1 d4 d5]
        rfl
      · rw [if_neg c] at h
        exact absurd h c
    · rw [if_neg c] at h
      exact absurd h (by decide)
theorem b2_back (n : Int) (h0 : 0 ≤ n) (h1 : n ≤ 65535) : ∃ a b, b2 n = [a, b] ∧ a + 256 * b = n ∧ byteI a ∧ byteI b :=
  ⟨n % 256, n / 256 % 256, rfl, by omega, by unfold byteI; omega, by unfold byteI; omega⟩
theorem insN_bytes (x : SI) (h : mayS x = true) (hw : wfS x) : bytesI (insN x) := by
  obtain ⟨h1, h2, h3, h4, h5, h6, h7, h8⟩ := may_facts x h
  obtain ⟨m0, m1⟩ := hw
  intro b hb
  unfold insN b2 b4 at hb
  simp only [List.mem_append, List.mem_cons, List.not_mem_nil, or_false] at hb
  unfold byteI
  by_cases c : x.f3 < 0
  · rw [if_pos c] at hb; omega
  · rw [if_neg c] at hb; omega
theorem bytesN_bytes (a : Int) (l : List SI) (h0 : 0 ≤ a) (h1 : a ≤ 256) (hm : l.all mayS = true) (hw : ∀ x ∈ l, wfS x) : bytesI (bytesN a l) := by
  intro b hb
  unfold bytesN b2 at hb
  simp only [List.mem_append, List.mem_cons, List.not_mem_nil, or_false, List.mem_flatMap] at hb
  rcases hb with ((hb | hb) | hb) | ⟨x, hx, hb⟩
  · unfold byteI; omega
  · unfold byteI; omega
  · unfold byteI; omega
  · exact insN_bytes x (List.all_eq_true.1 hm x hx) (hw x hx) b hb
theorem bytesN_length (a : Int) (l : List SI) : (bytesN a l).length = 6 + 8 * l.length := by
  unfold bytesN
  rw [List.length_append, flatN_length]
  simp [b2]
theorem read_write (a : Int) (l : List SI) (h : checkN a l = 0) (hw : ∀ x ∈ l, wfS x) : readN (bytesN a l) = (a, l, 0) := by
  obtain ⟨h0, h1, hm, hl⟩ := check_zero a l h
  obtain ⟨s0, s1, e1, e2, _, _⟩ := b2_back a h0 (by omega)
  obtain ⟨n0, n1, e3, e4, _, _⟩ := b2_back (l.length : Int) (by omega) (by omega)
  unfold bytesN
  rw [e1, e3]
  show readN (67 :: 88 :: s0 :: s1 :: n0 :: n1 :: l.flatMap insN) = _
  simp only [readN]
  rw [if_pos (by refine ⟨?_, ?_, ?_⟩ <;> first | trivial | (rw [flatN_length]; omega)), e2, dec_flat l hm hw]
  unfold fin
  rw [if_pos h]
end Go.Proofs.Ythkepoimagnagaa.Plain
