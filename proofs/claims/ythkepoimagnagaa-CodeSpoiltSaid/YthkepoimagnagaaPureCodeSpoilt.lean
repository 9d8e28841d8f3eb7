/- An extension's bytes with one byte that is another one, cut off, or longer, are read as the document says: the statement CodeSpoilt answers true of any extension, byte, value, cut. No condition. -/
import Derived.Test.YthkepoimagnagaaPlainD
import Derived.Test.YthkepoimagnagaaPlainE
import Derived.Test.YthkepoimagnagaaAimCodeSpoilt
import Derived.DataShut
namespace Go.Proofs.Ythkepoimagnagaa.Pure
open Go.RowKit Go.Proofs.Ythkepoimagnagaa.K Go.Proofs.Ythkepoimagnagaa.Plain Go.Proofs.YthkepoimagnagaaW.PrintWords Go.Proofs.YthkepoimagnagaaW.PrintLast
theorem spoilt_l0 (x c m : Int) (hx : byteI x) (hm : byteI m) (d : Nat) : ∀ (i : Nat) (l : List Int), bytesI l → l.length ≤ 1000 + i → i ≤ 9 → (Int.tmod m 9) - i = d → ∃ k, cachetlaw05_CodeSpoilt.l0 k l (i : Int) x c m = some true := by
  have ht : Int.tmod m 9 = m % 9 := Int.tmod_eq_emod_of_nonneg hm.1
  rw [ht]
  induction d with
  | zero =>
    intro i l hb hl hi hd
    obtain ⟨k, hk⟩ := reads_true l hb
    refine ⟨k + 1, ?_⟩
    rw [cachetlaw05_CodeSpoilt.l0, ht, if_neg (by omega), hk]
    rfl
  | succ d ih =>
    intro i l hb hl hi hd
    obtain ⟨k, hk⟩ := ih (i + 1) (l ++ [x]) (by
      intro b hm
      rcases List.mem_append.1 hm with h | h
      · exact hb b h
      · obtain rfl := List.mem_singleton.1 h; exact hx) (by simp; omega) (by omega) (by omega)
    refine ⟨k + 1, ?_⟩
    rw [cachetlaw05_CodeSpoilt.l0, ht, if_pos (by omega), if_pos (by omega), show ((i : Int) + 1) % 256 = ((i + 1 : Nat) : Int) by omega]
    exact hk
theorem spoilt_l0' (x c m : Int) (hx : byteI x) (hm : byteI m) (l : List Int) (hb : bytesI l) (hl : l.length ≤ 1000) : ∃ k, cachetlaw05_CodeSpoilt.l0 k l 0 x c m = some true := by
  have ht : Int.tmod m 9 = m % 9 := Int.tmod_eq_emod_of_nonneg hm.1
  obtain ⟨d, hd⟩ := Int.eq_ofNat_of_zero_le (show 0 ≤ Int.tmod m 9 by rw [ht]; omega)
  exact spoilt_l0 x c m hx hm d 0 l hb (by omega) (by omega) (by omega)
theorem spoilt_j1 (x c m : Int) (hx : byteI x) (hm : byteI m) (l : List Int) (hb : bytesI l) (hl : l.length ≤ 1000) : ∃ k, cachetlaw05_CodeSpoilt.j1 k l x c m = some true := by
  by_cases h : c ≥ 0 ∧ c < (l.length : Int)
  · obtain ⟨k, hk⟩ := spoilt_l0' x c m hx hm (l.take c.toNat) (fun b hb' => hb b (List.mem_of_mem_take hb')) (by rw [List.length_take]; omega)
    refine ⟨k + 3, ?_⟩
    rw [cachetlaw05_CodeSpoilt.j1, if_pos h.1, decide_eq_true h.2, cachetlaw05_CodeSpoilt.j2, if_pos rfl, if_pos (by omega), if_pos (by omega), cachetlaw05_CodeSpoilt.j3]
    exact hk
  · obtain ⟨k, hk⟩ := spoilt_l0' x c m hx hm l hb hl
    refine ⟨k + 3, ?_⟩
    have e : cachetlaw05_CodeSpoilt.j2 (k + 2) l false x c m = some true := by
      rw [cachetlaw05_CodeSpoilt.j2, if_neg (by decide), cachetlaw05_CodeSpoilt.j3]
      exact hk
    rw [cachetlaw05_CodeSpoilt.j1]
    by_cases h1 : c ≥ 0
    · rw [if_pos h1, decide_eq_false (by omega)]; exact e
    · rw [if_neg h1]; exact e
theorem CodeSpoilt : cachetlaw05_CodeSpoilt.Pure := by
  intro a l at_ x c m h1 h2 h3 h4 h5 h6
  have hw : ∀ y ∈ l, wfS y := fun y hy => by
    have h := (Lit.wf_int_iff _ _).1 (h2.2 y hy).2.2.2.2
    rw [show IntKind.u32.min = 0 from rfl, show IntKind.u32.max = 4294967295 from rfl] at h
    exact h
  have hu : ∀ z : Int, (Lit.int .u8 z).wf = true → byteI z := fun z hz => by
    have h := (Lit.wf_int_iff _ _).1 hz
    rw [show IntKind.u8.min = 0 from rfl, show IntKind.u8.max = 255 from rfl] at h
    exact h
  have hx := hu x h4
  have hm := hu m h6
  have out : ∀ k, cachetlaw05_CodeSpoilt.j0 (k + 1) at_ true a l x c m = some true := fun k => by rw [cachetlaw05_CodeSpoilt.j0, if_pos rfl, known_bind]
  unfold cachetlaw05_CodeSpoilt.f
  by_cases hl : (l.length : Int) > 40
  · exact ⟨1, by rw [if_pos hl]; exact out 0⟩
  · by_cases hz : checkN a l = 0
    · obtain ⟨g0, g1, gm, gl⟩ := check_zero a l hz
      have hlen := bytesN_length a l
      have hbb := bytesN_bytes a l g0 g1 gm hw
      have key : ∃ k, cachetlaw05_CodeSpoilt.j1 k (if at_ ≥ 0 then (bytesN a l).set (Int.tmod at_ ((bytesN a l).length : Int)).toNat x else bytesN a l) x c m = some true := by
        by_cases ha : at_ ≥ 0
        · rw [if_pos ha]
          refine spoilt_j1 x c m hx hm _ ?_ (by rw [List.length_set]; omega)
          intro b hb
          rcases List.mem_or_eq_of_mem_set hb with hb | hb
          · exact hbb b hb
          · subst hb; exact hx
        · rw [if_neg ha]
          exact spoilt_j1 x c m hx hm _ hbb (by omega)
      obtain ⟨k, hk⟩ := key
      refine ⟨k + 60 + 1, ?_⟩
      rw [if_neg hl, refcheck_eq _ a l hw (by omega) (by omega)]
      simp only [Option.bind_some]
      rw [hz, cachetlaw05_CodeSpoilt.j0, if_neg (by decide), refbytes_eq _ a l g0 (by omega) gm hw (by omega) (by omega)]
      simp only [Option.bind_some]
      have hk' := at_rounds (g := fun k => cachetlaw05_CodeSpoilt.j1 k _ x c m) (fun k => (cachetlaw05_CodeSpoilt.mono_l k).2.1 _ _ _ _) (show k ≤ k + 60 by omega) hk
      by_cases ha : at_ ≥ 0
      · have ht : Int.tmod at_ ((bytesN a l).length : Int) = at_ % ((bytesN a l).length : Int) := Int.tmod_eq_emod_of_nonneg ha
        have q0 : 0 ≤ at_ % ((bytesN a l).length : Int) := Int.emod_nonneg _ (by omega)
        have q1 : at_ % ((bytesN a l).length : Int) < ((bytesN a l).length : Int) := Int.emod_lt_of_pos _ (by omega)
        rw [if_pos ha, if_neg (by omega), if_pos (by rw [ht]; exact q0), if_pos (by rw [ht]; exact q1)]
        rw [if_pos ha] at hk'
        exact hk'
      · rw [if_neg ha]
        rw [if_neg ha] at hk'
        exact hk'
    · refine ⟨l.length + 60, ?_⟩
      rw [if_neg hl, refcheck_eq _ a l hw (by omega) (by omega)]
      simp only [Option.bind_some]
      rw [bne_iff_ne.2 hz]
      exact out _
end Go.Proofs.Ythkepoimagnagaa.Pure
