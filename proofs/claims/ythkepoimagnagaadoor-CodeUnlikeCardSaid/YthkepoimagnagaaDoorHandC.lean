/- The contract of code.Encode: what may not be is refused as Check refuses it; else the bytes of the extension. No condition. -/
import Derived.Test.YthkepoimagnagaaDoorKx6
import Derived.Test.YthkepoimagnagaaDoorKx7
namespace Go.Proofs.YthkepoimagnagaaDoor.K
open Go.RowKit Go.Proofs.YthkepoimagnagaaDoorW.PrintWords Go.Proofs.YthkepoimagnagaaDoorW.PrintLast Go.Proofs.YthkepoimagnagaaDoorW.PrintMore
set_option linter.unusedVariables false
set_option linter.unusedSimpArgs false

/-- The world in the midst of Encode: the variable 'out' in block gb holds a row of the call's own; the boxes bs stand. -/
structure St (w0 W : World) (gb : Nat) (xs : List Int) (bs : List (Nat × Array Value × Nat)) : Prop where
  out : ∃ v, W.heap[gb]? = some (.cells #[v] 26 (0, 0)) ∧ Kd.R (Kd.int .u8) 5 W w0.heap.size (fun _ => True) v xs
  below : Below w0.heap.size w0 W
  ge : w0.heap.size ≤ gb
  box : ∀ b ∈ bs, W.heap[b.1]? = some (.cells b.2.1 b.2.2 (0, 0)) ∧ b.2.2 ≠ 26 ∧ b.2.2 ≠ 5

theorem St.size {w0 W : World} {gb : Nat} {xs : List Int} {bs : List (Nat × Array Value × Nat)} (h : St w0 W gb xs bs) : w0.heap.size ≤ W.heap.size := h.below.size
theorem St.to_below {w0 W W1 : World} {gb : Nat} {xs : List Int} {bs : List (Nat × Array Value × Nat)} (h : St w0 W gb xs bs) (hb : Below W.heap.size W W1) : St w0 W1 gb xs bs := by
  obtain ⟨v, h1, h2⟩ := h.out
  exact ⟨⟨v, blk_below h1 hb, Kd.R_below h2 hb⟩, below_then h.below h.size hb, h.ge, fun b hm => ⟨blk_below (h.box b hm).1 hb, (h.box b hm).2⟩⟩
theorem St.alloc {w0 W : World} {gb : Nat} {xs : List Int} {bs : List (Nat × Array Value × Nat)} (h : St w0 W gb xs bs) (o : Obj) : St w0 (W.alloc o) gb xs bs :=
  h.to_below ((Below.refl _ _).alloc (Nat.le_refl _) o)
theorem St.more {w0 W : World} {gb : Nat} {xs : List Int} {bs : List (Nat × Array Value × Nat)} (h : St w0 W gb xs bs) {g : Nat} {cs : Array Value} {t : Nat} (hg : W.heap[g]? = some (.cells cs t (0, 0))) (h1 : t ≠ 26) (h2 : t ≠ 5) : St w0 W gb xs ((g, cs, t) :: bs) :=
  ⟨h.out, h.below, h.ge, fun b hm => by
    rcases List.mem_cons.1 hm with rfl | hm
    · exact ⟨hg, h1, h2⟩
    · exact h.box b hm⟩
theorem St.less {w0 W : World} {gb : Nat} {xs : List Int} {bs : List (Nat × Array Value × Nat)} {b : Nat × Array Value × Nat} (h : St w0 W gb xs (b :: bs)) : St w0 W gb xs bs :=
  ⟨h.out, h.below, h.ge, fun c hm => h.box c (List.mem_cons_of_mem _ hm)⟩

set_option maxHeartbeats 1000000 in
set_option maxRecDepth 100000 in
/-- The closure 'put': what it is given stands behind what 'out' held. -/
theorem put_calls {w0 w : World} {gb : Nat} {xs : List Int} {bs : List (Nat × Array Value × Nat)} (h : St w0 w gb xs bs) (A : Option Addr) (m c : Nat) (ys : List Int) (HR : Kd.C (Kd.int .u8) w A m ys) (hl : xs.length + m ≤ 140737488355328) :
    Calls Tryd.prog 14 #[.slice A m c, .pointer (some ⟨gb, 0, none⟩)] w fun e w' => e = .returned (.tuple #[]) ∧ St w0 w' gb (xs ++ ys) bs := by
  obtain ⟨v, hb, ho⟩ := h.out
  have H := Aside0.mk h
  have HB := Aside0.mk hb
  have HO := Aside0.mk ho
  have HC := Aside0.mk HR
  have hcell : w.cell? ⟨gb, 0, none⟩ = some v := (blk_cell hb 0).trans rfl
  have hs := h.size
  clear h hb ho HR
  obtain ⟨Av, cv, hv⟩ := own_slice (Kd.own_of_R HO.out)
  have HV := Aside0.mk hv
  clear hv
  go_enter Tryd.func14, Tryd.ntmps14
  go_wp2_with (at_builtin; refine Kd.R_append_row (Value.int .u8) (0 : Int) (w0 := w0) w0.heap.size rfl (.tmp 3) (.tmp 4) 26 5 (.int .u8 0) 1 rfl Tryd.underlying26 info5 rfl (by decide) v xs ys A m c (fun _ => True) rfl rfl (fun _ _ => trivial) HO.out HC.out H.out.below hs (by omega) ?_; intro v1 w1 ho1 hb1 hg1 _; have HO1 := Aside0.mk ho1; clear ho1; have HB1 := Aside0.mk hb1; clear hb1; have HG1 := Aside0.mk hg1; clear hg1; obtain ⟨A1, c1, hv1⟩ := own_slice (Kd.own_of_R HO1.out); have HB2 := Aside0.mk (blk_grown HB.out HG1.out (Kd.R_ne HO.out HB.out (by decide))); have hcell1 : w1.cell? ⟨gb, 0, none⟩ = some v := (blk_cell HB2.out 0).trans rfl; have hfr1 := blk_frozen HB2.out 0; subst hv1)
  go_end0
  refine ⟨rfl, ⟨⟨_, blk_put HB2.out 0 _ rfl, ?_⟩, ?_, H.out.ge, ?_⟩⟩
  · have h := Kd.R_set HO1.out HB2.out (by decide) 0 (.slice A1 (xs ++ ys).length c1)
    rw [List.length_append] at h
    exact h
  · exact below_set HB1.out H.out.ge
  · intro b hm
    obtain ⟨x1, x2, x3⟩ := H.out.box b hm
    exact ⟨blk_far (blk_grown x1 HG1.out (Kd.R_ne HO.out x1 (fun e => x3 e.symm))) (blk_ne x1 HB.out x2) _, x2, x3⟩

/-- The bytes of a number, by twos and fours. -/
def le2 (n : Int) : List Int := [Int.tmod n 256 % 256, Int.tmod (Int.tdiv n 256 % 4294967296) 256 % 256]
def le4 (n : Int) : List Int := [Int.tmod n 256 % 256, Int.tmod (Int.tdiv n 256 % 4294967296) 256 % 256, Int.tmod (Int.tdiv (Int.tdiv n 256 % 4294967296) 256 % 4294967296) 256 % 256, Int.tmod (Int.tdiv (Int.tdiv (Int.tdiv n 256 % 4294967296) 256 % 4294967296) 256 % 4294967296) 256 % 256]
theorem w64_small (x : Int) (h0 : -9223372036854775808 ≤ x) (h1 : x ≤ 9223372036854775807) : wrap64 x = x := by unfold wrap64; omega
theorem w01 : wrap64 1 = 1 := w64_small _ (by omega) (by omega)
theorem w12 : wrap64 2 = 2 := w64_small _ (by omega) (by omega)
theorem w23 : wrap64 3 = 3 := w64_small _ (by omega) (by omega)
theorem w34 : wrap64 4 = 4 := w64_small _ (by omega) (by omega)
theorem laid2 (n : Int) : code_laid.f 3 n 2 = some (le2 n) := by
  simp [code_laid.f, code_laid.l0, w01, w12, le2]
theorem laid4 (n : Int) : code_laid.f 5 n 4 = some (le4 n) := by
  simp [code_laid.f, code_laid.l0, w01, w12, w23, w34, le4]
/-- An instruction's eight bytes. -/
def insB (x : S36) : List Int := [x.f0 % 256, wrap64 (wrap64 (x.f1 * 16) + x.f2) % 256] ++ le2 (Go.bits .and .i64 x.f3 65535 % 4294967296) ++ le4 x.f4
theorem insB_length (x : S36) : (insB x).length = 8 := rfl
def encN (a : Int) (l : List S36) : List Int := [67, 88] ++ le2 (a % 4294967296) ++ le2 ((l.length : Int) % 4294967296) ++ l.flatMap insB
def code_Encode.f (a0_0 : Int) (l0_1 : List (S36)) : Option (List Int × Int) := (code_Check.f (l0_1.length + 9) a0_0 l0_1).bind fun e => if e = 0 then (if l0_1.length ≤ 256 then some (encN a0_0 l0_1, 0) else none) else some ([], e)
theorem flat_length (l : List S36) : (l.flatMap insB).length = 8 * l.length := by
  induction l with
  | nil => rfl
  | cons x l ih => simp only [List.flatMap_cons, List.length_append, insB_length, ih, List.length_cons]; omega
theorem flat_snoc (l : List S36) (i : Int) (h0 : 0 ≤ i) (h1 : i < l.length) : (l.take (i.toNat + 1)).flatMap insB = (l.take i.toNat).flatMap insB ++ insB (rd_T36 l i) := by
  have h : i.toNat < l.length := by omega
  rw [List.take_succ_eq_append_getElem h, List.flatMap_append]
  simp [rd_T36, List.getD_eq_getElem?_getD, List.getElem?_eq_getElem h]

theorem lit_reads (W : World) (xs : List Int) (hl : xs.length ≤ 1000) : Kd.C (Kd.int .u8) (W.alloc (.cells (nums .u8 xs).toArray 5)) (some ⟨W.heap.size, 0, none⟩) xs.length xs := by
  obtain ⟨A, c, hv, hr⟩ := own_reads (own_lit W 0 5 .u8 xs (Nat.zero_le _) (by omega))
  injection hv with h1 _ _
  rw [h1]
  exact Kd.C_of_reads (d := (0 : Int)) (h1 := fun _ => rfl) hr
theorem St.cell {w0 W : World} {gb : Nat} {xs : List Int} {bs : List (Nat × Array Value × Nat)} (h : St w0 W gb xs bs) {b : Nat × Array Value × Nat} (hm : b ∈ bs) (i : Nat) : W.cell? ⟨b.1, i, none⟩ = b.2.1[i]? := blk_cell (h.box b hm).1 i
set_option maxHeartbeats 8000000 in
set_option maxRecDepth 100000 in
theorem code_Encode.calls (a0_0 : Int) (A0_1 : Option Addr) (c0_1 : Nat) (l0_1 : List (S36)) (r1 : List Int) (r2 : Int) (w : World) (hr0_1 : Kd.C k36 w A0_1 l0_1.length l0_1) (hc0_1 : l0_1.length ≤ c0_1) (h : code_Encode.f a0_0 l0_1 = some (r1, r2)) :
    Calls Tryd.prog 6 #[.agg #[.int .i64 a0_0, .slice A0_1 l0_1.length c0_1]] w fun e w' => ∃ v0_ : Value, e = .returned (.tuple #[v0_, .int .i64 r2]) ∧ Kd.R (Kd.int .u8) 5 w' w.heap.size (fun _ => True) v0_ r1 ∧ Below w.heap.size w w' := by
  have HR := Aside0.mk hr0_1
  have HC := Aside0.mk hc0_1
  clear hr0_1 hc0_1
  obtain ⟨e, he, h⟩ := Option.bind_eq_some_iff.1 h
  have HE := Aside0.mk he
  clear he
  have hB : ∀ w1, Below (w.alloc (.cells #[.int .i64 a0_0, .slice A0_1 l0_1.length c0_1] 24)).heap.size (w.alloc (.cells #[.int .i64 a0_0, .slice A0_1 l0_1.length c0_1] 24)) w1 → Below w.heap.size w w1 := fun w1 hb => ((Below.refl _ _).alloc (Nat.le_refl _) _).trans (hb.mono (by simp))
  by_cases c : e = 0
  · rw [if_pos c] at h
    subst c
    by_cases hl : l0_1.length ≤ 256
    · rw [if_pos hl] at h
      simp only [Option.some.injEq, Prod.mk.injEq] at h
      obtain ⟨h1, h2⟩ := h
      subst h2
      have H1 := Aside0.mk h1
      clear h1
      have HL := Aside0.mk hl
      clear hl
      go_enter Tryd.func6, Tryd.ntmps6
      go_wp2_with fail
      refine (code_Check.calls (l0_1.length + 9) a0_0 _ _ l0_1 _ _ (Kd.C_alloc HR.out _) HC.out HE.out).mono ?_
      rintro e w1 ⟨rfl, hb⟩
      have hp := blk_below (blk_new w _) hb
      have hz := hb.size
      simp only [World.size_alloc] at hz
      have HB1 := Aside0.mk (hB w1 hb)
      have HP := Aside0.mk hp
      clear hb hp hB
      have hp0 : w1.cell? ⟨w.heap.size, 0, none⟩ = some (.int .i64 a0_0) := (blk_cell HP.out 0).trans rfl
      have hp1 : w1.cell? ⟨w.heap.size, 1, none⟩ = some (.slice A0_1 l0_1.length c0_1) := (blk_cell HP.out 1).trans rfl
      have h0 : St w (w1.alloc (.cells #[.slice none 0 0] 26)) w1.heap.size [] [(w.heap.size, #[.int .i64 a0_0, .slice A0_1 l0_1.length c0_1], 24)] :=
        ⟨⟨_, blk_new _ _, Kd.R_nil _ _ _ _ _⟩, below_alloc HB1.out _, HB1.out.size, fun b hm => by
          obtain rfl := List.mem_singleton.1 hm
          exact ⟨blk_alloc HP.out _, by show 24 ≠ 26; decide, by show 24 ≠ 5; decide⟩⟩
      have H0 := Aside0.mk h0
      clear h0
      go_wp2_with fail
      refine (put_calls (H0.out.alloc _) _ _ _ [67, 88] (by have h := lit_reads (w1.alloc (.cells #[.slice none 0 0] 26)) [67, 88] (by decide); simpa [nums] using h) (by decide)).mono ?_
      rintro e w2 ⟨rfl, h2⟩
      have H2 := Aside0.mk h2
      clear h2 hp0 hp1
      have hp0 : w2.cell? ⟨w.heap.size, 0, none⟩ = some (.int .i64 a0_0) := (H2.out.cell (List.mem_cons_self ..) 0).trans rfl
      go_wp2_with fail
      refine (code_laid.calls 3 _ 2 (le2 (a0_0 % 4294967296)) _ (laid2 _)).mono ?_
      rintro e w3 ⟨v3, rfl, ho3, hb3⟩
      obtain ⟨A3, c3, rfl, _, hC3⟩ := Kd.R_reads ho3
      have H3 := Aside0.mk (H2.out.to_below hb3)
      have HC3 := Aside0.mk hC3
      clear hC3 ho3 hb3 hp0
      go_wp2_with fail
      refine (put_calls H3.out _ _ _ _ HC3.out (by simp [le2])).mono ?_
      rintro e w4 ⟨rfl, h4⟩
      have H4 := Aside0.mk h4
      clear h4
      have hp1 : w4.cell? ⟨w.heap.size, 1, none⟩ = some (.slice A0_1 l0_1.length c0_1) := (H4.out.cell (List.mem_cons_self ..) 1).trans rfl
      go_wp2_with fail
      refine (code_laid.calls 3 _ 2 (le2 ((l0_1.length : Int) % 4294967296)) _ (laid2 _)).mono ?_
      rintro e w5 ⟨v5, rfl, ho5, hb5⟩
      obtain ⟨A5, c5, rfl, _, hC5⟩ := Kd.R_reads ho5
      have H5 := Aside0.mk (H4.out.to_below hb5)
      have HC5 := Aside0.mk hC5
      clear hC5 ho5 hb5 hp1
      go_wp2_with fail
      refine (put_calls H5.out _ _ _ _ HC5.out (by simp [le2])).mono ?_
      rintro e w6 ⟨rfl, h6⟩
      have H6 := Aside0.mk h6
      clear h6
      have hp1 : w6.cell? ⟨w.heap.size, 1, none⟩ = some (.slice A0_1 l0_1.length c0_1) := (H6.out.cell (List.mem_cons_self ..) 1).trans rfl
      go_wp2_with fail
      go_loopw [34] (fun v34 wr => ∃ x : Int, v34 = .int .i64 x ∧ Aside0 (0 ≤ x ∧ x ≤ l0_1.length) ∧ Aside0 (St w wr w1.heap.size ([67, 88] ++ le2 (a0_0 % 4294967296) ++ le2 ((l0_1.length : Int) % 4294967296) ++ (l0_1.take x.toNat).flatMap insB) [(w.heap.size, #[.int .i64 a0_0, .slice A0_1 l0_1.length c0_1], 24)])) (fun v34 _ => l0_1.length - (intOf v34).toNat)
      case atStart => exact ⟨0, rfl, ⟨by omega⟩, ⟨by simpa using H6.out⟩⟩
      case round =>
        obtain ⟨x, rfl, HX, HS⟩ := hrel
        clear hp1
        have hx0 := HX.out.1
        by_cases hlt : x < (l0_1.length : Int)
        · obtain ⟨ad, ead, q0, q1, q2, q3, q4⟩ := at_T36 HR.out x hx0 hlt
          have lb : ∀ (a : Addr) v, w.cell? a = some v → wr.cell? a = some v := fun a v h => (HS.out.below.cell (World.block_lt_of_cell? w a h)).trans h
          replace q0 := lb _ _ q0
          replace q1 := lb _ _ q1
          replace q2 := lb _ _ q2
          replace q3 := lb _ _ q3
          replace q4 := lb _ _ q4
          clear lb
          have HA := Aside0.mk ead
          rw [ead]
          clear ead
          have hfl := flat_snoc l0_1 x hx0 hlt
          have HF := Aside0.mk hfl
          clear hfl
          have hlen : ((l0_1.take x.toNat).flatMap insB).length ≤ 8 * 256 := by
            have := HL.out
            rw [flat_length, List.length_take]; omega
          have HN := Aside0.mk hlen
          clear hlen
          have h7 := ((HS.out.alloc (.cells #[.int .i64 (rd_T36 l0_1 x).f0, .int .i64 (rd_T36 l0_1 x).f1, .int .i64 (rd_T36 l0_1 x).f2, .int .i64 (rd_T36 l0_1 x).f3, .int .u32 (rd_T36 l0_1 x).f4] 36)).more (blk_new wr _) (by decide) (by decide))
          have H7 := Aside0.mk h7
          clear h7
          go_wp2_with fail
          refine (put_calls (H7.out.alloc _) _ _ _ [(rd_T36 l0_1 x).f0 % 256, wrap64 (wrap64 ((rd_T36 l0_1 x).f1 * 16) + (rd_T36 l0_1 x).f2) % 256] (by have h := lit_reads (wr.alloc (.cells #[.int .i64 (rd_T36 l0_1 x).f0, .int .i64 (rd_T36 l0_1 x).f1, .int .i64 (rd_T36 l0_1 x).f2, .int .i64 (rd_T36 l0_1 x).f3, .int .u32 (rd_T36 l0_1 x).f4] 36)) [(rd_T36 l0_1 x).f0 % 256, wrap64 (wrap64 ((rd_T36 l0_1 x).f1 * 16) + (rd_T36 l0_1 x).f2) % 256] (by simp); simpa [nums] using h) (by have := HN.out; simp [le2] at *; omega)).mono ?_
          rintro e w8 ⟨rfl, h8⟩
          have H8 := Aside0.mk h8
          clear h8 q0 q1 q2 q3 q4
          have hi3 : w8.cell? ⟨wr.heap.size, 3, none⟩ = some (.int .i64 (rd_T36 l0_1 x).f3) := (H8.out.cell (List.mem_cons_self ..) 3).trans rfl
          go_wp2_with fail
          refine (code_laid.calls 3 _ 2 (le2 _) _ (laid2 _)).mono ?_
          rintro e w9 ⟨v9, rfl, ho9, hb9⟩
          obtain ⟨A9, c9, rfl, _, hC9⟩ := Kd.R_reads ho9
          have H9 := Aside0.mk (H8.out.to_below hb9)
          have HC9 := Aside0.mk hC9
          clear hC9 ho9 hb9 hi3
          go_wp2_with fail
          refine (put_calls H9.out _ _ _ _ HC9.out (by have := HN.out; simp [le2] at *; omega)).mono ?_
          rintro e w10 ⟨rfl, h10⟩
          have H10 := Aside0.mk h10
          clear h10
          have hi4 : w10.cell? ⟨wr.heap.size, 4, none⟩ = some (.int .u32 (rd_T36 l0_1 x).f4) := (H10.out.cell (List.mem_cons_self ..) 4).trans rfl
          go_wp2_with fail
          refine (code_laid.calls 5 _ 4 (le4 _) _ (laid4 _)).mono ?_
          rintro e w11 ⟨v11, rfl, ho11, hb11⟩
          obtain ⟨A11, c11, rfl, _, hC11⟩ := Kd.R_reads ho11
          have H11 := Aside0.mk (H10.out.to_below hb11)
          have HC11 := Aside0.mk hC11
          clear hC11 ho11 hb11 hi4
          go_wp2_with fail
          refine (put_calls H11.out _ _ _ _ HC11.out (by have := HN.out; simp [le2, le4] at *; omega)).mono ?_
          rintro e w12 ⟨rfl, h12⟩
          have H12 := Aside0.mk h12
          clear h12
          have hl := HL.out
          go_wp2
          clear hl
          go_roundw
          case rel =>
            refine ⟨x + 1, by go_num, ⟨by have := HX.out; omega⟩, ⟨?_⟩⟩
            have h := H12.out.less
            rw [HA.out] at h
            rw [show (x + 1).toNat = x.toNat + 1 by omega, HF.out]
            simpa [insB, List.append_assoc] using h
          case measure => simp [intOf]; omega
        · have HXE := Aside0.mk (show x = l0_1.length by have := HX.out; omega)
          obtain ⟨v, hv, ho⟩ := HS.out.out
          have HV := Aside0.mk hv
          have HO := Aside0.mk ho
          clear hv ho
          have hout : wr.cell? ⟨w1.heap.size, 0, none⟩ = some v := (blk_cell HV.out 0).trans rfl
          go_wp2
          go_ret2
          refine ⟨_, rfl, ?_, HS.out.below⟩
          rw [← H1.out]
          have h := HO.out
          rw [HXE.out, Int.toNat_natCast, List.take_length] at h
          exact h
    · rw [if_neg hl] at h
      cases h
  · rw [if_neg c] at h
    simp only [Option.some.injEq, Prod.mk.injEq] at h
    obtain ⟨rfl, rfl⟩ := h
    have c0 : (e != 0) = true := by simpa using c
    go_enter Tryd.func6, Tryd.ntmps6
    go_wp2_with fail
    refine (code_Check.calls (l0_1.length + 9) a0_0 _ _ l0_1 _ _ (Kd.C_alloc HR.out _) HC.out HE.out).mono ?_
    rintro e w1 ⟨rfl, hb⟩
    go_wp2
    go_ret2
    exact ⟨_, rfl, Kd.R_nil _ _ _ _ _, hB _ hb⟩
end Go.Proofs.YthkepoimagnagaaDoor.K
