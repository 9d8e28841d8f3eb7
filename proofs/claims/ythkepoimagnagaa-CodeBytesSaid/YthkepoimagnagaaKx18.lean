/- Written by a program of this session (wip/handprint, over the kit's printer): what Go functions of the program come to, each by a contract of its own; Lean checks all of it. -/
import Derived.Test.YthkepoimagnagaaKx0
import Derived.Test.YthkepoimagnagaaKx6
import Derived.Test.YthkepoimagnagaaKx17
namespace Go.Proofs.Ythkepoimagnagaa.K
open Go.RowKit Go.Proofs.YthkepoimagnagaaW.PrintWords Go.Proofs.YthkepoimagnagaaW.PrintLast Go.Proofs.YthkepoimagnagaaW.PrintMore
attribute [local go_sem] max2_int min2_int max_two min_two max_three min_three max_four min_four   -- for this text's walks alone
set_option linter.unusedVariables false
set_option linter.unusedSimpArgs false

/-! ### code_Decode: function 16 -/
mutual
def code_Decode.j0 : Nat → List Int → Bool → Option (Int × (List (S26)) × Int)
 | 0, _, _ => none
 | k + 1, x0, x26 => if x26 = true then (some (0, ([] : List (S26)), 150)) else (if 2 ≤ 4 then (if 4 ≤ (x0.length : Int) then ((code_taken.f k ((x0.take 4).drop 2)).bind fun t205 => (if 6 ≤ (x0.length : Int) then (code_Decode.l0 k (x0.drop 6) (wrap64 (t205)) ([] : List (S26))) else (none))) else (none)) else (none))
def code_Decode.l0 : Nat → List Int → Int → List (S26) → Option (Int × (List (S26)) × Int)
 | 0, _, _, _ => none
 | k + 1, x5, x207000, x207001 => if (x5.length : Int) > 0 then (if 0 < (x5.length : Int) then (if 1 < (x5.length : Int) then (if 2 ≤ 4 then (if 4 ≤ (x5.length : Int) then ((code_taken.f k ((x5.take 4).drop 2)).bind fun t220 => (if 4 ≤ 8 then (if 8 ≤ (x5.length : Int) then ((code_taken.f k ((x5.take 8).drop 4)).bind fun t226 => (if x207001.length < 3518437208883 then (code_Decode.l0 k (x5.drop 8) x207000 (x207001 ++ [(⟨wrap64 (rd x5 0), wrap64 (IntKind.u8.wrap (Int.tdiv (rd x5 1) 16)), wrap64 (Int.tmod (rd x5 1) 16), wrap64 (IntKind.i16.wrap (t220)), t226⟩ : S26)])) else (none))) else (none)) else (none))) else (none)) else (none)) else (none)) else (none)) else ((code_Check.f k x207000 x207001).bind fun t235 => (if t235 = 0 then (some (x207000, x207001, 0)) else (some (0, ([] : List (S26)), t235))))
end
def code_Decode.f (k : Nat) (l0 : List Int) : Option (Int × (List (S26)) × Int) := if (l0.length : Int) < 6 then (code_Decode.j0 k l0 true) else (if 2 ≤ (l0.length : Int) then (if (strOfNums (l0.take 2)).toList = ([67, 88] : List UInt8) then (if 4 ≤ 6 then (if 6 ≤ (l0.length : Int) then ((code_taken.f k ((l0.take 6).drop 4)).bind fun t199 => (code_Decode.j0 k l0 ((l0.length : Int) != (wrap64 (6 + (wrap64 (8 * (wrap64 (t199))))))))) else (none)) else (none)) else (code_Decode.j0 k l0 true)) else (none))
theorem code_Decode.mono_l : ∀ k, (∀ y0 y1, LeO (code_Decode.j0 k y0 y1) (code_Decode.j0 (k + 1) y0 y1)) ∧ (∀ y0 y1 y2, LeO (code_Decode.l0 k y0 y1 y2) (code_Decode.l0 (k + 1) y0 y1 y2))
 | 0 => ⟨fun _ _ r h => by simp [code_Decode.j0] at h, fun _ _ _ r h => by simp [code_Decode.l0] at h⟩
 | k + 1 => by
  obtain ⟨ih0, ih1⟩ := code_Decode.mono_l k
  refine ⟨?_, ?_⟩
  ·intro y0 y1
   unfold code_Decode.j0
   repeat' first
   | (with_reducible exact ih0 _ _)
   | (with_reducible exact ih1 _ _ _)
   | (with_reducible exact code_Check.mono _ _ _)
   | (with_reducible exact code_taken.mono _ _)
   | (with_reducible exact LeO.refl _)
   | (with_reducible exact LeO.none _)
   | (with_reducible refine LeO.ite ?_ ?_)
   | (with_reducible refine LeO.bind ?_ (fun _ => ?_))
   | exact ih0 _ _
   | exact ih1 _ _ _
   | exact code_Check.mono _ _ _
   | exact code_taken.mono _ _
   | exact LeO.none _
   | refine LeO.ite ?_ ?_
   | refine LeO.bind ?_ (fun _ => ?_)
  ·intro y0 y1 y2
   unfold code_Decode.l0
   repeat' first
   | (with_reducible exact ih0 _ _)
   | (with_reducible exact ih1 _ _ _)
   | (with_reducible exact code_Check.mono _ _ _)
   | (with_reducible exact code_taken.mono _ _)
   | (with_reducible exact LeO.refl _)
   | (with_reducible exact LeO.none _)
   | (with_reducible refine LeO.ite ?_ ?_)
   | (with_reducible refine LeO.bind ?_ (fun _ => ?_))
   | exact ih0 _ _
   | exact ih1 _ _ _
   | exact code_Check.mono _ _ _
   | exact code_taken.mono _ _
   | exact LeO.none _
   | refine LeO.ite ?_ ?_
   | refine LeO.bind ?_ (fun _ => ?_)
theorem code_Decode.mono : ∀ a0 k, LeO (code_Decode.f k a0) (code_Decode.f (k + 1) a0) := by
 intro a0 k
 obtain ⟨ih0, ih1⟩ := code_Decode.mono_l k
 unfold code_Decode.f
 repeat' first
   | (with_reducible exact ih0 _ _)
   | (with_reducible exact ih1 _ _ _)
   | (with_reducible exact code_Check.mono _ _ _)
   | (with_reducible exact code_taken.mono _ _)
   | (with_reducible exact LeO.refl _)
   | (with_reducible exact LeO.none _)
   | (with_reducible refine LeO.ite ?_ ?_)
   | (with_reducible refine LeO.bind ?_ (fun _ => ?_))
   | exact ih0 _ _
   | exact ih1 _ _ _
   | exact code_Check.mono _ _ _
   | exact code_taken.mono _ _
   | exact LeO.none _
   | refine LeO.ite ?_ ?_
   | refine LeO.bind ?_ (fun _ => ?_)
def code_Decode.T7 : Bool × List (List Nat × List Nat) := (true, [([], []), ([0], [0]), ([], []), ([2], [2]), ([3], [3]), ([4], [4]), ([], []), ([6], [6]), ([7], [7]), ([8], [8]), ([9], [9]), ([], []), ([11], [11]), ([12], [12]), ([13], [13]), ([14], [14]), ([], []), ([16], [16]), ([17], [17]), ([18], [18]), ([19], [19]), ([], []), ([21], [21]), ([22, 18], [22]), ([5, 10, 15, 20, 23], [5, 10, 15, 20, 23]), ([24], [24]), ([1, 25, 23], [1, 25]), ([0, 1, 2, 3, 4, 5, 6, 7, 8, 9, 10, 11, 12, 13, 14, 15, 16, 17, 18, 19, 20, 21, 22, 23, 24, 25, 26], []), ([27, 26, 26, 0, 1, 2, 3, 4, 5, 6, 7, 8, 9, 10, 11, 12, 13, 14, 15, 16, 17, 18, 19, 20, 21, 22, 23, 24, 25, 26], [26, 27])])
def code_Decode.B7 : List Nat := [0, 1, 0, 4, 12, 28, 0, 64, 192, 448, 960, 0, 2048, 6144, 14336, 30720, 0, 65536, 196608, 458752, 983040, 0, 2097152, 6750208, 16777212, 33554428, 67108863, 134217727, 268435455]
theorem code_Decode.tab7 : rtab .any (opsOf Try.f16 7) = code_Decode.T7 := by kernel_rfl
theorem code_Decode.bits7 : waitsOk code_Decode.T7.2 code_Decode.B7 = true := by kernel_rfl
set_option maxHeartbeats 8000000 in
set_option maxRecDepth 100000 in
theorem code_Decode.calls (k : Nat) (P0_ : Nat → Prop) (A0 : Option Addr) (c0 : Nat) (l0 : List Int) (r1 : Int) (r2 : List (S26)) (r3 : Int) (w : World) (hs0 : Kd.V (Kd.int .u8) 5 w w.heap.size (fun k_ => P0_ k_) (.slice A0 l0.length c0) l0) (h : code_Decode.f k l0 = some (r1, r2, r3)) :
  Calls Try.prog 16 #[.slice A0 l0.length c0] w fun e w' => ∃ v1_ : Value, e = .returned (.tuple #[.agg #[.int .i64 r1, v1_], .int .i64 r3]) ∧ Kd.R k26 26 w' w.heap.size (fun k_ => (w.heap.size ≤ k_)) v1_ r2 ∧ Below w.heap.size w w' := by
 have hu32 := Try.underlying32
 have hu26 := Try.underlying26
 have HO0 := Aside0.mk (show Kd.V (Kd.int .u8) 5 w w.heap.size (fun k_ => (P0_ k_ ∨ w.heap.size ≤ k_)) (.slice A0 l0.length c0) l0 from Kd.V_mono hs0 (fun k_ hk => .inl hk))
 have HB := Aside0.mk (Below.refl w.heap.size w)
 have H : (if (l0.length : Int) < 6 then (code_Decode.j0 k l0 true) else (if 2 ≤ (l0.length : Int) then (if (strOfNums (l0.take 2)).toList = ([67, 88] : List UInt8) then (if 4 ≤ 6 then (if 6 ≤ (l0.length : Int) then ((code_taken.f k ((l0.take 6).drop 4)).bind fun t199 => (code_Decode.j0 k l0 ((l0.length : Int) != (wrap64 (6 + (wrap64 (8 * (wrap64 (t199))))))))) else (none)) else (none)) else (code_Decode.j0 k l0 true)) else (none))) = some (r1, r2, r3) := h
 clear h
 have HC2 := Aside0.mk H
 clear H
 go_enter Try.func16, Try.ntmps16
 go_upto_region 1 with (first | ((with_reducible refine gate_dst (N := 2) rfl ?_); (try (refine gate_guard (by rfl) ?_; dsimp only)); refine box_event ?hg (N := 2) ?hd (cs := #[.int .i64 0, .slice none 0 0]) (t := 32) ?hr ?_; (case hd => rfl); (case hg => rfl); (case hr => first | (go_simp; done) | (go_simp; rfl)); intro gb188 hg w3 hbox hb; have n0_ := Aside0.mk (Kd.V_below (Kd.V_elderB (by (with_reducible repeat (first | apply Kd.V_alloc | apply Kd.V_drewN | apply Kd.V_drew)); exact HO0.out) gb188 (Nat.le_of_eq hg.symm)) hb); have n1_ := Aside0.mk (below_step (by repeat (first | (with_reducible first | exact HB.out | apply below_alloc | apply pw_below_drewN | apply below_drew1) | exact HB.out)) hb); have n2_ := Aside0.mk (hbox); have n3_ := Aside0.mk ((by rw [hg]; exact (below_size (by repeat (first | (with_reducible first | exact HB.out | apply below_alloc | apply pw_below_drewN | apply below_drew1) | exact HB.out))) : w.heap.size ≤ gb188)); have n4_ := Aside0.mk ((by rw [hg]; exact (below_size (by repeat (first | (with_reducible first | exact HB.out | apply below_alloc | apply pw_below_drewN | apply below_drew1) | exact HB.out))) : w.heap.size ≤ gb188)); clear HO0; clear HB; have HO0 := n0_; have HB := n1_; have BK188 := n2_; have GW188 := n3_; have GE188 := n4_; clear n0_ n1_ n2_ n3_ n4_; clear hb hbox hg))
 (try simp only [Act.put, List.setIfInBounds_toArray, List.set_cons_zero, List.set_cons_succ])
 go_cut [26] (fun v26 wc => ∃ (kq : Nat) (x26_1 : Bool), v26 = .bool x26_1 ∧ Aside0 (code_Decode.j0 kq l0 x26_1 = some (r1, r2, r3)) ∧ Aside0 (kq ≤ k) ∧ Aside0 (Kd.V (Kd.int .u8) 5 wc w.heap.size (fun k_ => (P0_ k_ ∨ w.heap.size ≤ k_) ∧ k_ ≠ gb188) (.slice A0 l0.length c0) l0) ∧ Aside0 (wc.heap[gb188]? = some (.cells #[.int .i64 0, (.slice none 0 0)] 32 (0, 0))) ∧ Aside0 (Below w.heap.size w wc))
 case first =>
  have H := HC2.out
  clear HC2
  by_cases c4 : (l0.length : Int) < 6
  ·rw [if_pos c4] at H
   have c4b0 : decide ((l0.length : Int) < 6) = true := decide_eq_true c4
   have c4b1 : decide (l0.length < 6) = true := decide_eq_true (by omega)
   clear c4
   (first | rw [c4b0] | (simp only [i64_w, i32_w]; rw [c4b0]) | skip)
   have H' := Aside0.mk H
   clear H
   go_wp2
   go_meet
   case rel => exact ⟨_, (true), (by first | rfl | (simp; done) | (simp [*]; done)), H', ⟨by first | omega | exact Nat.le_refl _⟩, ⟨by (with_reducible repeat (first | apply Kd.V_alloc | apply Kd.V_drewN | apply Kd.V_drew)); exact HO0.out⟩, ⟨by (with_reducible repeat (first | refine blk_drewN ?_ _ | refine blk_drew ?_ | refine blk_alloc ?_ _)); exact BK188.out⟩, ⟨by repeat (first | (with_reducible first | exact HB.out | apply below_alloc | apply pw_below_drewN | apply below_drew1 | refine below_set ?_ GE188.out) | exact HB.out)⟩⟩
  ·rw [if_neg c4] at H
   have c4b0 : decide ((l0.length : Int) < 6) = false := decide_eq_false c4
   have c4b1 : decide (l0.length < 6) = false := decide_eq_false (by omega)
   clear c4
   (first | rw [c4b0] | (simp only [i64_w, i32_w]; rw [c4b0]) | skip)
   by_cases c5 : 2 ≤ (l0.length : Int)
   ·rw [if_pos c5] at H
    have c5b0 := eq_true c5
    have c5b1 : decide (2 ≤ (l0.length : Int)) = true := decide_eq_true c5
    clear c5
    obtain ⟨y189, hy189⟩ : ∃ y_ : List Int, y_ = (l0.take 2) := ⟨_, rfl⟩
    replace H : (if (strOfNums y189).toList = ([67, 88] : List UInt8) then (if 4 ≤ 6 then (if 6 ≤ (l0.length : Int) then ((code_taken.f k ((l0.take 6).drop 4)).bind fun t199 => (code_Decode.j0 k l0 ((l0.length : Int) != (wrap64 (6 + (wrap64 (8 * (wrap64 (t199))))))))) else (none)) else (none)) else (code_Decode.j0 k l0 true)) = some (r1, r2, r3) := by first | (rw [hy189]; with_reducible exact H) | (have H2_ := (Option.bind_some _ _).symm.trans H; rw [hy189]; with_reducible exact H2_) | (have H2_ := (Option.bind_some _ _).symm.trans H; with_reducible exact H2_) | with_reducible exact H | (rw [hy189]; exact H) | exact H
    have Ny189 := Aside0.mk hy189
    clear hy189
    by_cases c6 : (strOfNums y189).toList = ([67, 88] : List UInt8)
    ·rw [if_pos c6] at H
     have c6b0 : ((strOfNums y189).toList == ([67, 88] : List UInt8)) = true := beq_iff_eq.mpr c6
     have c6b1 : ((strOfNums y189).toList != ([67, 88] : List UInt8)) = false := bne_eq_false_iff_eq.mpr c6
     clear c6
     by_cases c7 : 4 ≤ 6
     ·rw [if_pos c7] at H
      have c7b0 := eq_true c7
      have c7b1 : decide (4 ≤ 6) = true := decide_eq_true c7
      clear c7
      by_cases c8 : 6 ≤ (l0.length : Int)
      ·rw [if_pos c8] at H
       have c8b0 := eq_true c8
       have c8b1 : decide (6 ≤ (l0.length : Int)) = true := decide_eq_true c8
       clear c8
       obtain ⟨y194, hy194⟩ : ∃ y_ : List Int, y_ = ((l0.take 6).drop 4) := ⟨_, rfl⟩
       replace H : ((code_taken.f k y194).bind fun t199 => (code_Decode.j0 k l0 ((l0.length : Int) != (wrap64 (6 + (wrap64 (8 * (wrap64 (t199))))))))) = some (r1, r2, r3) := by first | (rw [hy194]; with_reducible exact H) | (have H2_ := (Option.bind_some _ _).symm.trans H; rw [hy194]; with_reducible exact H2_) | (have H2_ := (Option.bind_some _ _).symm.trans H; with_reducible exact H2_) | with_reducible exact H | (rw [hy194]; exact H) | exact H
       have Ny194 := Aside0.mk hy194
       clear hy194
       replace H := Option.bind_eq_some_iff.mp H
       obtain ⟨t199, A90, H⟩ := H
       replace H : (code_Decode.j0 k l0 ((l0.length : Int) != (wrap64 (6 + (wrap64 (8 * (wrap64 (t199)))))))) = some (r1, r2, r3) := H
       have A9 := Aside0.mk A90
       clear A90
       have H' := Aside0.mk H
       clear H
       have q10 : (2 : Int) ≤ ((l0.length : Int) : Int) := of_decide_eq_true (by first | (with_reducible assumption) | assumption)
       obtain ⟨i010, hi010, _, hsz10, _⟩ := info_parts info5
       have hroom10 : l0.length ≤ c0 := (Kd.V_reads' HO0.out).2.1
       have hC10 : Kd.F (Kd.int .u8) _ _ A0 l0.length l0 := (Kd.V_at (base := w.heap.size) HO0.out).2.2
       have hcut10 := cut_to (P := Try.prog) 40 5 .i64 Try.underlying40 hi010 A0 l0.length c0 2 (by omega) q10 hroom10
       have hr10 := Kd.F_take (m := 2) hC10 (by omega)
       have hy10 : y189.length = (2 : Int).toNat := (by rw [Ny189.out, List.length_take]; omega)
       rw [← Ny189.out] at hr10
       rw [← hy10] at hcut10
       have HO193 := Aside0.mk (show Kd.V (Kd.int .u8) 5 _ w.heap.size _ (.slice A0 y189.length c0) y189 from Kd.V_mk (by omega) hr10)
       have HC193 := Aside0.mk (show y189.length ≤ c0 from by omega)
       clear hr10 hC10 hroom10 hi010 hsz10
       have KY10 := Aside0.mk hy10
       clear hy10
       replace q10 := eq_true q10
       have hcv11 := Kd.C_string (P := Try.prog) (A := A0) (c := c0) Try.underlying40 Try.underlying5 Try.underlying9 (Kd.V_reads' HO193.out).2.2
       have q12 : (6 : Int) ≤ ((l0.length : Int) : Int) := of_decide_eq_true (by first | (with_reducible assumption) | assumption)
       obtain ⟨i012, hi012, _, hsz12, _⟩ := info_parts info5
       have hroom12 : l0.length ≤ c0 := (Kd.V_reads' HO0.out).2.1
       have hC12 : Kd.F (Kd.int .u8) _ _ A0 l0.length l0 := (Kd.V_at (base := w.heap.size) HO0.out).2.2
       have ql12 : (4 : Int) ≤ (6 : Int) := (by omega)
       have hcut12 := cut_mid (P := Try.prog) 40 5 .i64 .i64 Try.underlying40 hi012 1 hsz12 A0 l0.length c0 4 6 (by omega) ql12 q12 hroom12
       have hr12 := Kd.F_mid (lo := (4 : Int).toNat) (hi := (6 : Int).toNat) (c := c0) hC12 (by omega) (by omega) hroom12
       obtain ⟨A12, hA12⟩ : ∃ A1, A1 = (if c0 = (4 : Int).toNat then A0 else (A0 : Option Addr).map (·.add ((4 : Int).toNat * 1))) := ⟨_, rfl⟩
       obtain ⟨c12, hc12⟩ : ∃ c1, c1 = c0 - (4 : Int).toNat := ⟨_, rfl⟩
       have hy12 : y194.length = (6 : Int).toNat - (4 : Int).toNat := (by rw [Ny194.out, List.length_drop, List.length_take] <;> omega)
       rw [show ((l0).take (6 : Int).toNat).drop (4 : Int).toNat = y194 from Ny194.out.symm] at hr12
       replace hr12 : Kd.F (Kd.int .u8) _ _ A12 y194.length y194 := (by rw [hA12]; exact hr12)
       rw [← hy12, ← hA12, ← hc12] at hcut12
       have HO198 := Aside0.mk (show Kd.V (Kd.int .u8) 5 _ w.heap.size _ (.slice A12 y194.length c12) y194 from Kd.V_mk (by rw [hy12, hc12]; exact Nat.sub_le_sub_right (Nat.le_trans (by omega) hroom12) _) hr12)
       have HC198 := Aside0.mk (show y194.length ≤ c12 from by rw [hy12, hc12]; exact Nat.sub_le_sub_right (Nat.le_trans (by omega) hroom12) _)
       clear hr12 hC12 hroom12 hi012 hsz12 hc12
       have KY12 := Aside0.mk hy12
       have KA12 := Aside0.mk hA12
       clear hy12 hA12
       replace q12 := eq_true q12
       go_wp2_with (first | (go_at_call 25; (with_reducible refine (code_taken.calls k _ _ y194 t199 _ ?side1 ?side2 A9.out).mono ?_); (case side1 => repeat (first | exact (Kd.V_reads' HO198.out).2.2 | (with_reducible refine Kd.C_alloc ?_ _) | (with_reducible refine Kd.C_drewN ?_ _) | (with_reducible refine Kd.C_drew ?_))); (case side2 => exact (Kd.V_reads' HO198.out).2.1); rintro e w' ⟨rfl, ⟨nd, rfl⟩⟩))
       go_meet
       case rel => exact ⟨_, (((l0.length : Int) != (wrap64 (6 + (wrap64 (8 * (wrap64 (t199)))))))), (by first | rfl | (simp; done) | (simp [*]; done)), H', ⟨by first | omega | exact Nat.le_refl _⟩, ⟨by (with_reducible repeat (first | apply Kd.V_alloc | apply Kd.V_drewN | apply Kd.V_drew)); exact HO0.out⟩, ⟨by (with_reducible repeat (first | refine blk_drewN ?_ _ | refine blk_drew ?_ | refine blk_alloc ?_ _)); exact BK188.out⟩, ⟨by repeat (first | (with_reducible first | exact HB.out | apply below_alloc | apply pw_below_drewN | apply below_drew1 | refine below_set ?_ GE188.out) | exact HB.out)⟩⟩
      ·rw [if_neg c8] at H
       exact absurd H (by simp)
     ·rw [if_neg c7] at H
      exact absurd H (by simp)
    ·rw [if_neg c6] at H
     have c6b0 : ((strOfNums y189).toList == ([67, 88] : List UInt8)) = false := beq_eq_false_iff_ne.mpr c6
     have c6b1 : ((strOfNums y189).toList != ([67, 88] : List UInt8)) = true := bne_iff_ne.mpr c6
     have H' := Aside0.mk H
     clear H
     have q13 : (2 : Int) ≤ ((l0.length : Int) : Int) := of_decide_eq_true (by first | (with_reducible assumption) | assumption)
     obtain ⟨i013, hi013, _, hsz13, _⟩ := info_parts info5
     have hroom13 : l0.length ≤ c0 := (Kd.V_reads' HO0.out).2.1
     have hC13 : Kd.F (Kd.int .u8) _ _ A0 l0.length l0 := (Kd.V_at (base := w.heap.size) HO0.out).2.2
     have hcut13 := cut_to (P := Try.prog) 40 5 .i64 Try.underlying40 hi013 A0 l0.length c0 2 (by omega) q13 hroom13
     have hr13 := Kd.F_take (m := 2) hC13 (by omega)
     have hy13 : y189.length = (2 : Int).toNat := (by rw [Ny189.out, List.length_take]; omega)
     rw [← Ny189.out] at hr13
     rw [← hy13] at hcut13
     have HO193 := Aside0.mk (show Kd.V (Kd.int .u8) 5 _ w.heap.size _ (.slice A0 y189.length c0) y189 from Kd.V_mk (by omega) hr13)
     have HC193 := Aside0.mk (show y189.length ≤ c0 from by omega)
     clear hr13 hC13 hroom13 hi013 hsz13
     have KY13 := Aside0.mk hy13
     clear hy13
     replace q13 := eq_true q13
     have hcv14 := Kd.C_string (P := Try.prog) (A := A0) (c := c0) Try.underlying40 Try.underlying5 Try.underlying9 (Kd.V_reads' HO193.out).2.2
     go_wp2
     go_meet
     case rel => exact ⟨_, (true), (by first | rfl | (simp; done) | (simp [*]; done)), H', ⟨by first | omega | exact Nat.le_refl _⟩, ⟨by (with_reducible repeat (first | apply Kd.V_alloc | apply Kd.V_drewN | apply Kd.V_drew)); exact HO0.out⟩, ⟨by (with_reducible repeat (first | refine blk_drewN ?_ _ | refine blk_drew ?_ | refine blk_alloc ?_ _)); exact BK188.out⟩, ⟨by repeat (first | (with_reducible first | exact HB.out | apply below_alloc | apply pw_below_drewN | apply below_drew1 | refine below_set ?_ GE188.out) | exact HB.out)⟩⟩
   ·rw [if_neg c5] at H
    exact absurd H (by simp)
 case rest =>
  clear HC2
  try clear c1
  try clear q1
  try clear hcv1
  try clear p2
  try clear c4
  try clear c4b0
  try clear c4b1
  try clear c5
  try clear c5b0
  try clear c5b1
  try clear c6
  try clear c6b0
  try clear c6b1
  try clear p6
  try clear c7
  try clear c7b0
  try clear c7b1
  try clear c8
  try clear c8b0
  try clear c8b1
  try clear q10
  try clear hcv11
  try clear c12
  try clear q12
  try clear q13
  try clear hcv14
  try clear q10
  try clear q12
  try clear q13
  obtain ⟨kq, x26_1, rfl, HA, HJ1, HO_0, BK188, HB⟩ := hcut
  cases kq with
  | zero => exact absurd HA.out (by simp [code_Decode.j0])
  | succ kj1 =>
   have H := HA.out
   clear HA
   simp only [code_Decode.j0] at H
   by_cases c15 : x26_1 = true
   ·subst c15
    have H1 : (some (0, ([] : List (S26)), 150)) = some (r1, r2, r3) := by rw [if_pos rfl] at H; exact H
    clear H
    have H := H1
    clear H1
    simp only [Option.some.injEq, Prod.mk.injEq] at H
    obtain ⟨rfl, rfl, rfl⟩ := H
    have hcz16_0 : wc.cell? ⟨gb188, 0, none⟩ = some (.int .i64 0) := (blk_cell BK188.out 0).trans rfl
    have hcz16_1 : wc.cell? ⟨gb188, 1, none⟩ = some (.slice none 0 0) := (blk_cell BK188.out 1).trans rfl
    have hfz16_0 := blk_frozen BK188.out 0
    have hfz16_1 := blk_frozen BK188.out 1
    go_wp2
    refine bodyPost_ret (results_ct rfl _ _ gb188 32 #[.int .i64 0, .slice none 0 0] (0, 0) _ rfl (by (with_reducible repeat (first | refine blk_drewN ?_ _ | refine blk_drew ?_ | refine blk_alloc ?_ _)); refine blk_put (cs := #[.int .i64 0, .slice none 0 0]) ?_ 1 _ rfl; (with_reducible repeat (first | refine blk_drewN ?_ _ | refine blk_drew ?_ | refine blk_alloc ?_ _)); refine blk_put (cs := #[.int .i64 0, .slice none 0 0]) ?_ 0 _ rfl; (with_reducible repeat (first | refine blk_drewN ?_ _ | refine blk_drew ?_ | refine blk_alloc ?_ _)); exact BK188.out) Try.underlying32 rfl (by kernel_rfl)) rfl ?_
    exact ⟨_, by first | rfl | (simp [errW_none, errW_some] <;> rfl) | (simp [*, errW_none, errW_some] <;> rfl), by first | exact Kd.R_nil _ _ _ _ _ | exact Kd.N_nil _ _ _ _ _ | exact Kd.V_nil _ _ _ _ _ | exact Kd.Q_nil _ _ _ _ _ | exact Kd.S_nil _ _ _ _ _, by repeat (first | (with_reducible first | exact HB.out | apply below_alloc | apply pw_below_drewN | apply below_drew1 | refine below_set ?_ GE188.out) | exact HB.out)⟩
   ·replace c15 := Bool.eq_false_iff.mpr c15
    subst c15
    have H1 : (if 2 ≤ 4 then (if 4 ≤ (l0.length : Int) then ((code_taken.f kj1 ((l0.take 4).drop 2)).bind fun t205 => (if 6 ≤ (l0.length : Int) then (code_Decode.l0 kj1 (l0.drop 6) (wrap64 (t205)) ([] : List (S26))) else (none))) else (none)) else (none)) = some (r1, r2, r3) := by rw [if_neg (show ¬ (false = true) by decide)] at H; exact H
    clear H
    have H := H1
    clear H1
    by_cases c17 : 2 ≤ 4
    ·rw [if_pos c17] at H
     have c17b0 := eq_true c17
     have c17b1 : decide (2 ≤ 4) = true := decide_eq_true c17
     clear c17
     by_cases c18 : 4 ≤ (l0.length : Int)
     ·rw [if_pos c18] at H
      have c18b0 := eq_true c18
      have c18b1 : decide (4 ≤ (l0.length : Int)) = true := decide_eq_true c18
      clear c18
      obtain ⟨y200, hy200⟩ : ∃ y_ : List Int, y_ = ((l0.take 4).drop 2) := ⟨_, rfl⟩
      replace H : ((code_taken.f kj1 y200).bind fun t205 => (if 6 ≤ (l0.length : Int) then (code_Decode.l0 kj1 (l0.drop 6) (wrap64 (t205)) ([] : List (S26))) else (none))) = some (r1, r2, r3) := by first | (rw [hy200]; with_reducible exact H) | (have H2_ := (Option.bind_some _ _).symm.trans H; rw [hy200]; with_reducible exact H2_) | (have H2_ := (Option.bind_some _ _).symm.trans H; with_reducible exact H2_) | with_reducible exact H | (rw [hy200]; exact H) | exact H
      have Ny200 := Aside0.mk hy200
      clear hy200
      replace H := Option.bind_eq_some_iff.mp H
      obtain ⟨t205, A190, H⟩ := H
      replace H : (if 6 ≤ (l0.length : Int) then (code_Decode.l0 kj1 (l0.drop 6) (wrap64 (t205)) ([] : List (S26))) else (none)) = some (r1, r2, r3) := H
      have A19 := Aside0.mk A190
      clear A190
      by_cases c20 : 6 ≤ (l0.length : Int)
      ·rw [if_pos c20] at H
       have c20b0 := eq_true c20
       have c20b1 : decide (6 ≤ (l0.length : Int)) = true := decide_eq_true c20
       clear c20
       obtain ⟨y207, hy207⟩ : ∃ y_ : List Int, y_ = (l0.drop 6) := ⟨_, rfl⟩
       replace H : (code_Decode.l0 kj1 y207 (wrap64 (t205)) ([] : List (S26))) = some (r1, r2, r3) := by first | (rw [hy207]; with_reducible exact H) | (have H2_ := (Option.bind_some _ _).symm.trans H; rw [hy207]; with_reducible exact H2_) | (have H2_ := (Option.bind_some _ _).symm.trans H; with_reducible exact H2_) | with_reducible exact H | (rw [hy207]; exact H) | exact H
       have Ny207 := Aside0.mk hy207
       clear hy207
       have H' := Aside0.mk H
       clear H
       have q21 : (4 : Int) ≤ ((l0.length : Int) : Int) := of_decide_eq_true (by first | (with_reducible assumption) | assumption)
       obtain ⟨i021, hi021, _, hsz21, _⟩ := info_parts info5
       have hroom21 : l0.length ≤ c0 := (Kd.V_reads' HO_0.out).2.1
       have hC21 : Kd.F (Kd.int .u8) _ _ A0 l0.length l0 := (Kd.V_at (base := w.heap.size) HO_0.out).2.2
       have ql21 : (2 : Int) ≤ (4 : Int) := (by omega)
       have hcut21 := cut_mid (P := Try.prog) 40 5 .i64 .i64 Try.underlying40 hi021 1 hsz21 A0 l0.length c0 2 4 (by omega) ql21 q21 hroom21
       have hr21 := Kd.F_mid (lo := (2 : Int).toNat) (hi := (4 : Int).toNat) (c := c0) hC21 (by omega) (by omega) hroom21
       obtain ⟨A21, hA21⟩ : ∃ A1, A1 = (if c0 = (2 : Int).toNat then A0 else (A0 : Option Addr).map (·.add ((2 : Int).toNat * 1))) := ⟨_, rfl⟩
       obtain ⟨c21, hc21⟩ : ∃ c1, c1 = c0 - (2 : Int).toNat := ⟨_, rfl⟩
       have hy21 : y200.length = (4 : Int).toNat - (2 : Int).toNat := (by rw [Ny200.out, List.length_drop, List.length_take] <;> omega)
       rw [show ((l0).take (4 : Int).toNat).drop (2 : Int).toNat = y200 from Ny200.out.symm] at hr21
       replace hr21 : Kd.F (Kd.int .u8) _ _ A21 y200.length y200 := (by rw [hA21]; exact hr21)
       rw [← hy21, ← hA21, ← hc21] at hcut21
       have HO204 := Aside0.mk (show Kd.V (Kd.int .u8) 5 _ w.heap.size _ (.slice A21 y200.length c21) y200 from Kd.V_mk (by rw [hy21, hc21]; exact Nat.sub_le_sub_right (Nat.le_trans (by omega) hroom21) _) hr21)
       have HC204 := Aside0.mk (show y200.length ≤ c21 from by rw [hy21, hc21]; exact Nat.sub_le_sub_right (Nat.le_trans (by omega) hroom21) _)
       clear hr21 hC21 hroom21 hi021 hsz21 hc21
       have KY21 := Aside0.mk hy21
       have KA21 := Aside0.mk hA21
       clear hy21 hA21
       replace q21 := eq_true q21
       go_wp2_with (first | ((with_reducible refine gate_callee (f := 25) rfl ?_); refine goesL_ (some 30) rfl rfl Try.func25 (by kernel_rfl) rfl #[.slice A21 y200.length c21] rfl (by (try simp only [List.map_toArray, List.map_cons, List.map_nil]); first | done | rfl | (simp only [List.length_drop, List.length_take]; rfl)) ?_; (with_reducible refine (code_taken.calls kj1 _ _ y200 t205 _ ?side1 ?side2 A19.out).mono ?_); (case side1 => repeat (first | exact (Kd.V_reads' HO204.out).2.2 | (with_reducible refine Kd.C_alloc ?_ _) | (with_reducible refine Kd.C_drewN ?_ _) | (with_reducible refine Kd.C_drew ?_))); (case side2 => exact (Kd.V_reads' HO204.out).2.1); rintro e w' ⟨rfl, ⟨nd, rfl⟩⟩; refine ⟨_, rfl, ?_⟩; (try (rw [drewN_self wc]; generalize hq_ : World.drewN wc _ = wc; have n0_ : Aside0 (Kd.V (Kd.int .u8) 5 wc w.heap.size (fun k_ => (P0_ k_ ∨ w.heap.size ≤ k_) ∧ k_ ≠ gb188) (.slice A21 y200.length c21) y200) := ⟨by rw [← hq_]; exact (by (with_reducible repeat (first | apply Kd.V_alloc | apply Kd.V_drewN | apply Kd.V_drew)); exact HO204.out)⟩; have n1_ : Aside0 (Kd.V (Kd.int .u8) 5 wc w.heap.size (fun k_ => (P0_ k_ ∨ w.heap.size ≤ k_) ∧ k_ ≠ gb188) (.slice A0 l0.length c0) l0) := ⟨by rw [← hq_]; exact (by (with_reducible repeat (first | apply Kd.V_alloc | apply Kd.V_drewN | apply Kd.V_drew)); exact HO_0.out)⟩; have n2_ : Aside0 (wc.heap[gb188]? = some (.cells #[.int .i64 0, .slice none 0 0] 32 (0, 0))) := ⟨by rw [← hq_]; exact (by (with_reducible repeat (first | refine blk_drewN ?_ _ | refine blk_drew ?_ | refine blk_alloc ?_ _)); exact BK188.out)⟩; have n3_ : Aside0 (Below w.heap.size w wc) := ⟨by rw [← hq_]; exact (by repeat (first | (with_reducible first | exact HB.out | apply below_alloc | apply pw_below_drewN | apply below_drew1 | refine below_set ?_ GE188.out) | exact HB.out))⟩; clear HO204 HO_0 BK188 HB hq_; have HO204 := n0_; have HO_0 := n1_; have BK188 := n2_; have HB := n3_; clear n0_ n1_ n2_ n3_))) | ((with_reducible refine gate_dst (N := 4) rfl ?_); (try (refine gate_guard (by rfl) ?_; dsimp only)); refine box_event ?hg (N := 4) ?hd (cs := #[.int .i64 0, .slice none 0 0]) (t := 32) ?hr ?_; (case hd => rfl); (case hg => rfl); (case hr => first | (go_simp; done) | (go_simp; rfl)); intro gb206 hg w22 hbox hb; have n0_ := Aside0.mk (Kd.V_below (Kd.V_elderB (by (with_reducible repeat (first | apply Kd.V_alloc | apply Kd.V_drewN | apply Kd.V_drew)); exact HO_0.out) gb206 (Nat.le_of_eq hg.symm)) hb); have n1_ := Aside0.mk (Kd.V_below (Kd.V_elderB (by (with_reducible repeat (first | apply Kd.V_alloc | apply Kd.V_drewN | apply Kd.V_drew)); exact HO204.out) gb206 (Nat.le_of_eq hg.symm)) hb); have n2_ := Aside0.mk (blk_below (g := gb188) (o := .cells #[.int .i64 0, .slice none 0 0] 32 (0, 0)) (by (with_reducible repeat (first | refine blk_drewN ?_ _ | refine blk_drew ?_ | refine blk_alloc ?_ _)); exact BK188.out) hb); have n3_ := Aside0.mk (below_step (by repeat (first | (with_reducible first | exact HB.out | apply below_alloc | apply pw_below_drewN | apply below_drew1 | refine below_set ?_ GE188.out) | exact HB.out)) hb); have n4_ := Aside0.mk (hbox); have n5_ := Aside0.mk ((by rw [hg]; exact (below_size (by repeat (first | (with_reducible first | exact HB.out | apply below_alloc | apply pw_below_drewN | apply below_drew1 | refine below_set ?_ GE188.out) | exact HB.out))) : w.heap.size ≤ gb206)); have n6_ := Aside0.mk ((by rw [hg]; exact (below_size (by repeat (first | (with_reducible first | exact HB.out | apply below_alloc | apply pw_below_drewN | apply below_drew1 | refine below_set ?_ GE188.out) | exact HB.out))) : w.heap.size ≤ gb206)); have n7_ := Aside0.mk ((by rw [hg]; exact Nat.ne_of_lt (blk_lt (g := gb188) (o := .cells #[.int .i64 0, .slice none 0 0] 32 (0, 0)) (by (with_reducible repeat (first | refine blk_drewN ?_ _ | refine blk_drew ?_ | refine blk_alloc ?_ _)); exact BK188.out)) : gb188 ≠ gb206)); have n8_ := Aside0.mk ((by rw [hg]; exact Nat.ne_of_gt (blk_lt (g := gb188) (o := .cells #[.int .i64 0, .slice none 0 0] 32 (0, 0)) (by (with_reducible repeat (first | refine blk_drewN ?_ _ | refine blk_drew ?_ | refine blk_alloc ?_ _)); exact BK188.out)) : gb206 ≠ gb188)); clear HO_0; clear HO204; clear BK188; clear HB; have HO_0 := n0_; have HO204 := n1_; have BK188 := n2_; have HB := n3_; have BK206 := n4_; have GW206 := n5_; have GE206 := n6_; have NB188_206 := n7_; have NB206_188 := n8_; clear n0_ n1_ n2_ n3_ n4_ n5_ n6_ n7_ n8_; clear hb hbox hg; have hnb23 := NB206_188.out; have hnc23 := NB188_206.out; have hcz24_0 : w22.cell? ⟨gb206, 0, none⟩ = some (.int .i64 0) := (blk_cell BK206.out 0).trans rfl; have hcz24_1 : w22.cell? ⟨gb206, 1, none⟩ = some (.slice none 0 0) := (blk_cell BK206.out 1).trans rfl; have hfz24_0 := blk_frozen BK206.out 0; have hfz24_1 := blk_frozen BK206.out 1) | ((with_reducible refine gate_store (t := 32) (p := 4) rfl ?_); refine store_event (t := 32) (p := 4) (v := ?vo_w25) (w1 := ((w22.setCell ⟨gb206, 0, none⟩ (.int .i64 (wrap64 (t205)))).setCell ⟨gb206, 1, none⟩ (.slice none 0 0))) ?hg ?ho ?hn ?hr ?_; (case ho => rfl); (case hg => rfl); (case hn => rfl); (case hr => first | (go_simp; done) | (go_simp; rfl)); intro w25 hw; have n0_ : Aside0 (Kd.V (Kd.int .u8) 5 w25 w.heap.size (fun k_ => (P0_ k_ ∨ w.heap.size ≤ k_) ∧ k_ ≠ gb188 ∧ k_ ≠ gb206) (.slice A0 l0.length c0) l0) := ⟨(by rw [hw]; exact (by (with_reducible repeat (first | apply Kd.V_alloc | apply Kd.V_drewN | apply Kd.V_drew)); exact Kd.V_mono (Kd.V_far (p := ⟨gb206, 1, none⟩) (Kd.V_far (p := ⟨gb206, 0, none⟩) (Kd.V_mono HO_0.out (fun k_ hk => (⟨hk, hk.2⟩ : _ ∧ k_ ≠ gb206))) (fun _ hk => hk.2) (.int .i64 (wrap64 (t205)))) (fun _ hk => hk.2) (.slice none 0 0)) (fun _ hk => ⟨hk.1.1.1, ⟨hk.1.1.2, hk.1.2⟩⟩)))⟩; have n1_ : Aside0 (Kd.V (Kd.int .u8) 5 w25 w.heap.size (fun k_ => (P0_ k_ ∨ w.heap.size ≤ k_) ∧ k_ ≠ gb188 ∧ k_ ≠ gb206) (.slice A21 y200.length c21) y200) := ⟨(by rw [hw]; exact (by (with_reducible repeat (first | apply Kd.V_alloc | apply Kd.V_drewN | apply Kd.V_drew)); exact Kd.V_mono (Kd.V_far (p := ⟨gb206, 1, none⟩) (Kd.V_far (p := ⟨gb206, 0, none⟩) (Kd.V_mono HO204.out (fun k_ hk => (⟨hk, hk.2⟩ : _ ∧ k_ ≠ gb206))) (fun _ hk => hk.2) (.int .i64 (wrap64 (t205)))) (fun _ hk => hk.2) (.slice none 0 0)) (fun _ hk => ⟨hk.1.1.1, ⟨hk.1.1.2, hk.1.2⟩⟩)))⟩; have n2_ : Aside0 (w25.heap[gb188]? = some (.cells #[.int .i64 0, .slice none 0 0] 32 (0, 0))) := ⟨(by rw [hw]; exact (by (with_reducible repeat (first | refine blk_drewN ?_ _ | refine blk_drew ?_ | refine blk_alloc ?_ _)); refine blk_far ?_ NB188_206.out _; (with_reducible repeat (first | refine blk_drewN ?_ _ | refine blk_drew ?_ | refine blk_alloc ?_ _)); refine blk_far ?_ NB188_206.out _; (with_reducible repeat (first | refine blk_drewN ?_ _ | refine blk_drew ?_ | refine blk_alloc ?_ _)); exact BK188.out))⟩; have n3_ : Aside0 (w25.heap[gb206]? = some (.cells #[.int .i64 (wrap64 (t205)), .slice none 0 0] 32 (0, 0))) := ⟨(by rw [hw]; exact (by (with_reducible repeat (first | refine blk_drewN ?_ _ | refine blk_drew ?_ | refine blk_alloc ?_ _)); refine blk_put (cs := #[.int .i64 (wrap64 (t205)), .slice none 0 0]) ?_ 1 _ rfl; (with_reducible repeat (first | refine blk_drewN ?_ _ | refine blk_drew ?_ | refine blk_alloc ?_ _)); refine blk_put (cs := #[.int .i64 0, .slice none 0 0]) ?_ 0 _ rfl; (with_reducible repeat (first | refine blk_drewN ?_ _ | refine blk_drew ?_ | refine blk_alloc ?_ _)); exact BK206.out))⟩; have n4_ : Aside0 (Below w.heap.size w w25) := ⟨(by rw [hw]; exact (by repeat (first | (with_reducible first | exact HB.out | apply below_alloc | apply pw_below_drewN | apply below_drew1 | refine below_set ?_ GE188.out | refine below_set ?_ GE206.out) | exact HB.out)))⟩; clear hw; clear HO_0; clear HO204; clear BK188; clear BK206; clear HB; have HO_0 := n0_; have HO204 := n1_; have BK188 := n2_; have BK206 := n3_; have HB := n4_; clear n0_ n1_ n2_ n3_ n4_; have q26 : (6 : Int) ≤ ((l0.length : Int) : Int) := of_decide_eq_true (by first | (with_reducible assumption) | assumption); obtain ⟨i026, hi026, _, hsz26, _⟩ := info_parts info5; have hroom26 : l0.length ≤ c0 := (Kd.V_reads' HO_0.out).2.1; have hC26 : Kd.F (Kd.int .u8) _ _ A0 l0.length l0 := (Kd.V_at (base := w.heap.size) HO_0.out).2.2; have hcut26 := cut_from (P := Try.prog) 40 5 .i64 Try.underlying40 hi026 1 hsz26 A0 l0.length c0 6 (by omega) q26; have hr26 := Kd.F_cut (m := (6 : Int).toNat) (c := c0) hC26 (by omega) hroom26; obtain ⟨A26, hA26⟩ : ∃ A1, A1 = (if c0 = (6 : Int).toNat then A0 else (A0 : Option Addr).map (·.add ((6 : Int).toNat * 1))) := ⟨_, rfl⟩; obtain ⟨c26, hc26⟩ : ∃ c1, c1 = c0 - (6 : Int).toNat := ⟨_, rfl⟩; have hy26 : y207.length = l0.length - (6 : Int).toNat := (by rw [Ny207.out, List.length_drop] <;> omega); rw [show (l0).drop (6 : Int).toNat = y207 from Ny207.out.symm] at hr26; replace hr26 : Kd.F (Kd.int .u8) _ _ A26 y207.length y207 := (by rw [hA26]; exact hr26); rw [← hy26, ← hA26, ← hc26] at hcut26; have HO211 := Aside0.mk (show Kd.V (Kd.int .u8) 5 _ w.heap.size _ (.slice A26 y207.length c26) y207 from Kd.V_mk (by rw [hy26, hc26]; exact Nat.sub_le_sub_right hroom26 _) hr26); have HC211 := Aside0.mk (show y207.length ≤ c26 from by rw [hy26, hc26]; exact Nat.sub_le_sub_right hroom26 _); clear hr26 hC26 hroom26 hi026 hsz26 hc26; have KY26 := Aside0.mk hy26; have KA26 := Aside0.mk hA26; clear hy26 hA26; replace q26 := eq_true q26))
       go_loopg [5] kj1 (fun kq v5 w' => ∃ (x5_2 : List Int) (x207001_2 : List (S26)) (u207001 : Value), Aside0 (code_Decode.l0 kq x5_2 (wrap64 (t205)) x207001_2 = some (r1, r2, r3)) ∧ Aside0 (kq ≤ kj1) ∧ Aside0 (Kd.V (Kd.int .u8) 5 w' w.heap.size (fun k_ => (P0_ k_ ∨ w.heap.size ≤ k_) ∧ some k_ ≠ (u207001 : Value).ownBlock ∧ k_ ≠ gb188 ∧ k_ ≠ gb206) v5 x5_2) ∧ Aside0 (Kd.R k26 26 w' w.heap.size (fun k_ => (w.heap.size ≤ k_)) u207001 x207001_2) ∧ Aside0 (w'.heap[gb188]? = some (.cells #[.int .i64 0, (.slice none 0 0)] 32 (0, 0))) ∧ Aside0 (w'.heap[gb206]? = some (.cells #[.int .i64 (wrap64 (t205)), u207001] 32 (0, 0))) ∧ Aside0 (Below w.heap.size w w'))
       case atStart => exact ⟨(y207), (([] : List (S26))), (.slice none 0 0), H', ⟨Nat.le_refl _⟩, ⟨by (with_reducible repeat (first | apply Kd.V_alloc | apply Kd.V_drewN | apply Kd.V_drew)); exact Kd.V_mono HO211.out (fun _ hk => ⟨hk.1, ⟨(by simp [Value.ownBlock]), ⟨hk.2.1, hk.2.2⟩⟩⟩)⟩, ⟨by first | exact Kd.R_nil _ _ _ _ _ | exact Kd.N_nil _ _ _ _ _ | exact Kd.V_nil _ _ _ _ _ | exact Kd.Q_nil _ _ _ _ _ | exact Kd.S_nil _ _ _ _ _⟩, ⟨by (with_reducible repeat (first | refine blk_drewN ?_ _ | refine blk_drew ?_ | refine blk_alloc ?_ _)); exact BK188.out⟩, ⟨by (with_reducible repeat (first | refine blk_drewN ?_ _ | refine blk_drew ?_ | refine blk_alloc ?_ _)); exact BK206.out⟩, ⟨by repeat (first | (with_reducible first | exact HB.out | apply below_alloc | apply pw_below_drewN | apply below_drew1 | refine below_set ?_ GE188.out | refine below_set ?_ GE206.out) | exact HB.out)⟩⟩
       case round =>
        clear H'
        try clear c1
        try clear q1
        try clear hcv1
        try clear c2
        try clear p2
        try clear q2
        try clear c4
        try clear c4b0
        try clear c4b1
        try clear c5
        try clear c5b0
        try clear c5b1
        try clear c6
        try clear c6b0
        try clear c6b1
        try clear p6
        try clear c7
        try clear c7b0
        try clear c7b1
        try clear c8
        try clear c8b0
        try clear c8b1
        try clear q10
        try clear hcv11
        try clear c12
        try clear q12
        try clear q13
        try clear hcv14
        try clear c15
        try clear c16
        try clear c17
        try clear c17b0
        try clear c17b1
        try clear c18
        try clear c18b0
        try clear c18b1
        try clear c20
        try clear c20b0
        try clear c20b1
        try clear c21
        try clear q21
        try clear c23
        try clear c25
        try clear c26
        try clear q26
        try clear hcz16_0
        try clear hcz16_1
        try clear hcz24_0
        try clear hcz24_1
        try clear hfz16_0
        try clear hfz16_1
        try clear hfz24_0
        try clear hfz24_1
        try clear p2
        try clear p6
        try clear q1
        try clear q10
        try clear q12
        try clear q13
        try clear q21
        try clear q26
        obtain ⟨x5_2, x207001_2, u207001, HA, HK2, HO_5, HO_207001, BK188, BK206, HB⟩ := hrel
        cases gk with
        | zero => exact absurd HA.out (by simp [code_Decode.l0])
        | succ k2 =>
         have H := HA.out
         clear HA
         simp only [code_Decode.l0] at H
         by_cases c27 : (x5_2.length : Int) > 0
         ·rw [if_pos c27] at H
          have c27b0 : decide (0 < (x5_2.length : Int)) = true := decide_eq_true c27
          have c27b1 : decide (0 < x5_2.length) = true := decide_eq_true (by omega)
          clear c27
          by_cases c28 : 0 < (x5_2.length : Int)
          ·rw [if_pos c28] at H
           have c28b0 : decide (0 < (x5_2.length : Int)) = true := decide_eq_true c28
           have c28b1 : decide (0 < x5_2.length) = true := decide_eq_true (by omega)
           clear c28
           by_cases c29 : 1 < (x5_2.length : Int)
           ·rw [if_pos c29] at H
            have c29b0 : decide (1 < (x5_2.length : Int)) = true := decide_eq_true c29
            have c29b1 : decide (1 < x5_2.length) = true := decide_eq_true (by omega)
            clear c29
            by_cases c30 : 2 ≤ 4
            ·rw [if_pos c30] at H
             have c30b0 := eq_true c30
             have c30b1 : decide (2 ≤ 4) = true := decide_eq_true c30
             clear c30
             by_cases c31 : 4 ≤ (x5_2.length : Int)
             ·rw [if_pos c31] at H
              have c31b0 := eq_true c31
              have c31b1 : decide (4 ≤ (x5_2.length : Int)) = true := decide_eq_true c31
              clear c31
              obtain ⟨y215, hy215⟩ : ∃ y_ : List Int, y_ = ((x5_2.take 4).drop 2) := ⟨_, rfl⟩
              replace H : ((code_taken.f k2 y215).bind fun t220 => (if 4 ≤ 8 then (if 8 ≤ (x5_2.length : Int) then ((code_taken.f k2 ((x5_2.take 8).drop 4)).bind fun t226 => (if x207001_2.length < 3518437208883 then (code_Decode.l0 k2 (x5_2.drop 8) (wrap64 (t205)) (x207001_2 ++ [(⟨wrap64 (rd x5_2 0), wrap64 (IntKind.u8.wrap (Int.tdiv (rd x5_2 1) 16)), wrap64 (Int.tmod (rd x5_2 1) 16), wrap64 (IntKind.i16.wrap (t220)), t226⟩ : S26)])) else (none))) else (none)) else (none))) = some (r1, r2, r3) := by first | (rw [hy215]; with_reducible exact H) | (have H2_ := (Option.bind_some _ _).symm.trans H; rw [hy215]; with_reducible exact H2_) | (have H2_ := (Option.bind_some _ _).symm.trans H; with_reducible exact H2_) | with_reducible exact H | (rw [hy215]; exact H) | exact H
              have Ny215 := Aside0.mk hy215
              clear hy215
              replace H := Option.bind_eq_some_iff.mp H
              obtain ⟨t220, A320, H⟩ := H
              replace H : (if 4 ≤ 8 then (if 8 ≤ (x5_2.length : Int) then ((code_taken.f k2 ((x5_2.take 8).drop 4)).bind fun t226 => (if x207001_2.length < 3518437208883 then (code_Decode.l0 k2 (x5_2.drop 8) (wrap64 (t205)) (x207001_2 ++ [(⟨wrap64 (rd x5_2 0), wrap64 (IntKind.u8.wrap (Int.tdiv (rd x5_2 1) 16)), wrap64 (Int.tmod (rd x5_2 1) 16), wrap64 (IntKind.i16.wrap (t220)), t226⟩ : S26)])) else (none))) else (none)) else (none)) = some (r1, r2, r3) := H
              have A32 := Aside0.mk A320
              clear A320
              by_cases c33 : 4 ≤ 8
              ·rw [if_pos c33] at H
               have c33b0 := eq_true c33
               have c33b1 : decide (4 ≤ 8) = true := decide_eq_true c33
               clear c33
               by_cases c34 : 8 ≤ (x5_2.length : Int)
               ·rw [if_pos c34] at H
                have c34b0 := eq_true c34
                have c34b1 : decide (8 ≤ (x5_2.length : Int)) = true := decide_eq_true c34
                clear c34
                obtain ⟨y221, hy221⟩ : ∃ y_ : List Int, y_ = ((x5_2.take 8).drop 4) := ⟨_, rfl⟩
                replace H : ((code_taken.f k2 y221).bind fun t226 => (if x207001_2.length < 3518437208883 then (code_Decode.l0 k2 (x5_2.drop 8) (wrap64 (t205)) (x207001_2 ++ [(⟨wrap64 (rd x5_2 0), wrap64 (IntKind.u8.wrap (Int.tdiv (rd x5_2 1) 16)), wrap64 (Int.tmod (rd x5_2 1) 16), wrap64 (IntKind.i16.wrap (t220)), t226⟩ : S26)])) else (none))) = some (r1, r2, r3) := by first | (rw [hy221]; with_reducible exact H) | (have H2_ := (Option.bind_some _ _).symm.trans H; rw [hy221]; with_reducible exact H2_) | (have H2_ := (Option.bind_some _ _).symm.trans H; with_reducible exact H2_) | with_reducible exact H | (rw [hy221]; exact H) | exact H
                have Ny221 := Aside0.mk hy221
                clear hy221
                replace H := Option.bind_eq_some_iff.mp H
                obtain ⟨t226, A350, H⟩ := H
                replace H : (if x207001_2.length < 3518437208883 then (code_Decode.l0 k2 (x5_2.drop 8) (wrap64 (t205)) (x207001_2 ++ [(⟨wrap64 (rd x5_2 0), wrap64 (IntKind.u8.wrap (Int.tdiv (rd x5_2 1) 16)), wrap64 (Int.tmod (rd x5_2 1) 16), wrap64 (IntKind.i16.wrap (t220)), t226⟩ : S26)])) else (none)) = some (r1, r2, r3) := H
                have A35 := Aside0.mk A350
                clear A350
                by_cases c36 : x207001_2.length < 3518437208883
                ·rw [if_pos c36] at H
                 have LMc36 := Aside0.mk c36
                 clear c36
                 obtain ⟨y227, hy227⟩ : ∃ y_ : List (S26), y_ = (x207001_2 ++ [(⟨wrap64 (rd x5_2 0), wrap64 (IntKind.u8.wrap (Int.tdiv (rd x5_2 1) 16)), wrap64 (Int.tmod (rd x5_2 1) 16), wrap64 (IntKind.i16.wrap (t220)), t226⟩ : S26)]) := ⟨_, rfl⟩
                 replace H : (code_Decode.l0 k2 (x5_2.drop 8) (wrap64 (t205)) y227) = some (r1, r2, r3) := by first | (rw [hy227]; with_reducible exact H) | (have H2_ := (Option.bind_some _ _).symm.trans H; rw [hy227]; with_reducible exact H2_) | (have H2_ := (Option.bind_some _ _).symm.trans H; with_reducible exact H2_) | with_reducible exact H | (rw [hy227]; exact H) | exact H
                 have Ny227 := Aside0.mk hy227
                 clear hy227
                 have c37b0 := eq_true (of_decide_eq_true (by first | (with_reducible assumption) | assumption) : 8 ≤ (x5_2.length : Int))
                 obtain ⟨y230, hy230⟩ : ∃ y_ : List Int, y_ = (x5_2.drop 8) := ⟨_, rfl⟩
                 replace H : (code_Decode.l0 k2 y230 (wrap64 (t205)) y227) = some (r1, r2, r3) := by first | (rw [hy230]; with_reducible exact H) | (have H2_ := (Option.bind_some _ _).symm.trans H; rw [hy230]; with_reducible exact H2_) | (have H2_ := (Option.bind_some _ _).symm.trans H; with_reducible exact H2_) | with_reducible exact H | (rw [hy230]; exact H) | exact H
                 have Ny230 := Aside0.mk hy230
                 clear hy230
                 have H' := Aside0.mk H
                 clear H
                 obtain ⟨Ao38, co38, eo38⟩ := Kd.V_slice HO_5.out
                 subst eo38
                 try go_wp2
                 have n0_ := Aside0.mk (Kd.V_drew HO_5.out)
                 have n1_ := Aside0.mk (Kd.R_drew HO_207001.out)
                 have n2_ := Aside0.mk (blk_drew BK188.out)
                 have n3_ := Aside0.mk (blk_drew BK206.out)
                 have n4_ := Aside0.mk (below_drew1 HB.out)
                 clear HO_5
                 clear HO_207001
                 clear BK188
                 clear BK206
                 clear HB
                 have HO_5 := n0_
                 have HO_207001 := n1_
                 have BK188 := n2_
                 have BK206 := n3_
                 have HB := n4_
                 clear n0_ n1_ n2_ n3_ n4_
                 have p212 : 0 ≤ (0 : Int) := (by omega)
                 have q212 : 0 < (x5_2.length : Int) := of_decide_eq_true (by first | (with_reducible assumption) | assumption)
                 obtain ⟨ad212, e212, hx212_0⟩ := Kd.at_int (Kd.V_reads' HO_5.out).2.2 0 p212 q212
                 cases e212
                 have qi212 : (0 < x5_2.length) = True := eq_true (by omega)
                 (try rw [show ((0 : Int)).toNat = 0 from rfl] at hx212_0)
                 (try rw [Addr.add_zero'] at hx212_0)
                 replace p212 := eq_true p212
                 replace q212 := eq_true q212
                 have p213 : 0 ≤ (1 : Int) := (by omega)
                 have q213 : 1 < (x5_2.length : Int) := of_decide_eq_true (by first | (with_reducible assumption) | assumption)
                 obtain ⟨ad213, e213, hx213_0⟩ := Kd.at_int (Kd.V_reads' HO_5.out).2.2 1 p213 q213
                 obtain rfl : ad212 = ad213 := (by injection e213)
                 (try simp only [show (1 : Int).toNat = 1 from rfl, Nat.reduceMul, Nat.reduceEqDiff, Go.Addr.add, ↓reduceIte] at hx213_0)
                 have qi213 : (1 < x5_2.length) = True := eq_true (by omega)
                 (try rw [show ((1 : Int)).toNat = 1 from rfl] at hx213_0)
                 replace p213 := eq_true p213
                 replace q213 := eq_true q213
                 have p214 : 0 ≤ (1 : Int) := (by omega)
                 have q214 : 1 < (x5_2.length : Int) := of_decide_eq_true (by first | (with_reducible assumption) | assumption)
                 obtain ⟨ad214, e214, hx214_0⟩ := Kd.at_int (Kd.V_reads' HO_5.out).2.2 1 p214 q214
                 obtain rfl : ad212 = ad214 := (by injection e214)
                 (try simp only [show (1 : Int).toNat = 1 from rfl, Nat.reduceMul, Nat.reduceEqDiff, Go.Addr.add, ↓reduceIte] at hx214_0)
                 have qi214 : (1 < x5_2.length) = True := eq_true (by omega)
                 (try rw [show ((1 : Int)).toNat = 1 from rfl] at hx214_0)
                 replace p214 := eq_true p214
                 replace q214 := eq_true q214
                 have q40 : (4 : Int) ≤ ((x5_2.length : Int) : Int) := of_decide_eq_true (by first | (with_reducible assumption) | assumption)
                 obtain ⟨i040, hi040, _, hsz40, _⟩ := info_parts info5
                 have hroom40 : x5_2.length ≤ co38 := (Kd.V_reads' HO_5.out).2.1
                 have hC40 : Kd.F (Kd.int .u8) _ _ (some ad212) x5_2.length x5_2 := (Kd.V_at (base := w.heap.size) HO_5.out).2.2
                 have ql40 : (2 : Int) ≤ (4 : Int) := (by omega)
                 have hcut40 := cut_mid (P := Try.prog) 40 5 .i64 .i64 Try.underlying40 hi040 1 hsz40 (some ad212) x5_2.length co38 2 4 (by omega) ql40 q40 hroom40
                 have hr40 := Kd.F_mid (lo := (2 : Int).toNat) (hi := (4 : Int).toNat) (c := co38) hC40 (by omega) (by omega) hroom40
                 obtain ⟨A40, hA40⟩ : ∃ A1, A1 = (if co38 = (2 : Int).toNat then (some ad212) else ((some ad212) : Option Addr).map (·.add ((2 : Int).toNat * 1))) := ⟨_, rfl⟩
                 obtain ⟨c40, hc40⟩ : ∃ c1, c1 = co38 - (2 : Int).toNat := ⟨_, rfl⟩
                 have hy40 : y215.length = (4 : Int).toNat - (2 : Int).toNat := (by rw [Ny215.out, List.length_drop, List.length_take] <;> omega)
                 rw [show ((x5_2).take (4 : Int).toNat).drop (2 : Int).toNat = y215 from Ny215.out.symm] at hr40
                 replace hr40 : Kd.F (Kd.int .u8) _ _ A40 y215.length y215 := (by rw [hA40]; exact hr40)
                 rw [← hy40, ← hA40, ← hc40] at hcut40
                 have HO219 := Aside0.mk (show Kd.V (Kd.int .u8) 5 _ w.heap.size _ (.slice A40 y215.length c40) y215 from Kd.V_mk (by rw [hy40, hc40]; exact Nat.sub_le_sub_right (Nat.le_trans (by omega) hroom40) _) hr40)
                 have HC219 := Aside0.mk (show y215.length ≤ c40 from by rw [hy40, hc40]; exact Nat.sub_le_sub_right (Nat.le_trans (by omega) hroom40) _)
                 clear hr40 hC40 hroom40 hi040 hsz40 hc40
                 have KY40 := Aside0.mk hy40
                 have KA40 := Aside0.mk hA40
                 clear hy40 hA40
                 replace q40 := eq_true q40
                 have q41 : (8 : Int) ≤ ((x5_2.length : Int) : Int) := of_decide_eq_true (by first | (with_reducible assumption) | assumption)
                 obtain ⟨i041, hi041, _, hsz41, _⟩ := info_parts info5
                 have hroom41 : x5_2.length ≤ co38 := (Kd.V_reads' HO_5.out).2.1
                 have hC41 : Kd.F (Kd.int .u8) _ _ (some ad212) x5_2.length x5_2 := (Kd.V_at (base := w.heap.size) HO_5.out).2.2
                 have ql41 : (4 : Int) ≤ (8 : Int) := (by omega)
                 have hcut41 := cut_mid (P := Try.prog) 40 5 .i64 .i64 Try.underlying40 hi041 1 hsz41 (some ad212) x5_2.length co38 4 8 (by omega) ql41 q41 hroom41
                 have hr41 := Kd.F_mid (lo := (4 : Int).toNat) (hi := (8 : Int).toNat) (c := co38) hC41 (by omega) (by omega) hroom41
                 obtain ⟨A41, hA41⟩ : ∃ A1, A1 = (if co38 = (4 : Int).toNat then (some ad212) else ((some ad212) : Option Addr).map (·.add ((4 : Int).toNat * 1))) := ⟨_, rfl⟩
                 obtain ⟨c41, hc41⟩ : ∃ c1, c1 = co38 - (4 : Int).toNat := ⟨_, rfl⟩
                 have hy41 : y221.length = (8 : Int).toNat - (4 : Int).toNat := (by rw [Ny221.out, List.length_drop, List.length_take] <;> omega)
                 rw [show ((x5_2).take (8 : Int).toNat).drop (4 : Int).toNat = y221 from Ny221.out.symm] at hr41
                 replace hr41 : Kd.F (Kd.int .u8) _ _ A41 y221.length y221 := (by rw [hA41]; exact hr41)
                 rw [← hy41, ← hA41, ← hc41] at hcut41
                 have HO225 := Aside0.mk (show Kd.V (Kd.int .u8) 5 _ w.heap.size _ (.slice A41 y221.length c41) y221 from Kd.V_mk (by rw [hy41, hc41]; exact Nat.sub_le_sub_right (Nat.le_trans (by omega) hroom41) _) hr41)
                 have HC225 := Aside0.mk (show y221.length ≤ c41 from by rw [hy41, hc41]; exact Nat.sub_le_sub_right (Nat.le_trans (by omega) hroom41) _)
                 clear hr41 hC41 hroom41 hi041 hsz41 hc41
                 have KY41 := Aside0.mk hy41
                 have KA41 := Aside0.mk hA41
                 clear hy41 hA41
                 replace q41 := eq_true q41
                 refine start_ (n := 29) (S := fun w' => w'.cell? ⟨gb206, 0, none⟩ = some (.int .i64 (wrap64 (t205))) ∧ w'.cell? ⟨gb206, 1, none⟩ = some (u207001) ∧ w'.cell? ad212 = some (.int .u8 (rd x5_2 0)) ∧ w'.cell? ⟨ad212.block, ad212.off + 1, none⟩ = some (.int .u8 (rd x5_2 1)) ∧ w'.cell? ⟨ad212.block, ad212.off + 1, none⟩ = some (.int .u8 (rd x5_2 1))) (ds := [26, 28]) #[false, false, false, false, false, false, false, false, false, false, false, false, false, false, false, false, false, false, false, false, false, false, false, false, false, false, false, false, false] (by kernel_rfl) rfl rfl ⟨(blk_cell BK206.out 0).trans rfl, (blk_cell BK206.out 1).trans rfl, hx212_0, hx213_0, hx214_0⟩ (fun hHeld => ?_); refine with_tabW code_Decode.tab7 code_Decode.bits7 (fun HT_ HW_ => ?_)
                 generalize wr.drew = w39 at HO_5 HO_207001 BK188 BK206 HB HO219 HO225 hx212_0 hx213_0 hx214_0 hHeld ⊢
                 refine pure_ (i := 0) (N := some 40) (v := ?_) (a' := ?_) #[true, false, false, false, false, false, false, false, false, false, false, false, false, false, false, false, false, false, false, false, false, false, false, false, false, false, false, false, false] rfl rfl (any_of HT_.out (by kernel_rfl)) (fun _ _ _ h => h) (Or.inl ⟨by rfl, ?_⟩) ?_ ?_
                 rotate_left
                 ·intro w'
                  go_simp
                  with_reducible rfl
                 rotate_left
                 ·simp only [Act.put, List.setIfInBounds_toArray, List.set_cons_zero, List.set_cons_succ, i64_w, i32_w]
                  rfl
                 refine pure_ (i := 2) (N := some 42) (v := ?_) (a' := ?_) #[true, false, true, false, false, false, false, false, false, false, false, false, false, false, false, false, false, false, false, false, false, false, false, false, false, false, false, false, false] rfl rfl (any_of HT_.out (by kernel_rfl)) (fun _ _ _ h => h) (Or.inl ⟨by rfl, ?_⟩) ?_ ?_
                 rotate_left
                 ·intro w'
                  go_simp
                  with_reducible rfl
                 rotate_left
                 ·simp only [Act.put, List.setIfInBounds_toArray, List.set_cons_zero, List.set_cons_succ, i64_w, i32_w]
                  rfl
                 refine pure_ (i := 3) (N := some 43) (v := ?_) (a' := ?_) #[true, false, true, true, false, false, false, false, false, false, false, false, false, false, false, false, false, false, false, false, false, false, false, false, false, false, false, false, false] rfl rfl (any_of HT_.out (by kernel_rfl)) (fun _ _ _ h => h) (Or.inl ⟨by rfl, ?_⟩) ?_ ?_
                 rotate_left
                 ·intro w'
                  go_simp
                  with_reducible rfl
                 rotate_left
                 ·simp only [Act.put, List.setIfInBounds_toArray, List.set_cons_zero, List.set_cons_succ, i64_w, i32_w]
                  rfl
                 refine pure_ (i := 6) (N := some 46) (v := ?_) (a' := ?_) #[true, false, true, true, false, false, true, false, false, false, false, false, false, false, false, false, false, false, false, false, false, false, false, false, false, false, false, false, false] rfl rfl (any_of HT_.out (by kernel_rfl)) (fun _ _ _ h => h) (Or.inl ⟨by rfl, ?_⟩) ?_ ?_
                 rotate_left
                 ·intro w'
                  go_simp
                  with_reducible rfl
                 rotate_left
                 ·simp only [Act.put, List.setIfInBounds_toArray, List.set_cons_zero, List.set_cons_succ, i64_w, i32_w]
                  rfl
                 refine pure_ (i := 7) (N := some 47) (v := ?_) (a' := ?_) #[true, false, true, true, false, false, true, true, false, false, false, false, false, false, false, false, false, false, false, false, false, false, false, false, false, false, false, false, false] rfl rfl (any_of HT_.out (by kernel_rfl)) (fun _ _ _ h => h) (Or.inl ⟨by rfl, ?_⟩) ?_ ?_
                 rotate_left
                 ·intro w'
                  go_simp
                  with_reducible rfl
                 rotate_left
                 ·simp only [Act.put, List.setIfInBounds_toArray, List.set_cons_zero, List.set_cons_succ, i64_w, i32_w]
                  rfl
                 refine pure_ (i := 11) (N := some 51) (v := ?_) (a' := ?_) #[true, false, true, true, false, false, true, true, false, false, false, true, false, false, false, false, false, false, false, false, false, false, false, false, false, false, false, false, false] rfl rfl (any_of HT_.out (by kernel_rfl)) (fun _ _ _ h => h) (Or.inl ⟨by rfl, ?_⟩) ?_ ?_
                 rotate_left
                 ·intro w'
                  go_simp
                  with_reducible rfl
                 rotate_left
                 ·simp only [Act.put, List.setIfInBounds_toArray, List.set_cons_zero, List.set_cons_succ, i64_w, i32_w]
                  rfl
                 refine pure_ (i := 12) (N := some 52) (v := ?_) (a' := ?_) #[true, false, true, true, false, false, true, true, false, false, false, true, true, false, false, false, false, false, false, false, false, false, false, false, false, false, false, false, false] rfl rfl (any_of HT_.out (by kernel_rfl)) (fun _ _ _ h => h) (Or.inl ⟨by rfl, ?_⟩) ?_ ?_
                 rotate_left
                 ·intro w'
                  go_simp
                  with_reducible rfl
                 rotate_left
                 ·simp only [Act.put, List.setIfInBounds_toArray, List.set_cons_zero, List.set_cons_succ, i64_w, i32_w]
                  rfl
                 refine pure_ (i := 16) (N := some 56) (v := ?_) (a' := ?_) #[true, false, true, true, false, false, true, true, false, false, false, true, true, false, false, false, true, false, false, false, false, false, false, false, false, false, false, false, false] rfl rfl (any_of HT_.out (by kernel_rfl)) (fun _ _ _ h => h) (Or.inl ⟨by rfl, ?_⟩) ?_ ?_
                 rotate_left
                 ·intro w'
                  go_simp
                  with_reducible rfl
                 rotate_left
                 ·simp only [Act.put, List.setIfInBounds_toArray, List.set_cons_zero, List.set_cons_succ, i64_w, i32_w]
                  rfl
                 refine pure_ (i := 17) (N := some 57) (v := ?_) (a' := ?_) #[true, false, true, true, false, false, true, true, false, false, false, true, true, false, false, false, true, true, false, false, false, false, false, false, false, false, false, false, false] rfl rfl (any_of HT_.out (by kernel_rfl)) (fun _ _ _ h => h) (Or.inl ⟨by rfl, ?_⟩) ?_ ?_
                 rotate_left
                 ·intro w'
                  go_simp
                  with_reducible rfl
                 rotate_left
                 ·simp only [Act.put, List.setIfInBounds_toArray, List.set_cons_zero, List.set_cons_succ, i64_w, i32_w]
                  rfl
                 refine pure_ (i := 21) (N := some 61) (v := ?_) (a' := ?_) #[true, false, true, true, false, false, true, true, false, false, false, true, true, false, false, false, true, true, false, false, false, true, false, false, false, false, false, false, false] rfl rfl (any_of HT_.out (by kernel_rfl)) (fun _ _ _ h => h) (Or.inl ⟨by rfl, ?_⟩) ?_ ?_
                 rotate_left
                 ·intro w'
                  go_simp
                  with_reducible rfl
                 rotate_left
                 ·simp only [Act.put, List.setIfInBounds_toArray, List.set_cons_zero, List.set_cons_succ, i64_w, i32_w]
                  rfl
                 refine pure_ (i := 22) (N := some 62) (v := ?_) (a' := ?_) #[true, false, true, true, false, false, true, true, false, false, false, true, true, false, false, false, true, true, false, false, false, true, true, false, false, false, false, false, false] rfl rfl (any_of HT_.out (by kernel_rfl)) (fun _ _ _ h => h) (Or.inl ⟨by rfl, ?_⟩) ?_ ?_
                 rotate_left
                 ·intro w'
                  go_simp
                  with_reducible rfl
                 rotate_left
                 ·simp only [Act.put, List.setIfInBounds_toArray, List.set_cons_zero, List.set_cons_succ, i64_w, i32_w]
                  rfl
                 refine take_ (i := 1) (N := some 41) (v := ?_) (a' := ?_) #[true, true, true, true, false, false, true, true, false, false, false, true, true, false, false, false, true, true, false, false, false, true, true, false, false, false, false, false, false] rfl rfl (take_ofW HT_.out HW_.out (by kernel_rfl)) (fun _ _ _ h => h) (Or.inl ⟨by rfl, ?_⟩) hHeld ?_ ?_
                 rotate_left
                 ·rintro w' ⟨s0, s1, s2, s3, s4⟩
                  go_simp
                  with_reducible rfl
                 rotate_left
                 ·simp only [Act.put, List.setIfInBounds_toArray, List.set_cons_zero, List.set_cons_succ, i64_w, i32_w]
                  rfl
                 refine take_ (i := 4) (N := some 44) (v := ?_) (a' := ?_) #[true, true, true, true, true, false, true, true, false, false, false, true, true, false, false, false, true, true, false, false, false, true, true, false, false, false, false, false, false] rfl rfl (take_ofW HT_.out HW_.out (by kernel_rfl)) (fun _ _ _ h => h) (Or.inl ⟨by rfl, ?_⟩) hHeld ?_ ?_
                 rotate_left
                 ·rintro w' ⟨s0, s1, s2, s3, s4⟩
                  go_simp
                  with_reducible rfl
                 rotate_left
                 ·simp only [Act.put, List.setIfInBounds_toArray, List.set_cons_zero, List.set_cons_succ, i64_w, i32_w]
                  rfl
                 refine pure_ (i := 5) (N := some 45) (v := ?_) (a' := ?_) #[true, true, true, true, true, true, true, true, false, false, false, true, true, false, false, false, true, true, false, false, false, true, true, false, false, false, false, false, false] rfl rfl (any_of HT_.out (by kernel_rfl)) (fun _ _ _ h => h) (Or.inl ⟨by rfl, ?_⟩) ?_ ?_
                 rotate_left
                 ·intro w'
                  go_simp
                  with_reducible rfl
                 rotate_left
                 ·simp only [Act.put, List.setIfInBounds_toArray, List.set_cons_zero, List.set_cons_succ, i64_w, i32_w]
                  rfl
                 refine take_ (i := 8) (N := some 48) (v := ?_) (a' := ?_) #[true, true, true, true, true, true, true, true, true, false, false, true, true, false, false, false, true, true, false, false, false, true, true, false, false, false, false, false, false] rfl rfl (take_ofW HT_.out HW_.out (by kernel_rfl)) (fun _ _ _ h => h) (Or.inl ⟨by rfl, ?_⟩) hHeld ?_ ?_
                 rotate_left
                 ·rintro w' ⟨s0, s1, s2, s3, s4⟩
                  go_simp
                  with_reducible rfl
                 rotate_left
                 ·simp only [Act.put, List.setIfInBounds_toArray, List.set_cons_zero, List.set_cons_succ, i64_w, i32_w]
                  rfl
                 refine pure_ (i := 9) (N := some 49) (v := ?_) (a' := ?_) #[true, true, true, true, true, true, true, true, true, true, false, true, true, false, false, false, true, true, false, false, false, true, true, false, false, false, false, false, false] rfl rfl (any_of HT_.out (by kernel_rfl)) (fun _ _ _ h => h) (Or.inl ⟨by rfl, ?_⟩) ?_ ?_
                 rotate_left
                 ·intro w'
                  go_simp
                  with_reducible rfl
                 rotate_left
                 ·simp only [Act.put, List.setIfInBounds_toArray, List.set_cons_zero, List.set_cons_succ, i64_w, i32_w]
                  rfl
                 refine pure_ (i := 10) (N := some 50) (v := ?_) (a' := ?_) #[true, true, true, true, true, true, true, true, true, true, true, true, true, false, false, false, true, true, false, false, false, true, true, false, false, false, false, false, false] rfl rfl (any_of HT_.out (by kernel_rfl)) (fun _ _ _ h => h) (Or.inl ⟨by rfl, ?_⟩) ?_ ?_
                 rotate_left
                 ·intro w'
                  go_simp
                  with_reducible rfl
                 rotate_left
                 ·simp only [Act.put, List.setIfInBounds_toArray, List.set_cons_zero, List.set_cons_succ, i64_w, i32_w]
                  rfl
                 refine take_ (i := 13) (N := some 53) (v := ?_) (a' := ?_) #[true, true, true, true, true, true, true, true, true, true, true, true, true, true, false, false, true, true, false, false, false, true, true, false, false, false, false, false, false] rfl rfl (take_ofW HT_.out HW_.out (by kernel_rfl)) (fun _ _ _ h => h) (Or.inl ⟨by rfl, ?_⟩) hHeld ?_ ?_
                 rotate_left
                 ·rintro w' ⟨s0, s1, s2, s3, s4⟩
                  go_simp
                  with_reducible rfl
                 rotate_left
                 ·simp only [Act.put, List.setIfInBounds_toArray, List.set_cons_zero, List.set_cons_succ, i64_w, i32_w]
                  rfl
                 refine pure_ (i := 14) (N := some 54) (v := ?_) (a' := ?_) #[true, true, true, true, true, true, true, true, true, true, true, true, true, true, true, false, true, true, false, false, false, true, true, false, false, false, false, false, false] rfl rfl (any_of HT_.out (by kernel_rfl)) (fun _ _ _ h => h) (Or.inl ⟨by rfl, ?_⟩) ?_ ?_
                 rotate_left
                 ·intro w'
                  go_simp
                  with_reducible rfl
                 rotate_left
                 ·simp only [Act.put, List.setIfInBounds_toArray, List.set_cons_zero, List.set_cons_succ, i64_w, i32_w]
                  rfl
                 refine pure_ (i := 15) (N := some 55) (v := ?_) (a' := ?_) #[true, true, true, true, true, true, true, true, true, true, true, true, true, true, true, true, true, true, false, false, false, true, true, false, false, false, false, false, false] rfl rfl (any_of HT_.out (by kernel_rfl)) (fun _ _ _ h => h) (Or.inl ⟨by rfl, ?_⟩) ?_ ?_
                 rotate_left
                 ·intro w'
                  go_simp
                  with_reducible rfl
                 rotate_left
                 ·simp only [Act.put, List.setIfInBounds_toArray, List.set_cons_zero, List.set_cons_succ, i64_w, i32_w]
                  rfl
                 refine one_ (i := 18) (N := some 58) #[true, true, true, true, true, true, true, true, true, true, true, true, true, true, true, true, true, true, true, false, false, true, true, false, false, false, false, false, false] rfl rfl (one_of HT_.out (by kernel_rfl)) (by decide) (fun K hK => ?_)
                 refine goes_ Try.func25 (by kernel_rfl) rfl #[.slice A40 y215.length c40] (by rfl) rfl rfl (by (try simp only [List.map_toArray, List.map_cons, List.map_nil]); first | done | rfl | (simp only [List.length_drop, List.length_take]; rfl)) ?_
                 with_reducible refine (code_taken.calls k2 _ _ y215 t220 _ ?side1 ?side2 A32.out).mono ?_
                 (case side1 => repeat (first | exact (Kd.V_reads' HO219.out).2.2 | (with_reducible refine Kd.C_alloc ?_ _) | (with_reducible refine Kd.C_drewN ?_ _) | (with_reducible refine Kd.C_drew ?_)))
                 (case side2 => exact (Kd.V_reads' HO219.out).2.1)
                 rintro e w' ⟨rfl, ⟨nd, rfl⟩⟩
                 refine ⟨_, rfl, ?_⟩
                 refine hK.out _ _ ⟨(blk_cell BK206.out 0).trans rfl, (blk_cell BK206.out 1).trans rfl, hHeld.2.2.1, hHeld.2.2.2.1, hHeld.2.2.2.2⟩ (fun hHeld => ?_)
                 clear hK K
                 refine norm_ (a' := ?_) ?_ ?_
                 rotate_left
                 ·show Act.put _ (some 58) _ = _
                  simp only [Act.put, List.setIfInBounds_toArray, List.set_cons_zero, List.set_cons_succ, i64_w, i32_w]
                  rfl
                 refine pure_ (i := 19) (N := some 59) (v := ?_) (a' := ?_) #[true, true, true, true, true, true, true, true, true, true, true, true, true, true, true, true, true, true, true, true, false, true, true, false, false, false, false, false, false] rfl rfl (any_of HT_.out (by kernel_rfl)) (fun _ _ _ h => h) (Or.inl ⟨by rfl, ?_⟩) ?_ ?_
                 rotate_left
                 ·intro w'
                  go_simp
                  with_reducible rfl
                 rotate_left
                 ·simp only [Act.put, List.setIfInBounds_toArray, List.set_cons_zero, List.set_cons_succ, i64_w, i32_w]
                  rfl
                 refine pure_ (i := 20) (N := some 60) (v := ?_) (a' := ?_) #[true, true, true, true, true, true, true, true, true, true, true, true, true, true, true, true, true, true, true, true, true, true, true, false, false, false, false, false, false] rfl rfl (any_of HT_.out (by kernel_rfl)) (fun _ _ _ h => h) (Or.inl ⟨by rfl, ?_⟩) ?_ ?_
                 rotate_left
                 ·intro w'
                  go_simp
                  with_reducible rfl
                 rotate_left
                 ·simp only [Act.put, List.setIfInBounds_toArray, List.set_cons_zero, List.set_cons_succ, i64_w, i32_w]
                  rfl
                 refine one_ (i := 23) (N := some 63) #[true, true, true, true, true, true, true, true, true, true, true, true, true, true, true, true, true, true, true, true, true, true, true, true, false, false, false, false, false] rfl rfl (one_of HT_.out (by kernel_rfl)) (by decide) (fun K hK => ?_)
                 refine goes_ Try.func25 (by kernel_rfl) rfl #[.slice A41 y221.length c41] (by rfl) rfl rfl (by (try simp only [List.map_toArray, List.map_cons, List.map_nil]); first | done | rfl | (simp only [List.length_drop, List.length_take]; rfl)) ?_
                 with_reducible refine (code_taken.calls k2 _ _ y221 t226 _ ?side1 ?side2 A35.out).mono ?_
                 (case side1 => repeat (first | exact (Kd.V_reads' HO225.out).2.2 | (with_reducible refine Kd.C_alloc ?_ _) | (with_reducible refine Kd.C_drewN ?_ _) | (with_reducible refine Kd.C_drew ?_)))
                 (case side2 => exact (Kd.V_reads' HO225.out).2.1)
                 rintro e w' ⟨rfl, ⟨nd, rfl⟩⟩
                 refine ⟨_, rfl, ?_⟩
                 refine hK.out _ _ ⟨(blk_cell BK206.out 0).trans rfl, (blk_cell BK206.out 1).trans rfl, hHeld.2.2.1, hHeld.2.2.2.1, hHeld.2.2.2.2⟩ (fun hHeld => ?_)
                 clear hK K
                 refine norm_ (a' := ?_) ?_ ?_
                 rotate_left
                 ·show Act.put _ (some 63) _ = _
                  simp only [Act.put, List.setIfInBounds_toArray, List.set_cons_zero, List.set_cons_succ, i64_w, i32_w]
                  rfl
                 refine pure_ (i := 24) (N := some 64) (v := ?_) (a' := ?_) #[true, true, true, true, true, true, true, true, true, true, true, true, true, true, true, true, true, true, true, true, true, true, true, true, true, false, false, false, false] rfl rfl (any_of HT_.out (by kernel_rfl)) (fun _ _ _ h => h) (Or.inl ⟨by rfl, ?_⟩) ?_ ?_
                 rotate_left
                 ·intro w'
                  go_simp
                  with_reducible rfl
                 rotate_left
                 ·simp only [Act.put, List.setIfInBounds_toArray, List.set_cons_zero, List.set_cons_succ, i64_w, i32_w]
                  rfl
                 refine one_ (i := 25) (N := some 65) #[true, true, true, true, true, true, true, true, true, true, true, true, true, true, true, true, true, true, true, true, true, true, true, true, true, true, false, false, false] rfl rfl (one_of HT_.out (by kernel_rfl)) (by decide) (fun K hK => ?_)
                 refine value_ (w1 := ?_) (v := ?_) (by rfl) rfl ?_ ?_
                 rotate_left 2
                 ·go_simp
                  constructor
                  ·rfl
                  ·rfl
                 refine hK.out _ _ ⟨(blk_cell (blk_alloc BK206.out _) 0).trans rfl, (blk_cell (blk_alloc BK206.out _) 1).trans rfl, (World.cell?_alloc_lt _ _ _ (World.block_lt_of_cell? _ _ (hHeld.2.2.1))).trans (hHeld.2.2.1), (World.cell?_alloc_lt _ _ _ (World.block_lt_of_cell? _ _ (hHeld.2.2.2.1))).trans (hHeld.2.2.2.1), (World.cell?_alloc_lt _ _ _ (World.block_lt_of_cell? _ _ (hHeld.2.2.2.2))).trans (hHeld.2.2.2.2)⟩ (fun hHeld => ?_)
                 clear hK K
                 refine norm_ (a' := ?_) ?_ ?_
                 rotate_left
                 ·show Act.put _ (some 65) _ = _
                  simp only [Act.put, List.setIfInBounds_toArray, List.set_cons_zero, List.set_cons_succ, i64_w, i32_w]
                  rfl
                 refine last_ (i := 26) (N := some 66) #[true, true, true, true, true, true, true, true, true, true, true, true, true, true, true, true, true, true, true, true, true, true, true, true, true, true, true, false, false] rfl rfl (one_of HT_.out (by kernel_rfl)) (by decide) (fun K hK => ?_)
                 refine Kd.R_append_step k26 (w0 := w) w.heap.size (by rfl) (.tmp 41) (.tmp 65) 27 26 (.agg #[(.int .i64 0), (.int .i64 0), (.int .i64 0), (.int .i64 0), (.int .u32 0)]) 40 rfl Try.underlying27 info26 rfl (by decide) (by omega) u207001 x207001_2 (⟨wrap64 (rd x5_2 0), wrap64 (IntKind.u8.wrap (Int.tdiv (rd x5_2 1) 16)), wrap64 (Int.tmod (rd x5_2 1) 16), wrap64 (IntKind.i16.wrap (t220)), t226⟩ : S26) [.int .i64 (wrap64 (rd x5_2 0)), .int .i64 (wrap64 (IntKind.u8.wrap (Int.tdiv (rd x5_2 1) 16))), .int .i64 (wrap64 (Int.tmod (rd x5_2 1) 16)), .int .i64 (wrap64 (IntKind.i16.wrap (t220))), .int .u32 t226] (fun k_ => (w.heap.size ≤ k_)) (fun _ => False) rfl rfl ?aP (fun _ hk => hk.elim) ?aF ?aO ?aB ?aS ?aL ?_
                 (case aP => exact k26_mkM _ _ _ (⟨wrap64 (rd x5_2 0), wrap64 (IntKind.u8.wrap (Int.tdiv (rd x5_2 1) 16)), wrap64 (Int.tmod (rd x5_2 1) 16), wrap64 (IntKind.i16.wrap (t220)), t226⟩ : S26))
                 (case aB => exact (by repeat (first | (with_reducible first | exact HB.out | apply below_alloc | apply pw_below_drewN | apply below_drew1 | refine below_set ?_ GE188.out | refine below_set ?_ GE206.out) | exact HB.out)))
                 (case aF => exact (fun k_ hk => (Nat.le_trans (below_size (by repeat (first | (with_reducible first | exact HB.out | apply below_alloc | apply pw_below_drewN | apply below_drew1 | refine below_set ?_ GE188.out | refine below_set ?_ GE206.out) | exact HB.out))) hk)))
                 (case aO => exact (by (with_reducible repeat (first | apply Kd.R_alloc | apply Kd.R_drewN | apply Kd.R_drew)); exact HO_207001.out))
                 (case aS => exact (below_size (by repeat (first | (with_reducible first | exact HB.out | apply below_alloc | apply pw_below_drewN | apply below_drew1 | refine below_set ?_ GE188.out | refine below_set ?_ GE206.out) | exact HB.out))))
                 (case aL => have := LMc36.out; omega)
                 intro v228 w42 ho hb hg hat
                 rw [← Ny227.out] at ho
                 have n0_ := Aside0.mk (Kd.V_afterv (ok := (fun k_ => (P0_ k_ ∨ w.heap.size ≤ k_) ∧ k_ ≠ gb188 ∧ k_ ≠ gb206)) (by (with_reducible repeat (first | apply Kd.V_alloc | apply Kd.V_drewN | apply Kd.V_drew)); exact Kd.V_mono HO_5.out (fun _ hk => ⟨⟨hk.1, ⟨hk.2.2.1, hk.2.2.2⟩⟩, hk.2.1⟩)) hg hat)
                 have n1_ := Aside0.mk (blk_grown (g := gb188) (o := .cells #[.int .i64 0, .slice none 0 0] 32 (0, 0)) (by (with_reducible repeat (first | refine blk_drewN ?_ _ | refine blk_drew ?_ | refine blk_alloc ?_ _)); exact BK188.out) hg (Kd.R_ne HO_207001.out BK188.out (by decide)))
                 have n2_ := Aside0.mk (blk_grown (g := gb206) (o := .cells #[.int .i64 (wrap64 (t205)), u207001] 32 (0, 0)) (by (with_reducible repeat (first | refine blk_drewN ?_ _ | refine blk_drew ?_ | refine blk_alloc ?_ _)); exact BK206.out) hg (Kd.R_ne HO_207001.out BK206.out (by decide)))
                 have n3_ := Aside0.mk (Kd.V_afterv (ok := (fun k_ => (P0_ k_ ∨ w.heap.size ≤ k_) ∧ k_ ≠ gb188 ∧ k_ ≠ gb206)) (by (with_reducible repeat (first | apply Kd.V_alloc | apply Kd.V_drewN | apply Kd.V_drew)); exact Kd.V_mono HO219.out (fun _ hk => ⟨⟨hk.1, ⟨hk.2.2.1, hk.2.2.2⟩⟩, hk.2.1⟩)) hg hat)
                 have n4_ := Aside0.mk (Kd.V_afterv (ok := (fun k_ => (P0_ k_ ∨ w.heap.size ≤ k_) ∧ k_ ≠ gb188 ∧ k_ ≠ gb206)) (by (with_reducible repeat (first | apply Kd.V_alloc | apply Kd.V_drewN | apply Kd.V_drew)); exact Kd.V_mono HO225.out (fun _ hk => ⟨⟨hk.1, ⟨hk.2.2.1, hk.2.2.2⟩⟩, hk.2.1⟩)) hg hat)
                 have n5_ := Aside0.mk (hb)
                 have n6_ := Aside0.mk (ho)
                 clear HO_5
                 clear BK188
                 clear BK206
                 clear HO219
                 clear HO225
                 clear HB
                 clear HO_207001
                 have HO_5 := n0_
                 have BK188 := n1_
                 have BK206 := n2_
                 have HO219 := n3_
                 have HO225 := n4_
                 have HB := n5_
                 have HO229 := n6_
                 clear n0_ n1_ n2_ n3_ n4_ n5_ n6_
                 clear ho hb hg hat
                 obtain ⟨Ao43, co43, eo43⟩ := Kd.R_slice HO229.out
                 (first | subst eo43 | (injection eo43 with f1_ f2_ f3_; have f4_ := f1_.symm; have f5_ := f3_.symm; clear f1_ f2_ f3_; subst f4_; subst f5_))
                 refine hK.out _ _ ?_
                 clear hK K
                 refine norm_ (a' := ?_) ?_ ?_
                 rotate_left
                 ·show Act.put _ (some 66) _ = _
                  simp only [Act.put, List.setIfInBounds_toArray, List.set_cons_zero, List.set_cons_succ, i64_w, i32_w]
                  rfl
                 refine pure_ (i := 27) (N := some 67) (v := ?_) (a' := ?_) #[true, true, true, true, true, true, true, true, true, true, true, true, true, true, true, true, true, true, true, true, true, true, true, true, true, true, true, true, false] rfl rfl (any_of HT_.out (by kernel_rfl)) (fun _ _ _ h => h) (Or.inl ⟨by rfl, ?_⟩) ?_ ?_
                 rotate_left
                 ·intro w'
                  go_simp
                  with_reducible rfl
                 rotate_left
                 ·simp only [Act.put, List.setIfInBounds_toArray, List.set_cons_zero, List.set_cons_succ, i64_w, i32_w]
                  rfl
                 refine last_ (i := 28) (N := none) #[true, true, true, true, true, true, true, true, true, true, true, true, true, true, true, true, true, true, true, true, true, true, true, true, true, true, true, true, true] rfl rfl (one_of HT_.out (by kernel_rfl)) (by decide) (fun K hK => ?_)
                 have hs44 : w42.cell? ⟨gb206, 1, none⟩ = some (u207001) := (blk_cell BK206.out 1).trans rfl
                 have hfs44 := blk_frozen BK206.out 1
                 have hns44_0 := NB188_206.out
                 have hms44_0 := NB206_188.out
                 refine skip_ (w1 := ?_) (by rfl) rfl ?_ ?_
                 rotate_left
                 ·go_simp
                  rfl
                 refine hK.out _ _ ?_
                 clear hK K
                 refine done_ (done_of HT_.out (by kernel_rfl)) ?_
                 have n0_ : Aside0 (Kd.V (Kd.int .u8) 5 (w42.setCell ⟨gb206, 1, none⟩ (.slice Ao43 y227.length co43)) w.heap.size (fun k_ => (P0_ k_ ∨ w.heap.size ≤ k_) ∧ some k_ ≠ (.slice Ao43 y227.length co43 : Value).ownBlock ∧ k_ ≠ gb188 ∧ k_ ≠ gb206) (.slice (some ad212) x5_2.length co38) x5_2) := ⟨by (with_reducible repeat (first | apply Kd.V_alloc | apply Kd.V_drewN | apply Kd.V_drew)); exact Kd.V_mono (Kd.V_far (p := ⟨gb206, 1, none⟩) (Kd.V_mono HO_5.out (fun k_ hk => (⟨hk, hk.1.2.2⟩ : _ ∧ k_ ≠ gb206))) (fun _ hk => hk.2) (.slice Ao43 y227.length co43)) (fun _ hk => ⟨hk.1.1.1, ⟨hk.1.2, ⟨hk.1.1.2.1, hk.1.1.2.2⟩⟩⟩)⟩
                 have n1_ : Aside0 (Kd.V (Kd.int .u8) 5 (w42.setCell ⟨gb206, 1, none⟩ (.slice Ao43 y227.length co43)) w.heap.size (fun k_ => (P0_ k_ ∨ w.heap.size ≤ k_) ∧ some k_ ≠ (.slice Ao43 y227.length co43 : Value).ownBlock ∧ k_ ≠ gb188 ∧ k_ ≠ gb206) (.slice A40 y215.length c40) y215) := ⟨by (with_reducible repeat (first | apply Kd.V_alloc | apply Kd.V_drewN | apply Kd.V_drew)); exact Kd.V_mono (Kd.V_far (p := ⟨gb206, 1, none⟩) (Kd.V_mono HO219.out (fun k_ hk => (⟨hk, hk.1.2.2⟩ : _ ∧ k_ ≠ gb206))) (fun _ hk => hk.2) (.slice Ao43 y227.length co43)) (fun _ hk => ⟨hk.1.1.1, ⟨hk.1.2, ⟨hk.1.1.2.1, hk.1.1.2.2⟩⟩⟩)⟩
                 have n2_ : Aside0 (Kd.V (Kd.int .u8) 5 (w42.setCell ⟨gb206, 1, none⟩ (.slice Ao43 y227.length co43)) w.heap.size (fun k_ => (P0_ k_ ∨ w.heap.size ≤ k_) ∧ some k_ ≠ (.slice Ao43 y227.length co43 : Value).ownBlock ∧ k_ ≠ gb188 ∧ k_ ≠ gb206) (.slice A41 y221.length c41) y221) := ⟨by (with_reducible repeat (first | apply Kd.V_alloc | apply Kd.V_drewN | apply Kd.V_drew)); exact Kd.V_mono (Kd.V_far (p := ⟨gb206, 1, none⟩) (Kd.V_mono HO225.out (fun k_ hk => (⟨hk, hk.1.2.2⟩ : _ ∧ k_ ≠ gb206))) (fun _ hk => hk.2) (.slice Ao43 y227.length co43)) (fun _ hk => ⟨hk.1.1.1, ⟨hk.1.2, ⟨hk.1.1.2.1, hk.1.1.2.2⟩⟩⟩)⟩
                 have n3_ : Aside0 (Kd.R k26 26 (w42.setCell ⟨gb206, 1, none⟩ (.slice Ao43 y227.length co43)) w.heap.size (fun k_ => (w.heap.size ≤ k_)) (.slice Ao43 y227.length co43) y227) := ⟨by (with_reducible repeat (first | apply Kd.R_alloc | apply Kd.R_drewN | apply Kd.R_drew)); exact Kd.R_mono (Kd.R_far (p := ⟨gb206, 1, none⟩) (Kd.R_types HO229.out BK206.out (by decide)) (fun _ hk => hk.2) (.slice Ao43 y227.length co43)) (fun _ hk => hk.1)⟩
                 have n4_ : Aside0 ((w42.setCell ⟨gb206, 1, none⟩ (.slice Ao43 y227.length co43)).heap[gb188]? = some (.cells #[.int .i64 0, .slice none 0 0] 32 (0, 0))) := ⟨by (with_reducible repeat (first | refine blk_drewN ?_ _ | refine blk_drew ?_ | refine blk_alloc ?_ _)); refine blk_far ?_ NB188_206.out _; (with_reducible repeat (first | refine blk_drewN ?_ _ | refine blk_drew ?_ | refine blk_alloc ?_ _)); exact BK188.out⟩
                 have n5_ : Aside0 ((w42.setCell ⟨gb206, 1, none⟩ (.slice Ao43 y227.length co43)).heap[gb206]? = some (.cells #[.int .i64 (wrap64 (t205)), .slice Ao43 y227.length co43] 32 (0, 0))) := ⟨by (with_reducible repeat (first | refine blk_drewN ?_ _ | refine blk_drew ?_ | refine blk_alloc ?_ _)); refine blk_put (cs := #[.int .i64 (wrap64 (t205)), u207001]) ?_ 1 _ rfl; (with_reducible repeat (first | refine blk_drewN ?_ _ | refine blk_drew ?_ | refine blk_alloc ?_ _)); exact BK206.out⟩
                 have n6_ : Aside0 (Below w.heap.size w (w42.setCell ⟨gb206, 1, none⟩ (.slice Ao43 y227.length co43))) := ⟨by repeat (first | (with_reducible first | exact HB.out | apply below_alloc | apply pw_below_drewN | apply below_drew1 | refine below_set ?_ GE188.out | refine below_set ?_ GE206.out) | exact HB.out)⟩
                 (try clear HO_5)
                 (try clear HO219)
                 (try clear HO225)
                 (try clear HO229)
                 (try clear BK188)
                 (try clear BK206)
                 (try clear HB)
                 generalize (w42.setCell ⟨gb206, 1, none⟩ (.slice Ao43 y227.length co43)) = w45 at n0_ n1_ n2_ n3_ n4_ n5_ n6_ ⊢
                 have HO_5 := n0_
                 have HO219 := n1_
                 have HO225 := n2_
                 have HO229 := n3_
                 have BK188 := n4_
                 have BK206 := n5_
                 have HB := n6_
                 clear n0_ n1_ n2_ n3_ n4_ n5_ n6_
                 have q46 : (8 : Int) ≤ ((x5_2.length : Int) : Int) := of_decide_eq_true (by first | (with_reducible assumption) | assumption)
                 obtain ⟨i046, hi046, _, hsz46, _⟩ := info_parts info5
                 have hroom46 : x5_2.length ≤ co38 := (Kd.V_reads' HO_5.out).2.1
                 have hC46 : Kd.F (Kd.int .u8) _ _ (some ad212) x5_2.length x5_2 := (Kd.V_at (base := w.heap.size) HO_5.out).2.2
                 have hcut46 := cut_from (P := Try.prog) 40 5 .i64 Try.underlying40 hi046 1 hsz46 (some ad212) x5_2.length co38 8 (by omega) q46
                 have hr46 := Kd.F_cut (m := (8 : Int).toNat) (c := co38) hC46 (by omega) hroom46
                 obtain ⟨A46, hA46⟩ : ∃ A1, A1 = (if co38 = (8 : Int).toNat then (some ad212) else ((some ad212) : Option Addr).map (·.add ((8 : Int).toNat * 1))) := ⟨_, rfl⟩
                 obtain ⟨c46, hc46⟩ : ∃ c1, c1 = co38 - (8 : Int).toNat := ⟨_, rfl⟩
                 have hy46 : y230.length = x5_2.length - (8 : Int).toNat := (by rw [Ny230.out, List.length_drop] <;> omega)
                 rw [show (x5_2).drop (8 : Int).toNat = y230 from Ny230.out.symm] at hr46
                 replace hr46 : Kd.F (Kd.int .u8) _ _ A46 y230.length y230 := (by rw [hA46]; exact hr46)
                 rw [← hy46, ← hA46, ← hc46] at hcut46
                 have HO234 := Aside0.mk (show Kd.V (Kd.int .u8) 5 _ w.heap.size _ (.slice A46 y230.length c46) y230 from Kd.V_mk (by rw [hy46, hc46]; exact Nat.sub_le_sub_right hroom46 _) hr46)
                 have HC234 := Aside0.mk (show y230.length ≤ c46 from by rw [hy46, hc46]; exact Nat.sub_le_sub_right hroom46 _)
                 clear hr46 hC46 hroom46 hi046 hsz46 hc46
                 have KY46 := Aside0.mk hy46
                 have KA46 := Aside0.mk hA46
                 clear hy46 hA46
                 replace q46 := eq_true q46
                 try go_wp2
                 go_roundg k2
                 case measure => have := HJ1.out; have := HK2.out; omega
                 case rel => exact ⟨(y230), (y227), (.slice Ao43 y227.length co43), H', ⟨by have := HJ1.out; have := HK2.out; omega⟩, ⟨by (with_reducible repeat (first | apply Kd.V_alloc | apply Kd.V_drewN | apply Kd.V_drew)); exact HO234.out⟩, ⟨by (with_reducible repeat (first | apply Kd.R_alloc | apply Kd.R_drewN | apply Kd.R_drew)); exact HO229.out⟩, ⟨by (with_reducible repeat (first | refine blk_drewN ?_ _ | refine blk_drew ?_ | refine blk_alloc ?_ _)); exact BK188.out⟩, ⟨by (with_reducible repeat (first | refine blk_drewN ?_ _ | refine blk_drew ?_ | refine blk_alloc ?_ _)); exact BK206.out⟩, ⟨by repeat (first | (with_reducible first | exact HB.out | apply below_alloc | apply pw_below_drewN | apply below_drew1 | refine below_set ?_ GE188.out | refine below_set ?_ GE206.out) | exact HB.out)⟩⟩
                ·rw [if_neg c36] at H
                 exact absurd H (by simp)
               ·rw [if_neg c34] at H
                exact absurd H (by simp)
              ·rw [if_neg c33] at H
               exact absurd H (by simp)
             ·rw [if_neg c31] at H
              exact absurd H (by simp)
            ·rw [if_neg c30] at H
             exact absurd H (by simp)
           ·rw [if_neg c29] at H
            exact absurd H (by simp)
          ·rw [if_neg c28] at H
           exact absurd H (by simp)
         ·rw [if_neg c27] at H
          have c27b0 : decide (0 < (x5_2.length : Int)) = false := decide_eq_false c27
          have c27b1 : decide (0 < x5_2.length) = false := decide_eq_false (by omega)
          clear c27
          replace H := Option.bind_eq_some_iff.mp H
          obtain ⟨t235, A470, H⟩ := H
          replace H : (if t235 = 0 then (some ((wrap64 (t205)), x207001_2, 0)) else (some (0, ([] : List (S26)), t235))) = some (r1, r2, r3) := H
          have A47 := Aside0.mk A470
          clear A470
          by_cases c48 : t235 = 0
          ·rw [if_pos c48] at H
           have c48b0 : (t235 == 0) = true := beq_iff_eq.mpr c48
           have c48b1 : (t235 != 0) = false := bne_eq_false_iff_eq.mpr c48
           clear c48
           simp only [Option.some.injEq, Prod.mk.injEq] at H
           obtain ⟨rfl, rfl, rfl⟩ := H
           obtain ⟨Ao49, co49, eo49⟩ := Kd.V_slice HO_5.out
           subst eo49
           have hnb50 := NB206_188.out
           have hnc50 := NB188_206.out
           have hcz51_0 : wr.cell? ⟨gb206, 0, none⟩ = some (.int .i64 (wrap64 (t205))) := (blk_cell BK206.out 0).trans rfl
           have hcz51_1 : wr.cell? ⟨gb206, 1, none⟩ = some (u207001) := (blk_cell BK206.out 1).trans rfl
           have hfz51_0 := blk_frozen BK206.out 0
           have hfz51_1 := blk_frozen BK206.out 1
           obtain ⟨Ao52, co52, eo52⟩ := Kd.R_slice HO_207001.out
           subst eo52
           go_wp2_with (first | ((with_reducible refine gate_callee (f := 11) rfl ?_); refine goesL_ (some 69) rfl rfl Try.func11 (by kernel_rfl) rfl #[.agg #[.int .i64 (wrap64 (t205)), .slice Ao52 x207001_2.length co52]] rfl (by (try simp only [List.map_toArray, List.map_cons, List.map_nil]); first | done | rfl | (simp only [List.length_drop, List.length_take]; rfl)) ?_; (with_reducible refine (code_Check.calls k2 (wrap64 (t205)) _ _ x207001_2 t235 _ ?side1 ?side2 A47.out).mono ?_); (case side1 => repeat (first | exact (Kd.R_reads' HO_207001.out).2.2 | (with_reducible refine Kd.C_alloc ?_ _) | (with_reducible refine Kd.C_drewN ?_ _) | (with_reducible refine Kd.C_drew ?_))); (case side2 => exact (Kd.R_reads' HO_207001.out).2.1); rintro e w53 ⟨rfl, hb⟩; refine ⟨_, rfl, ?_⟩; have n0_ := Aside0.mk (Kd.V_below (by (with_reducible repeat (first | apply Kd.V_alloc | apply Kd.V_drewN | apply Kd.V_drew)); exact HO_5.out) hb); have n1_ := Aside0.mk (Kd.R_below (by (with_reducible repeat (first | apply Kd.R_alloc | apply Kd.R_drewN | apply Kd.R_drew)); exact HO_207001.out) hb); have n2_ := Aside0.mk (blk_below (g := gb188) (o := .cells #[.int .i64 0, .slice none 0 0] 32 (0, 0)) (by (with_reducible repeat (first | refine blk_drewN ?_ _ | refine blk_drew ?_ | refine blk_alloc ?_ _)); exact BK188.out) hb); have n3_ := Aside0.mk (blk_below (g := gb206) (o := .cells #[.int .i64 (wrap64 (t205)), .slice Ao52 x207001_2.length co52] 32 (0, 0)) (by (with_reducible repeat (first | refine blk_drewN ?_ _ | refine blk_drew ?_ | refine blk_alloc ?_ _)); exact BK206.out) hb); have n4_ := Aside0.mk (below_step (by repeat (first | (with_reducible first | exact HB.out | apply below_alloc | apply pw_below_drewN | apply below_drew1 | refine below_set ?_ GE188.out | refine below_set ?_ GE206.out) | exact HB.out)) hb); clear HO_5; clear HO_207001; clear BK188; clear BK206; clear HB; have HO_5 := n0_; have HO_207001 := n1_; have BK188 := n2_; have BK206 := n3_; have HB := n4_; clear n0_ n1_ n2_ n3_ n4_; (try clear hb); (try clear hb2); (try clear hk); (try clear hi); have hcz54_0 : w53.cell? ⟨gb206, 0, none⟩ = some (.int .i64 (wrap64 (t205))) := (blk_cell BK206.out 0).trans rfl; have hcz54_1 : w53.cell? ⟨gb206, 1, none⟩ = some (.slice Ao52 x207001_2.length co52) := (blk_cell BK206.out 1).trans rfl; have hfz54_0 := blk_frozen BK206.out 0; have hfz54_1 := blk_frozen BK206.out 1; have hcz55_0 : w53.cell? ⟨gb188, 0, none⟩ = some (.int .i64 0) := (blk_cell BK188.out 0).trans rfl; have hcz55_1 : w53.cell? ⟨gb188, 1, none⟩ = some (.slice none 0 0) := (blk_cell BK188.out 1).trans rfl; have hfz55_0 := blk_frozen BK188.out 0; have hfz55_1 := blk_frozen BK188.out 1))
           refine bodyPost_ret (results_ct rfl _ _ gb188 32 #[.int .i64 (wrap64 (t205)), .slice Ao52 x207001_2.length co52] (0, 0) _ rfl (by (with_reducible repeat (first | refine blk_drewN ?_ _ | refine blk_drew ?_ | refine blk_alloc ?_ _)); refine blk_put (cs := #[.int .i64 (wrap64 (t205)), .slice none 0 0]) ?_ 1 _ rfl; (with_reducible repeat (first | refine blk_drewN ?_ _ | refine blk_drew ?_ | refine blk_alloc ?_ _)); refine blk_put (cs := #[.int .i64 0, .slice none 0 0]) ?_ 0 _ rfl; (with_reducible repeat (first | refine blk_drewN ?_ _ | refine blk_drew ?_ | refine blk_alloc ?_ _)); exact BK188.out) Try.underlying32 rfl (by kernel_rfl)) rfl ?_
           exact ⟨_, by first | rfl | (simp [errW_none, errW_some] <;> rfl) | (simp [*, errW_none, errW_some] <;> rfl), by (with_reducible repeat (first | apply Kd.R_alloc | apply Kd.R_drewN | apply Kd.R_drew)); exact Kd.R_mono (Kd.R_far (p := ⟨gb188, 1, none⟩) (Kd.R_far (p := ⟨gb188, 0, none⟩) (Kd.R_types HO_207001.out BK188.out (by decide)) (fun _ hk => hk.2) (.int .i64 (wrap64 (t205)))) (fun _ hk => hk.2) (.slice Ao52 x207001_2.length co52)) (fun _ hk => hk.1), by repeat (first | (with_reducible first | exact HB.out | apply below_alloc | apply pw_below_drewN | apply below_drew1 | refine below_set ?_ GE188.out | refine below_set ?_ GE206.out) | exact HB.out)⟩
          ·rw [if_neg c48] at H
           have c48b0 : (t235 == 0) = false := beq_eq_false_iff_ne.mpr c48
           have c48b1 : (t235 != 0) = true := bne_iff_ne.mpr c48
           simp only [Option.some.injEq, Prod.mk.injEq] at H
           obtain ⟨rfl, rfl, rfl⟩ := H
           obtain ⟨Ao56, co56, eo56⟩ := Kd.V_slice HO_5.out
           subst eo56
           have hnb57 := NB206_188.out
           have hnc57 := NB188_206.out
           have hcz58_0 : wr.cell? ⟨gb206, 0, none⟩ = some (.int .i64 (wrap64 (t205))) := (blk_cell BK206.out 0).trans rfl
           have hcz58_1 : wr.cell? ⟨gb206, 1, none⟩ = some (u207001) := (blk_cell BK206.out 1).trans rfl
           have hfz58_0 := blk_frozen BK206.out 0
           have hfz58_1 := blk_frozen BK206.out 1
           obtain ⟨Ao59, co59, eo59⟩ := Kd.R_slice HO_207001.out
           subst eo59
           go_wp2_with (first | ((with_reducible refine gate_callee (f := 11) rfl ?_); refine goesL_ (some 69) rfl rfl Try.func11 (by kernel_rfl) rfl #[.agg #[.int .i64 (wrap64 (t205)), .slice Ao59 x207001_2.length co59]] rfl (by (try simp only [List.map_toArray, List.map_cons, List.map_nil]); first | done | rfl | (simp only [List.length_drop, List.length_take]; rfl)) ?_; (with_reducible refine (code_Check.calls k2 (wrap64 (t205)) _ _ x207001_2 t235 _ ?side1 ?side2 A47.out).mono ?_); (case side1 => repeat (first | exact (Kd.R_reads' HO_207001.out).2.2 | (with_reducible refine Kd.C_alloc ?_ _) | (with_reducible refine Kd.C_drewN ?_ _) | (with_reducible refine Kd.C_drew ?_))); (case side2 => exact (Kd.R_reads' HO_207001.out).2.1); rintro e w60 ⟨rfl, hb⟩; refine ⟨_, rfl, ?_⟩; have n0_ := Aside0.mk (Kd.V_below (by (with_reducible repeat (first | apply Kd.V_alloc | apply Kd.V_drewN | apply Kd.V_drew)); exact HO_5.out) hb); have n1_ := Aside0.mk (Kd.R_below (by (with_reducible repeat (first | apply Kd.R_alloc | apply Kd.R_drewN | apply Kd.R_drew)); exact HO_207001.out) hb); have n2_ := Aside0.mk (blk_below (g := gb188) (o := .cells #[.int .i64 0, .slice none 0 0] 32 (0, 0)) (by (with_reducible repeat (first | refine blk_drewN ?_ _ | refine blk_drew ?_ | refine blk_alloc ?_ _)); exact BK188.out) hb); have n3_ := Aside0.mk (blk_below (g := gb206) (o := .cells #[.int .i64 (wrap64 (t205)), .slice Ao59 x207001_2.length co59] 32 (0, 0)) (by (with_reducible repeat (first | refine blk_drewN ?_ _ | refine blk_drew ?_ | refine blk_alloc ?_ _)); exact BK206.out) hb); have n4_ := Aside0.mk (below_step (by repeat (first | (with_reducible first | exact HB.out | apply below_alloc | apply pw_below_drewN | apply below_drew1 | refine below_set ?_ GE188.out | refine below_set ?_ GE206.out) | exact HB.out)) hb); clear HO_5; clear HO_207001; clear BK188; clear BK206; clear HB; have HO_5 := n0_; have HO_207001 := n1_; have BK188 := n2_; have BK206 := n3_; have HB := n4_; clear n0_ n1_ n2_ n3_ n4_; (try clear hb); (try clear hb2); (try clear hk); (try clear hi); have hcz61_0 : w60.cell? ⟨gb188, 0, none⟩ = some (.int .i64 0) := (blk_cell BK188.out 0).trans rfl; have hcz61_1 : w60.cell? ⟨gb188, 1, none⟩ = some (.slice none 0 0) := (blk_cell BK188.out 1).trans rfl; have hfz61_0 := blk_frozen BK188.out 0; have hfz61_1 := blk_frozen BK188.out 1))
           refine bodyPost_ret (results_ct rfl _ _ gb188 32 #[.int .i64 0, .slice none 0 0] (0, 0) _ rfl (by (with_reducible repeat (first | refine blk_drewN ?_ _ | refine blk_drew ?_ | refine blk_alloc ?_ _)); refine blk_put (cs := #[.int .i64 0, .slice none 0 0]) ?_ 1 _ rfl; (with_reducible repeat (first | refine blk_drewN ?_ _ | refine blk_drew ?_ | refine blk_alloc ?_ _)); refine blk_put (cs := #[.int .i64 0, .slice none 0 0]) ?_ 0 _ rfl; (with_reducible repeat (first | refine blk_drewN ?_ _ | refine blk_drew ?_ | refine blk_alloc ?_ _)); exact BK188.out) Try.underlying32 rfl (by kernel_rfl)) rfl ?_
           exact ⟨_, by first | rfl | (simp [errW_none, errW_some] <;> rfl) | (simp [*, errW_none, errW_some] <;> rfl), by first | exact Kd.R_nil _ _ _ _ _ | exact Kd.N_nil _ _ _ _ _ | exact Kd.V_nil _ _ _ _ _ | exact Kd.Q_nil _ _ _ _ _ | exact Kd.S_nil _ _ _ _ _, by repeat (first | (with_reducible first | exact HB.out | apply below_alloc | apply pw_below_drewN | apply below_drew1 | refine below_set ?_ GE188.out | refine below_set ?_ GE206.out) | exact HB.out)⟩
      ·rw [if_neg c20] at H
       exact absurd H (by simp)
     ·rw [if_neg c18] at H
      exact absurd H (by simp)
    ·rw [if_neg c17] at H
     exact absurd H (by simp)

end Go.Proofs.Ythkepoimagnagaa.K
